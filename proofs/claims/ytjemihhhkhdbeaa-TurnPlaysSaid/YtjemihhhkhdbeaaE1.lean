/- The engine, part 1: what it reckons of the code is what the code does. Conditions: none but those each theorem states. -/
import Derived.Test.YtjemihhhkhdbeaaE0
import Derived.Laws.BytesString
import Derived.Laws.Append
/-! Operands, comparisons and arithmetic: what the interpreter tells is what the model computes. Conditions: none. -/
section
set_option linter.unusedVariables false
set_option linter.unusedSimpArgs false
namespace Go.Eng
open Go.RowKit
section
variable {m : Lm} {w : World} {F : Cells}

/-! ### what a temporary's value says -/
theorem rel_sc {v : V} {x : Value} (hu : v ≠ .u) (ht : ∀ y, v ≠ .tup y) (ha : v.isAgg = false) : Rel1 m w F v x ↔ RelV m w F v [x] := by
  rw [rel1_def ht, relS_def hu, if_neg (by simp [ha])]
theorem rel_imm {s : Sh} {p : P} {x : Value} (ha : s.isAgg = false) : Rel1 m w F (.imm s p) x ↔ Rep w F s p [x] :=
  rel_sc (by simp) (by simp) ha
theorem rel_agg {v : V} {x : Value} (hu : v ≠ .u) (ht : ∀ y, v ≠ .tup y) (ha : v.isAgg = true) : Rel1 m w F v x ↔ ∃ cs, x = .agg cs ∧ RelV m w F v cs.toList := by
  rw [rel1_def ht, relS_def hu, if_pos ha]
theorem rel_int {k : IntKind} {p : P} {x : Value} : Rel1 m w F (.imm (.int k) p) x ↔ p = .int k p.toInt ∧ x = .int k p.toInt := by
  rw [rel_imm rfl]
  constructor
  · rintro ⟨n, rfl, h⟩; injection h with h; exact ⟨rfl, h⟩
  · rintro ⟨h1, h2⟩; exact ⟨p.toInt, h1, by rw [h2]⟩
theorem rel_bool {p : P} {x : Value} : Rel1 m w F (.imm .bool p) x ↔ p = .bool p.toBool ∧ x = .bool p.toBool := by
  rw [rel_imm rfl]
  constructor
  · rintro ⟨n, rfl, h⟩; injection h with h; exact ⟨rfl, h⟩
  · rintro ⟨h1, h2⟩; exact ⟨p.toBool, h1, by rw [h2]⟩
theorem rel_str {p : P} {x : Value} : Rel1 m w F (.imm .str p) x ↔ p = .str p.toStr ∧ x = .string p.toStr := by
  rw [rel_imm rfl]
  constructor
  · rintro ⟨n, rfl, h⟩; injection h with h; exact ⟨rfl, h⟩
  · rintro ⟨h1, h2⟩; exact ⟨p.toStr, h1, by rw [h2]⟩
theorem mk_int (k : IntKind) (n : Int) : Rel1 m w F (.imm (.int k) (.int k n)) (.int k n) := rel_int.2 ⟨rfl, rfl⟩
theorem mk_bool (b : Bool) : Rel1 m w F (.imm .bool (.bool b)) (.bool b) := rel_bool.2 ⟨rfl, rfl⟩
theorem mk_str (s : ByteArray) : Rel1 m w F (.imm .str (.str s)) (.string s) := rel_str.2 ⟨rfl, rfl⟩
theorem mk_immOf {p : P} {x : Value} (h : (∃ k n, p = .int k n ∧ x = .int k n) ∨ (∃ b, p = .bool b ∧ x = .bool b)) : Rel1 m w F (immOf p) x := by
  rcases h with ⟨k, n, rfl, rfl⟩ | ⟨b, rfl, rfl⟩
  · exact mk_int k n
  · exact mk_bool b

/-! ### operands -/
theorem conV_rel (v : Value) : Rel1 m w F (conV v) v ∧ (conV v).ids = [] := by
  unfold conV
  split
  · exact ⟨mk_int _ _, rfl⟩
  · exact ⟨mk_bool _, rfl⟩
  · exact ⟨mk_str _, rfl⟩
  · exact ⟨(rel_imm rfl).2 ⟨rfl, rfl⟩, rfl⟩
  · exact ⟨(rel_imm rfl).2 ⟨rfl, rfl⟩, rfl⟩
  · exact ⟨(rel_imm rfl).2 ⟨rfl, rfl⟩, rfl⟩
  · exact ⟨(rel_sc (by simp) (by simp) rfl).2 rfl, rfl⟩
  · exact ⟨trivial, rfl⟩
end
section
variable {X : Cells} {S0 : Base} {w0 : World} {N : Nat} {m : Lm} {s : St} {a : Act} {w : World}
theorem ev_rel (h : R0 X S0 w0 N m s a.tmps w) (x : Operand) : Rel1 m w (Fb X m s.h) (s.ev x) (a.eval x) := by
  cases x with
  | tmp t => exact h.tmps t
  | const v => exact (conV_rel v).1
  | func f => exact (rel_sc (by simp [St.ev]) (by simp [St.ev]) rfl).2 ⟨#[], rfl, rfl, rfl⟩
  | global g => trivial
theorem ev_ids (h : R0 X S0 w0 N m s a.tmps w) (x : Operand) : ∀ id ∈ (s.ev x).ids, getBox id s.h ≠ none := by
  cases x with
  | tmp t => exact h.wft t
  | const v => intro id hi; rw [show (s.ev (.const v)).ids = (conV v).ids from rfl, (conV_rel (m := m) (w := w) (F := fun _ _ => False) v).2] at hi; cases hi
  | func f => intro id hi; cases hi
  | global g => intro id hi; cases hi
theorem as_rel {F : Cells} {v : V} {sh : Option Sh} {x : Value} (h : Rel1 m w F v x) : Rel1 m w F (v.as sh) x := by
  unfold V.as
  split
  · split
    · have := (rel_sc (by simp) (by simp) rfl).1 h
      simp only [RelV, List.cons.injEq, and_true] at this
      subst this
      exact (rel_imm rfl).2 ⟨none, [], 0, rfl, rfl, Nat.le_refl _, fun _ => rfl, fun i hi => absurd hi (by simp)⟩
    · exact h
  · exact h
theorem as_ids (v : V) (sh : Option Sh) : (v.as sh).ids = v.ids := by
  unfold V.as
  split
  · split <;> rfl
  · rfl
theorem as_relV {F : Cells} {v : V} {sh : Option Sh} {cs : List Value} (h : RelV m w F v cs) : RelV m w F (v.as sh) cs := by
  unfold V.as
  split
  · split
    · simp only [RelV] at h; subst h
      exact ⟨none, [], 0, rfl, rfl, Nat.le_refl _, fun _ => rfl, fun i hi => absurd hi (by simp)⟩
    · exact h
  · exact h

/-! ### the binary operations -/
theorem eqGuard_ok {P : Program} {op : BinOp} {t : TypeId} {ox oy : Operand} {x y : Value} (h : one x) (hn : x ≠ .nilIface) : (eqGuard op t ox oy x y).run P w = .ok () w := by
  cases op <;> first
    | rfl
    | (cases x <;> first | rfl | exact absurd rfl hn | (simp [one, Value.oneCell'] at h; done) | (cases y <;> rfl))
theorem intOp_ok {P : Program} {op : BinOp} {k : IntKind} {t : TypeId} {i j : Int} {r : Eng.P} (hr : intOp op k i j = some r) :
    ∃ z, (binOp op t (.int k i) (.int k j)).run P w = .ok z w ∧ ((∃ k n, r = .int k n ∧ z = .int k n) ∨ (∃ b, r = .bool b ∧ z = .bool b)) := by
  cases op <;> simp only [intOp, reduceCtorEq, Option.some.injEq] at hr <;> subst hr <;>
    first
      | (refine ⟨_, ?_, .inl ⟨_, _, rfl, rfl⟩⟩; simp [binOp, Op.intArith, Op.intBits, Op.intCmp]; done)
      | (refine ⟨_, ?_, .inr ⟨_, rfl, rfl⟩⟩; simp [binOp, Op.intArith, Op.intBits, Op.intCmp]; done)
theorem strOp_ok {P : Program} {op : BinOp} {t : TypeId} {a b : ByteArray} {r : Eng.P} (hr : strOp op a b = some r) :
    ∃ z, (binOp op t (.string a) (.string b)).run P w = .ok z w ∧ ((∃ k n, r = .int k n ∧ z = .int k n) ∨ (∃ b, r = .bool b ∧ z = .bool b)) := by
  cases op <;> simp only [strOp, reduceCtorEq, Option.some.injEq] at hr <;> subst hr <;>
    (refine ⟨_, ?_, .inr ⟨_, rfl, rfl⟩⟩; simp [binOp, Op.stringOp, strEq, strLt]; done)
theorem sameK_some {R : Type} {a b : IntKind} {x : Option R} {r : R} (h : sameK a b x = some r) : a = b ∧ x = some r := by
  unfold sameK at h
  cases hb : Nat.beq (kindNo a) (kindNo b) with
  | true => rw [hb] at h; exact ⟨kindNo_inj (beq_iff.1 hb), h⟩
  | false => rw [hb] at h; cases h
theorem eqlV_ok {P : Program} {R : Type} {op : BinOp} {b : Bool} {k : V → Option R} {r : R} {t : TypeId} {x y : Value} (h : eqlV op b k = some r)
    (he : (Op.equal t x y).run P w = .ok b w) (hx : ∀ k n, x ≠ .int k n) (hf : ∀ k n, x ≠ .float k n) (hc : ∀ k n q, x ≠ .complex k n q) (hs : ∀ n, x ≠ .string n) :
    ∃ b', k (.imm .bool (.bool b')) = some r ∧ (binOp op t x y).run P w = .ok (.bool b') w := by
  cases op <;> simp only [eqlV, reduceCtorEq] at h
  · refine ⟨_, h, ?_⟩
    cases x <;> first | exact absurd rfl (hx _ _) | exact absurd rfl (hf _ _) | exact absurd rfl (hc _ _ _) | exact absurd rfl (hs _) | simp [binOp, he]
  · refine ⟨_, h, ?_⟩
    cases x <;> first | exact absurd rfl (hx _ _) | exact absurd rfl (hf _ _) | exact absurd rfl (hc _ _ _) | exact absurd rfl (hs _) | simp [binOp, he]
theorem rel_slf {F : Cells} {id : Nat} {e : Sh} {x : Value} : Rel1 m w F (.slf id e) x ↔ ∃ a len cap, m id = .arr a len cap e ∧ x = .slice (adr a) len cap := by
  rw [rel_sc (by simp) (by simp) rfl]
  constructor
  · rintro ⟨a, len, cap, h1, h2⟩; injection h2 with h2; exact ⟨a, len, cap, h1, h2⟩
  · rintro ⟨a, len, cap, h1, rfl⟩; exact ⟨a, len, cap, h1, rfl⟩
theorem rel_ref {F : Cells} {id : Nat} {path : List Stp} {sh : Sh} {x : Value} : Rel1 m w F (.ref id path sh) x ↔ addrOf (m id) path sh x := by
  rw [rel_sc (by simp) (by simp) rfl]
  constructor
  · rintro ⟨v, h1, h2⟩; injection h1 with h1; subst h1; exact h2
  · intro h; exact ⟨x, rfl, h⟩
theorem addr_ptr {l : Loc} {path : List Stp} {sh : Sh} {x : Value} (h : addrOf l path sh x) : ∃ b o, x = .pointer (some (mkA b o)) := by
  unfold addrOf at h
  split at h
  · obtain ⟨off, _, rfl⟩ := h; exact ⟨_, _, rfl⟩
  · obtain ⟨n, r, off, _, _, _, rfl⟩ := h; exact ⟨_, _, rfl⟩
  · exact h.elim
  · obtain ⟨n, r, off, _, _, _, rfl⟩ := h; exact ⟨_, _, rfl⟩
theorem dv_rel {F : Cells} {v : V} {x : Value} (h : Rel1 m w F v x) : Rel1 m w F v.dv x := by
  cases v <;> try exact h
  obtain ⟨b, q, v, _, h2, h3, _⟩ := (rel_sc (by simp) (by simp) rfl).1 h
  injection h2 with h2; subst h2
  exact (rel_imm rfl).2 h3
theorem equal_run {P : Program} {t : TypeId} {d : TypeDesc} (hu : P.underlying t = some d) (x y : Value) :
    (Op.equal t x y).run P w = (Op.equalIn (9999 + 1) t x y).run P w := rfl
section
variable {P : Program} {t : TypeId} (d : Nat)
theorem eqI_bool (hu : P.underlying t = some .bool) (a b : Bool) : (Op.equalIn (d + 1) t (.bool a) (.bool b)).run P w = .ok (a == b) w := by simp [Op.equalIn, run_underlying hu]
theorem eqI_pnn {e : TypeId} (hu : P.underlying t = some (.pointer e)) : (Op.equalIn (d + 1) t (.pointer none) (.pointer none)).run P w = .ok true w := by simp [Op.equalIn, run_underlying hu]
theorem eqI_pns {e : TypeId} (hu : P.underlying t = some (.pointer e)) (a : Addr) : (Op.equalIn (d + 1) t (.pointer none) (.pointer (some a))).run P w = .ok false w := by simp [Op.equalIn, run_underlying hu]
theorem eqI_psn {e : TypeId} (hu : P.underlying t = some (.pointer e)) (a : Addr) : (Op.equalIn (d + 1) t (.pointer (some a)) (.pointer none)).run P w = .ok false w := by simp [Op.equalIn, run_underlying hu]
theorem eqI_sn {e : TypeId} (hu : P.underlying t = some (.slice e)) (a : Option Addr) (l cap : Nat) : (Op.equalIn (d + 1) t (.slice a l cap) (.slice none 0 0)).run P w = .ok a.isNone w := by cases a <;> simp [Op.equalIn, run_underlying hu]
theorem eqI_ns {e : TypeId} (hu : P.underlying t = some (.slice e)) (a : Option Addr) (l cap : Nat) : (Op.equalIn (d + 1) t (.slice none 0 0) (.slice a l cap)).run P w = .ok a.isNone w := by cases a <;> simp [Op.equalIn, run_underlying hu]
theorem eqI_fnn {a b : Array TypeId} {v : Bool} (hu : P.underlying t = some (.func a b v)) : (Op.equalIn (d + 1) t .nilFunc .nilFunc).run P w = .ok true w := by simp [Op.equalIn, run_underlying hu]
theorem eqI_ffn {a b : Array TypeId} {v : Bool} (hu : P.underlying t = some (.func a b v)) (f : Fn) (x y : Array Value) : (Op.equalIn (d + 1) t (.func f x y) .nilFunc).run P w = .ok false w := by simp [Op.equalIn, run_underlying hu]
theorem eqI_fnf {a b : Array TypeId} {v : Bool} (hu : P.underlying t = some (.func a b v)) (f : Fn) (x y : Array Value) : (Op.equalIn (d + 1) t .nilFunc (.func f x y)).run P w = .ok false w := by simp [Op.equalIn, run_underlying hu]
theorem eqI_msn {a b : TypeId} (hu : P.underlying t = some (.map a b)) (r : Nat) : (Op.equalIn (d + 1) t (.map (some r)) (.map none)).run P w = .ok false w := by simp [Op.equalIn, run_underlying hu]
theorem eqI_mns {a b : TypeId} (hu : P.underlying t = some (.map a b)) (r : Nat) : (Op.equalIn (d + 1) t (.map none) (.map (some r))).run P w = .ok false w := by simp [Op.equalIn, run_underlying hu]
theorem eqI_mnn {a b : TypeId} (hu : P.underlying t = some (.map a b)) : (Op.equalIn (d + 1) t (.map none) (.map none)).run P w = .ok true w := by simp [Op.equalIn, run_underlying hu]
end
theorem eqV_ok {c : Cx} {t : TypeId} {v v2 : V} {x y : Value} {b : Bool} (h : R0 X S0 w0 N m s a.tmps w) (hv : Rel1 m w (Fb X m s.h) v x) (hw : Rel1 m w (Fb X m s.h) v2 y)
    (he : eqV c s t v v2 = some b) : (Op.equal t x y).run c.p w = .ok b w ∧ one x ∧ x ≠ .nilIface ∧ (∀ k n, x ≠ .int k n) ∧ (∀ k n, x ≠ .float k n) ∧ (∀ k n q, x ≠ .complex k n q) ∧ (∀ n, x ≠ .string n) := by
  have hnil : ∀ {x : Value}, Rel1 m w (Fb X m s.h) .nils x → x = .slice none 0 0 := by
    intro x hx
    have := (rel_sc (by simp) (by simp) rfl).1 hx
    simpa [RelV] using this
  have hptr : ∀ {p : Eng.P} {x : Value}, Rel1 m w (Fb X m s.h) (.imm .ptr p) x → x = .pointer none := by
    intro p x hx; have := (rel_imm rfl).1 hx; simpa [Rep] using this.2
  have hfn : ∀ {p : Eng.P} {x : Value}, Rel1 m w (Fb X m s.h) (.imm .fn p) x → x = .nilFunc := by
    intro p x hx; have := (rel_imm rfl).1 hx; simpa [Rep] using this.2
  have hmap : ∀ {p : Eng.P} {x : Value}, Rel1 m w (Fb X m s.h) (.imm .map p) x → x = .map none := by
    intro p x hx; have := (rel_imm rfl).1 hx; simpa [Rep] using this.2
  have hip : ∀ {sh : Sh} {p : Eng.P} {x : Value}, Rel1 m w (Fb X m s.h) (.iptr sh p) x → ∃ b o, x = .pointer (some (mkA b o)) := by
    intro sh p x hx
    obtain ⟨b, o, c, h1, _⟩ := (rel_sc (by simp) (by simp) rfl).1 hx
    injection h1 with h1; exact ⟨b, o, h1⟩
  have hsl : ∀ {e : Sh} {p : Eng.P} {x : Value}, Rel1 m w (Fb X m s.h) (.imm (.slice e) p) x → ∃ (a : Option Addr) (l cap : Nat), x = .slice a l cap ∧ p.isNil = a.isNone := by
    intro e p x hx
    obtain ⟨a, xs, cap, rfl, h2, _⟩ := (rel_imm rfl).1 hx
    injection h2 with h2; exact ⟨a, _, cap, h2, rfl⟩
  have hem : ∀ {e : Sh} {n : Bool} {x : Value}, Rel1 m w (Fb X m s.h) (.emp e n) x → ∃ a : Option Addr, x = .slice a 0 0 ∧ n = a.isNone := by
    intro e n x hx
    obtain ⟨a, h1, h2⟩ := (rel_sc (by simp) (by simp) rfl).1 hx
    injection h1 with h1; exact ⟨a, h1, h2⟩
  have hslf : ∀ {id : Nat} {e : Sh} {x : Value} {e' : Sh} {n : Bool} {xs : List Eng.P}, Rel1 m w (Fb X m s.h) (.slf id e) x → getBox id s.h = some (.arr e' n xs) → ∃ (a : Option Addr) (l cap : Nat), x = .slice a l cap ∧ n = a.isNone := by
    intro id e x e' n xs hx hb
    obtain ⟨a, len, cap, h1, rfl⟩ := rel_slf.1 hx
    obtain ⟨a', cap', g1, g2, _⟩ := h.box id _ hb
    rw [h1] at g1; injection g1 with q1; subst q1
    exact ⟨adr a, len, cap, rfl, by rw [adr_none]; exact g2⟩
  have seq : ∀ (d : TypeId) (a : Option Addr) (l cap : Nat), c.p.underlying t = some (.slice d) → (Op.equal t (.slice a l cap) (.slice none 0 0)).run c.p w = .ok a.isNone w ∧ (Op.equal t (.slice none 0 0) (.slice a l cap)).run c.p w = .ok a.isNone w := by
    intro d a l cap hu
    exact ⟨eqI_sn 9999 hu a l cap, eqI_ns 9999 hu a l cap⟩
  unfold eqV at he
  split at he <;> rename_i hu
  · split at he
    · obtain rfl := Option.some.inj he
      obtain ⟨_, rfl⟩ := rel_bool.1 hv
      obtain ⟨_, rfl⟩ := rel_bool.1 hw
      refine ⟨?_, by simp [one, Value.oneCell'], by simp, by simp, by simp, by simp, by simp⟩
      exact eqI_bool 9999 hu _ _
    · cases he
  · split at he <;> first | cases he; done | skip
    · obtain rfl := Option.some.inj he
      have := hptr hv; subst this; have := hptr hw; subst this
      refine ⟨?_, by simp [one, Value.oneCell'], by simp, by simp, by simp, by simp, by simp⟩
      exact eqI_pnn 9999 hu
    · obtain rfl := Option.some.inj he
      have := hptr hv; subst this; obtain ⟨b, o, rfl⟩ := addr_ptr (rel_ref.1 hw)
      refine ⟨?_, by simp [one, Value.oneCell'], by simp, by simp, by simp, by simp, by simp⟩
      exact eqI_pns 9999 hu _
    · obtain rfl := Option.some.inj he
      have := hptr hv; subst this; obtain ⟨b, o, rfl⟩ := hip hw
      refine ⟨?_, by simp [one, Value.oneCell'], by simp, by simp, by simp, by simp, by simp⟩
      exact eqI_pns 9999 hu _
    · obtain rfl := Option.some.inj he
      have := hptr hw; subst this; obtain ⟨b, o, rfl⟩ := addr_ptr (rel_ref.1 hv)
      refine ⟨?_, by simp [one, Value.oneCell'], by simp, by simp, by simp, by simp, by simp⟩
      exact eqI_psn 9999 hu _
    · obtain rfl := Option.some.inj he
      have := hptr hw; subst this; obtain ⟨b, o, rfl⟩ := hip hv
      refine ⟨?_, by simp [one, Value.oneCell'], by simp, by simp, by simp, by simp, by simp⟩
      exact eqI_psn 9999 hu _
  · have fin : ∀ (a : Option Addr) (l cap : Nat), one (.slice a l cap) ∧ (Value.slice a l cap) ≠ .nilIface ∧ (∀ k n, (Value.slice a l cap) ≠ .int k n) ∧ (∀ k n, (Value.slice a l cap) ≠ .float k n) ∧ (∀ k n q, (Value.slice a l cap) ≠ .complex k n q) ∧ (∀ n, (Value.slice a l cap) ≠ .string n) := fun a l cap =>
      ⟨by simp [one, Value.oneCell'], by simp, by simp, by simp, by simp, by simp⟩
    split at he <;> first | cases he; done | skip
    · obtain rfl := Option.some.inj he
      have := hnil hv; subst this; have := hnil hw; subst this
      exact ⟨(seq _ none 0 0 hu).1, fin _ _ _⟩
    · obtain rfl := Option.some.inj he
      obtain ⟨a, l, cap, rfl, e1⟩ := hsl hv; have := hnil hw; subst this
      rw [e1]; exact ⟨(seq _ _ l cap hu).1, fin _ _ _⟩
    · obtain rfl := Option.some.inj he
      obtain ⟨a, l, cap, rfl, e1⟩ := hsl hw; have := hnil hv; subst this
      rw [e1]; exact ⟨(seq _ _ l cap hu).2, fin _ _ _⟩
    · obtain rfl := Option.some.inj he
      obtain ⟨a, rfl, e1⟩ := hem hv; have := hnil hw; subst this
      rw [e1]; exact ⟨(seq _ _ 0 0 hu).1, fin _ _ _⟩
    · obtain rfl := Option.some.inj he
      obtain ⟨a, rfl, e1⟩ := hem hw; have := hnil hv; subst this
      rw [e1]; exact ⟨(seq _ _ 0 0 hu).2, fin _ _ _⟩
    · split at he
      · rename_i hb
        obtain rfl := Option.some.inj he
        obtain ⟨a, l, cap, rfl, e1⟩ := hslf hv hb; have := hnil hw; subst this
        rw [e1]; exact ⟨(seq _ _ l cap hu).1, fin _ _ _⟩
      · cases he
    · split at he
      · rename_i hb
        obtain rfl := Option.some.inj he
        obtain ⟨a, l, cap, rfl, e1⟩ := hslf hw hb; have := hnil hv; subst this
        rw [e1]; exact ⟨(seq _ _ l cap hu).2, fin _ _ _⟩
      · cases he
    · obtain rfl := Option.some.inj he
      obtain ⟨b, q, _, h1, _⟩ := (rel_sc (by simp) (by simp) rfl).1 hv
      have := hnil hw; subst this
      injection h1 with h1; subst h1
      exact ⟨(seq _ (some (mkA b 0)) q.len q.cap hu).1, fin _ _ _⟩
    · obtain rfl := Option.some.inj he
      obtain ⟨b, q, _, h1, _⟩ := (rel_sc (by simp) (by simp) rfl).1 hw
      have := hnil hv; subst this
      injection h1 with h1; subst h1
      exact ⟨(seq _ (some (mkA b 0)) q.len q.cap hu).2, fin _ _ _⟩
  · split at he <;> first | cases he; done | skip
    · obtain rfl := Option.some.inj he
      have := hfn hv; subst this; have := hfn hw; subst this
      refine ⟨?_, by simp [one, Value.oneCell'], by simp, by simp, by simp, by simp, by simp⟩
      exact eqI_fnn 9999 hu
    · obtain rfl := Option.some.inj he
      have := hfn hw; subst this
      obtain ⟨caps, h1, _⟩ := (rel_sc (by simp) (by simp) rfl).1 hv
      injection h1 with h1; subst h1
      refine ⟨?_, by simp [one, Value.oneCell'], by simp, by simp, by simp, by simp, by simp⟩
      exact eqI_ffn 9999 hu _ _ _
    · obtain rfl := Option.some.inj he
      have := hfn hv; subst this
      obtain ⟨caps, h1, _⟩ := (rel_sc (by simp) (by simp) rfl).1 hw
      injection h1 with h1; subst h1
      refine ⟨?_, by simp [one, Value.oneCell'], by simp, by simp, by simp, by simp, by simp⟩
      exact eqI_fnf 9999 hu _ _ _
  · split at he <;> first | cases he; done | skip
    · obtain rfl := Option.some.inj he
      have := hmap hv; subst this; have := hmap hw; subst this
      refine ⟨?_, by simp [one, Value.oneCell'], by simp, by simp, by simp, by simp, by simp⟩
      exact eqI_mnn 9999 hu
    · obtain rfl := Option.some.inj he
      have := hmap hw; subst this
      obtain ⟨b, q, _, h1, _⟩ := (rel_sc (by simp) (by simp) rfl).1 hv
      injection h1 with h1; subst h1
      refine ⟨?_, by simp [one, Value.oneCell', Bk.val], by simp [Bk.val], by simp [Bk.val], by simp [Bk.val], by simp [Bk.val], by simp [Bk.val]⟩
      exact eqI_msn 9999 hu b
    · obtain rfl := Option.some.inj he
      have := hmap hv; subst this
      obtain ⟨b, q, _, h1, _⟩ := (rel_sc (by simp) (by simp) rfl).1 hw
      injection h1 with h1; subst h1
      refine ⟨?_, by simp [one, Value.oneCell'], by simp, by simp, by simp, by simp, by simp⟩
      exact eqI_mns 9999 hu b
    · obtain rfl := Option.some.inj he
      have := hmap hw; subst this
      obtain ⟨b, q, _, h1, _⟩ := (rel_sc (by simp) (by simp) rfl).1 hv
      injection h1 with h1; subst h1
      refine ⟨?_, by simp [one, Value.oneCell', Bk.val], by simp [Bk.val], by simp [Bk.val], by simp [Bk.val], by simp [Bk.val], by simp [Bk.val]⟩
      exact eqI_msn 9999 hu b
    · obtain rfl := Option.some.inj he
      have := hmap hv; subst this
      obtain ⟨b, q, _, h1, _⟩ := (rel_sc (by simp) (by simp) rfl).1 hw
      injection h1 with h1; subst h1
      refine ⟨?_, by simp [one, Value.oneCell'], by simp, by simp, by simp, by simp, by simp⟩
      exact eqI_mns 9999 hu b
  · cases he
theorem eqs_cond {R : Type} {b : Bool} {x : Option R} {r : R} (h : (bif b then x else none) = some r) : b = true ∧ x = some r := by
  cases b with
  | true => exact ⟨rfl, h⟩
  | false => cases h
theorem oIs_eq' {a : Option Sh} {b : Sh} (h : oIs a b = true) : a = some b := by
  unfold oIs at h
  split at h
  · rw [Sh.beq_eq h]
  · cases h
theorem eqs_norm {F : Cells} : ∀ {v : V} {cs : List Value}, RelV m w F v cs → RelV m w F v.norm cs
  | .pair a b, cs, h => by
    obtain ⟨c, d, rfl, h1, h2⟩ := h
    have g1 := eqs_norm h1
    have g2 := eqs_norm h2
    show RelV m w F (a.norm.mkPair b.norm) (c ++ d)
    unfold V.mkPair
    split
    · rename_i s p t q e1 e2
      rw [e1] at g1; rw [e2] at g2
      exact ⟨p, q, c, d, rfl, rfl, g1, g2⟩
    · exact ⟨c, d, rfl, g1, g2⟩
  | .u, _, h => h
  | .imm _ _, _, h => h
  | .iptr _ _, _, h => h
  | .nils, _, h => h
  | .emp _ _, _, h => h
  | .ref _ _ _, _, h => h
  | .slf _ _, _, h => h
  | .slw _ _ _ _, _, h => h
  | .blk _ _, _, h => h
  | .tv _ _ _ _, _, h => h
  | .fn _ _, _, h => h
  | .tup _, _, h => h
theorem eqs_agg : ∀ (v : V) {sh : Sh} {p : Eng.P}, v.norm = .imm sh p → sh.isAgg = true → v.isAgg = true ∧ v ≠ .u ∧ (∀ y, v ≠ .tup y) := by
  intro v sh p h ha
  cases v <;> simp only [V.norm, reduceCtorEq] at h
  case imm s q => injection h with h1 h2; subst h1; exact ⟨ha, by simp, by simp⟩
  case pair a b => exact ⟨rfl, by simp, by simp⟩
theorem evBin_ok {c : Cx} {R : Type} {op : BinOp} {t : TypeId} {v v2 : V} {x y : Value} {k : V → Option R} {r : R} {ox oy : Operand} (h : R0 X S0 w0 N m s a.tmps w)
    (hv : Rel1 m w (Fb X m s.h) v x) (hw : Rel1 m w (Fb X m s.h) v2 y) (he : evBin c s op t v v2 k = some r) :
    ∃ V z, k V = some r ∧ (binOp op t x y).run c.p w = .ok z w ∧ (eqGuard op t ox oy x y).run c.p w = .ok () w ∧ (∀ F, Rel1 m w F V z) ∧ V.ids = [] := by
  unfold evBin at he
  split at he
  · rename_i ka p kb q
    obtain ⟨_, rfl⟩ := rel_int.1 hv
    obtain ⟨_, rfl⟩ := rel_int.1 hw
    have hg : (eqGuard op t ox oy (.int ka p.toInt) (.int kb q.toInt)).run c.p w = .ok () w := eqGuard_ok (by simp [one, Value.oneCell']) (by simp)
    split at he
    · cases hd : decide (q.toInt < 0) with
      | true => rw [hd] at he; cases he
      | false =>
        rw [hd] at he
        have hd' := of_decide_eq_false hd
        exact ⟨_, _, he, by simp [binOp, Op.shift, hd'], hg, fun F => mk_int _ _, rfl⟩
    · cases hd : decide (q.toInt < 0) with
      | true => rw [hd] at he; cases he
      | false =>
        rw [hd] at he
        have hd' := of_decide_eq_false hd
        exact ⟨_, _, he, by simp [binOp, Op.shift, hd'], hg, fun F => mk_int _ _, rfl⟩
    · obtain ⟨rfl, he2⟩ := sameK_some he
      have he := he2
      cases hd : (q.toInt == 0) with
      | true => rw [hd] at he; cases he
      | false =>
        rw [hd] at he
        have hd' : ¬ q.toInt = 0 := by simpa using hd
        exact ⟨_, _, he, by simp [binOp, Op.intDiv, hd'], hg, fun F => mk_int _ _, rfl⟩
    · obtain ⟨rfl, he2⟩ := sameK_some he
      have he := he2
      cases hd : (q.toInt == 0) with
      | true => rw [hd] at he; cases he
      | false =>
        rw [hd] at he
        have hd' : ¬ q.toInt = 0 := by simpa using hd
        exact ⟨_, _, he, by simp [binOp, Op.intDiv, hd'], hg, fun F => mk_int _ _, rfl⟩
    · obtain ⟨rfl, he2⟩ := sameK_some he
      have he := he2
      split at he
      · rename_i r' hr
        obtain ⟨z, h1, h2⟩ := intOp_ok (P := c.p) (w := w) (t := t) hr
        exact ⟨_, z, he, h1, hg, fun F => mk_immOf h2, by simp [immOf, V.ids]⟩
      · cases he
  · rename_i p q
    obtain ⟨_, rfl⟩ := rel_str.1 hv
    obtain ⟨_, rfl⟩ := rel_str.1 hw
    have hg : (eqGuard op t ox oy (.string p.toStr) (.string q.toStr)).run c.p w = .ok () w := eqGuard_ok (by simp [one, Value.oneCell']) (by simp)
    split at he
    · cases hd : decide (p.toStr.size + q.toStr.size ≤ 2 ^ 62) with
      | false => rw [hd] at he; cases he
      | true =>
        rw [hd] at he
        have hd' := of_decide_eq_true hd
        have hm : ¬ (((p.toStr.size + q.toStr.size : Nat) : Int) > IntKind.i64.max) := by
          have : IntKind.i64.max = 9223372036854775807 := by decide
          rw [this]; omega
        exact ⟨_, _, he, by simp only [binOp, Op.stringOp, if_neg hm]; rfl, hg, fun F => mk_str _, rfl⟩
    · split at he
      · rename_i r' hr
        obtain ⟨z, h1, h2⟩ := strOp_ok (P := c.p) (w := w) (t := t) hr
        exact ⟨_, z, he, h1, hg, fun F => mk_immOf h2, by simp [immOf, V.ids]⟩
      · cases he
  · split at he
    · rename_i fs hu
      split at he
      · rename_i sh p sh' q e1 e2
        replace he := eqs_cond he
        obtain ⟨hc, he⟩ := he
        simp only [Bool.and_eq_true, Bool.not_eq_true'] at hc
        obtain ⟨hb, hsh, hok, hgt⟩ := hc
        have := Sh.beq_eq hb; subst this
        have hsh : shOf c.p deep t = some sh := oIs_eq' hsh
        have hag : sh.isAgg = true := by
          have := hsh
          simp only [deep, shOf, hu] at this
          split at this
          · rename_i s hs
            split at this
            · obtain rfl := Option.some.inj this
              cases hf : fs.toList with
              | nil => rw [hf] at hs; simp only [List.map_nil, pairs] at hs; obtain rfl := Option.some.inj hs; rfl
              | cons f r =>
                rw [hf] at hs; simp only [List.map_cons, pairs] at hs
                split at hs
                · obtain rfl := Option.some.inj hs; rfl
                · cases hs
            · cases this
          · cases this
        obtain ⟨a1, a2, a3⟩ := eqs_agg v e1 hag
        obtain ⟨b1, b2, b3⟩ := eqs_agg v2 e2 hag
        obtain ⟨cs, rfl, hcs⟩ := (rel_agg a2 a3 a1).1 hv
        obtain ⟨ds, rfl, hds⟩ := (rel_agg b2 b3 b1).1 hw
        have h1 := eqs_norm hcs; rw [e1] at h1
        have h2 := eqs_norm hds; rw [e2] at h2
        have he1 : (Op.equal t (.agg cs) (.agg ds)).run c.p w = .ok (eqP sh p q) w := eqI_ok deep t sh deep 10000 p q cs.toList ds.toList _ _ hok hsh (by decide) h1 h2 (by rw [hag]; simp [valOf]) (by rw [hag]; simp [valOf])
        obtain ⟨b', g1, g2⟩ := eqlV_ok he he1 (by simp) (by simp) (by simp) (by simp)
        refine ⟨_, _, g1, g2, ?_, fun F => mk_bool _, rfl⟩
        have hp0 : (program : Sem Program).run c.p w = .ok c.p w := rfl
        unfold eqGuard
        cases op <;> simp [hp0, hgt]
      · cases he
    · split at he
      · rename_i b hb
        obtain ⟨h1, h2, h3, h4, h5, h6, h7⟩ := eqV_ok h hv hw hb
        obtain ⟨b', g1, g2⟩ := eqlV_ok he h1 h4 h5 h6 h7
        exact ⟨_, _, g1, g2, eqGuard_ok h2 h3, fun F => mk_bool _, rfl⟩
      · cases he
end
end Go.Eng
end
/-! Things that take a whole block: a text's iterator, a map. Conditions: none. -/
section
set_option linter.unusedVariables false
set_option linter.unusedSimpArgs false
namespace Go.Eng
open Go.RowKit
def notCells : Obj → Bool
  | .stringIter _ _ | .map _ _ => true
  | _ => false
def putO (w : World) (b : Nat) (o : Obj) : World := { w with heap := w.heap.setIfInBounds b o }
theorem putO_heap {w : World} {b : Nat} {o : Obj} (j : Nat) : (putO w b o).heap[j]? = if j = b ∧ b < w.heap.size then some o else w.heap[j]? := by
  simp only [putO, Array.getElem?_setIfInBounds]
  by_cases e : b = j
  · subst e
    by_cases hl : b < w.heap.size
    · simp [hl]
    · simp [hl, Array.getElem?_eq_none (Nat.le_of_not_lt hl)]
  · rw [if_neg e, if_neg (fun q => e q.1.symm)]
theorem cell_not {w : World} {b o : Nat} {ob : Obj} (h : w.heap[b]? = some ob) (hn : notCells ob = true) : w.cell? (mkA b o) = none ∧ w.frozen? (mkA b o) = false := by
  cases ob <;> simp [notCells] at hn <;> simp [World.cell?, World.frozen?, mkA, h]
theorem cell_same {w w' : World} {b : Nat} (h : w'.heap[b]? = w.heap[b]?) (o : Nat) : w'.cell? (mkA b o) = w.cell? (mkA b o) ∧ w'.frozen? (mkA b o) = w.frozen? (mkA b o) := by
  simp [World.cell?, World.frozen?, mkA, h]
theorem putO_fr {K : Par} {w : World} {b : Nat} {o0 o1 : Obj} (h0 : w.heap[b]? = some o0) (n0 : notCells o0 = true) (n1 : notCells o1 = true) : Fr K w.heap.size (fun c _ => c = b) w (putO w b o1) := by
  have hlt : b < w.heap.size := (Array.getElem?_eq_some_iff.1 h0).1
  have hb : (putO w b o1).heap[b]? = some o1 := by rw [putO_heap, if_pos ⟨rfl, hlt⟩]
  have ho : ∀ j, j ≠ b → (putO w b o1).heap[j]? = w.heap[j]? := fun j hj => by rw [putO_heap, if_neg (fun q => hj q.1)]
  refine ⟨rfl, rfl, rfl, by simp [putO], fun j _ hj => ho j (fun e => hj 0 e), fun j i _ hj => (cell_same (ho j hj) i).1, fun j i _ => ?_, fun j i _ => ?_, fun _ => Nat.le_refl _⟩
  · by_cases e : j = b
    · subst e; rw [(cell_not hb n1).2, (cell_not h0 n0).2]
    · exact (cell_same (ho j e) i).2
  · by_cases e : j = b
    · subst e; rw [(cell_not hb n1).1, (cell_not h0 n0).1]
    · rw [(cell_same (ho j e) i).1]
theorem entRel_len {w : World} {F : Cells} {k v : Sh} : ∀ {l : List P} {es : List MapEntry}, EntRel w F k v l es → es.length = l.length
  | [], [], _ => rfl
  | _ :: _, _ :: _, ⟨_, h⟩ => by simp [entRel_len h]
section
variable {P : Program} {w : World}
theorem run_getObj {b : Nat} {o : Obj} (h : w.heap[b]? = some o) (hn : notCells o = true) : (getObj b).run P w = .ok o w := by
  cases o <;> simp [notCells] at hn <;> simp [getObj, Sem.run, h]
theorem run_setObj {b : Nat} {o0 o : Obj} (h : w.heap[b]? = some o0) (hn : notCells o0 = true) : (setObj b o).run P w = .ok () (putO w b o) := by
  cases o0 <;> simp [notCells] at hn <;> simp [setObj, Sem.run, putO, h]
theorem run_newObj {o : Obj} : (newObj o).run P w = .ok w.heap.size (w.alloc o) := rfl
end
end Go.Eng
end
/-! Pointers into boxes; values that are stored among plain data; a slice's elements. Conditions: none. -/
section
set_option linter.unusedVariables false
set_option linter.unusedSimpArgs false
namespace Go.Eng
open Go.RowKit
section
variable {m : Lm} {w : World} {F : Cells}
theorem fits_agg : ∀ {v : V} {s : Sh}, v.fits s = true → v.isAgg = s.isAgg := by
  intro v s h
  cases v with
  | imm t p => rw [Sh.beq_eq h]; rfl
  | u => simp [V.fits] at h; rw [h]; rfl
  | blk i k => cases k <;> cases s <;> first | rfl | (simp [V.fits] at h)
  | _ => cases s <;> simp [V.fits] at h <;> rfl
theorem solid_tup {v : V} (h : v.solid = true) : v ≠ .u ∧ ∀ y, v ≠ .tup y := by
  cases v <;> simp [V.solid] at h <;> simp
/-- A temporary's value as cells. -/
theorem rel_cells {v : V} {s : Sh} {x : Value} (hf : v.fits s = true) (hs : v.solid = true) (h : Rel1 m w F v x) : ∃ cs, RelV m w F v cs ∧ valOf s.isAgg cs x := by
  obtain ⟨hu, ht⟩ := solid_tup hs
  have ha := fits_agg hf
  cases hg : v.isAgg with
  | true =>
    obtain ⟨cs, rfl, h2⟩ := (rel_agg hu ht hg).1 h
    exact ⟨cs.toList, h2, by rw [← ha, hg]; simp [valOf]⟩
  | false =>
    exact ⟨[x], (rel_sc hu ht hg).1 h, by rw [← ha, hg]; rfl⟩
/-- Cells as a temporary's value. -/
theorem cells_rel {v : V} {s : Sh} {cs : List Value} {x : Value} (hf : v.fits s = true) (hx : valOf s.isAgg cs x) (h : RelV m w F v cs) : Rel1 m w F v x := by
  by_cases hu : v = .u
  · subst hu; trivial
  · have ht : ∀ y, v ≠ .tup y := fun y e => by subst e; simp [V.fits] at hf
    have ha := fits_agg hf
    cases hg : v.isAgg with
    | true =>
      rw [rel_agg hu ht hg]
      rw [← ha, hg] at hx
      exact ⟨cs.toArray, hx, by simpa using h⟩
    | false =>
      rw [rel_sc hu ht hg]
      rw [← ha, hg] at hx
      simp [valOf] at hx; subst hx; exact h
theorem valOf_cells {s : Sh} {cs : List Value} {x : Value} (h : valOf s.isAgg cs x) (h1 : ∀ y ∈ cs, one y) : x.cells = cs.toArray := by
  unfold valOf at h
  cases ha : s.isAgg with
  | true => rw [ha] at h; simp at h; subst h; rfl
  | false =>
    rw [ha] at h; simp at h; subst h
    have := h1 x (by simp)
    cases x <;> first | rfl | (simp [one, Value.oneCell'] at this)
theorem relV_norm : ∀ {v : V} {cs : List Value}, RelV m w F v.norm cs ↔ RelV m w F v cs := by
  intro v
  induction v with
  | pair a b iha ihb =>
    intro cs
    rw [show (V.pair a b).norm = a.norm.mkPair b.norm from rfl, RelV.pair_mk]
    constructor
    · rintro ⟨c, d, h1, h2, h3⟩; exact ⟨c, d, h1, iha.1 h2, ihb.1 h3⟩
    · rintro ⟨c, d, h1, h2, h3⟩; exact ⟨c, d, h1, iha.2 h2, ihb.2 h3⟩
  | _ => intro cs; exact Iff.rfl
theorem norm_ids : ∀ (v : V), v.norm.ids = v.ids := by
  intro v
  induction v with
  | pair a b iha ihb => rw [show (V.pair a b).norm = a.norm.mkPair b.norm from rfl, ids_mk, iha, ihb]; rfl
  | _ => rfl
theorem norm_agg (v : V) : v.norm.isAgg = v.isAgg := by
  cases v <;> first | rfl | exact isAgg_mk
theorem norm_fits : ∀ {v : V} {s : Sh}, v.norm.fits s = v.fits s := by
  intro v
  induction v with
  | pair a b iha ihb =>
    intro s
    rw [show (V.pair a b).norm = a.norm.mkPair b.norm from rfl]
    cases s with
    | pair s t => rw [fits_mk, iha, ihb]; rfl
    | _ =>
      unfold V.mkPair
      split
      · simp [V.fits, Sh.beq]
      · rfl
  | _ => intro s; rfl
theorem shAt_append : ∀ (p : List Stp) {s t t' : Sh} {o o' : Nat} {q : List Stp}, shAt s p = some (o, t) → shAt t q = some (o', t') → shAt s (p ++ q) = some (o + o', t')
  | [], s, t, t', o, o', q, h, g => by
    simp [shAt] at h; obtain ⟨rfl, rfl⟩ := h; simpa using g
  | .f j :: p, s, t, t', o, o', q, h, g => by
    rw [List.cons_append, shAt_f]
    rw [shAt_f] at h
    cases hj : Sh.nth j s with
    | none => rw [hj] at h; cases h
    | some x =>
      rw [hj] at h
      simp only [Option.map_eq_some_iff] at h
      obtain ⟨⟨o1, t1⟩, h1, h2⟩ := h
      injection h2 with e1 e2
      simp only at e1 e2
      subst e2
      simp only [shAt_append p h1 g, Option.map_some]
      congr 2; omega
  | .i n :: p, s, t, t', o, o', q, h, g => by
    cases s <;> simp only [shAt] at h <;> first | cases h | skip
    rename_i k e
    rw [List.cons_append]
    simp only [shAt]
    split at h
    · rename_i hlt
      rw [if_pos hlt]
      simp only [Option.map_eq_some_iff] at h
      obtain ⟨⟨o1, t1⟩, h1, h2⟩ := h
      injection h2 with e1 e2
      simp only at e1 e2
      subst e2
      simp only [shAt_append p h1 g, Option.map_some]
      congr 2; omega
    · cases h
theorem addr_append {l : Loc} {p q : List Stp} {t t' : Sh} {o' : Nat} {b o : Nat} (h : addrOf l p t (.pointer (some (mkA b o)))) (g : shAt t q = some (o', t')) :
    addrOf l (p ++ q) t' (.pointer (some (mkA b (o + o')))) := by
  unfold addrOf at *
  split at h
  · obtain ⟨off, h1, h2⟩ := h
    injection h2 with h2; injection h2 with h2; injection h2 with h2 h3
    subst h2; subst h3
    exact ⟨off + o', shAt_append p h1 g, by rw [Nat.add_assoc]⟩
  · obtain ⟨n, r, off, rfl, h1, h2, h3⟩ := h
    injection h3 with h3; injection h3 with h3; injection h3 with h3 h4
    subst h3; subst h4
    exact ⟨n, r ++ q, off + o', rfl, h1, shAt_append r h2 g, by congr 3; omega⟩
  · exact h.elim
  · obtain ⟨n, r, off, rfl, h1, h2, h3⟩ := h
    injection h3 with h3; injection h3 with h3; injection h3 with h3 h4
    subst h3; subst h4
    exact ⟨n, r ++ q, off + o', rfl, h1, shAt_append r h2 g, by congr 3; omega⟩
theorem pathB_eq : ∀ {p q : List Stp}, pathB p q = true → p = q
  | [], [], _ => rfl
  | .f i :: r, .f j :: q, h => by
    simp only [pathB, Bool.and_eq_true] at h
    rw [beq_iff.1 h.1, pathB_eq h.2]
theorem tp_at {e : Sh} {pt : List Stp} {off : Nat} {t : Sh} (h : e.tp = some (pt, off, t)) : shAt e pt = some (off, .slice t) := by
  cases e with
  | slice t' => simp [Sh.tp] at h; obtain ⟨rfl, rfl, rfl⟩ := h; simp [shAt]
  | pair a b => cases a <;> simp [Sh.tp] at h; obtain ⟨rfl, rfl, rfl⟩ := h; simp [shAt]
  | _ => simp [Sh.tp] at h
theorem atT_eq {e : Sh} {r pt : List Stp} {off : Nat} {t : Sh} (h : e.tp = some (pt, off, t)) (ha : atT e r = true) : r = pt := by
  unfold atT at ha; rw [h] at ha; exact pathB_eq ha
theorem brel_at {w : World} {m : Lm} {F : Cells} {id : Nat} {k : Bk} {p : P} {e : Sh} (h : BRel m w F id (.blk k p)) (hk : k.el = some e) :
    ∃ b q hh, m id = .blk b q ∧ b < w.heap.size ∧ AtRel w F e hh p b q ∧ (k = .at e → hh = none) := by
  obtain ⟨b, q, h1, h2, h3⟩ := h
  cases k <;> simp [Bk.el] at hk
  · subst hk; exact ⟨b, q, none, h1, h2, h3, fun _ => rfl⟩
  · subst hk; exact ⟨b, q, _, h1, h2, h3, fun e => by cases e⟩
theorem nth_bound : ∀ (j : Nat) {s t : Sh}, Sh.nth j s = some t → Sh.offs j s + t.size ≤ s.size
  | 0, s, t, h => by cases s <;> simp [Sh.nth] at h; subst h; simp [Sh.offs, Sh.size]
  | j + 1, s, t, h => by
    cases s <;> simp only [Sh.nth] at h <;> first | cases h | skip
    have := nth_bound j h; simp only [Sh.offs, Sh.size]; omega
theorem shAt_bound : ∀ (p : List Stp) {s t : Sh} {o : Nat}, shAt s p = some (o, t) → o + t.size ≤ s.size
  | [], s, t, o, h => by simp [shAt] at h; obtain ⟨rfl, rfl⟩ := h; omega
  | .f j :: p, s, t, o, h => by
    rw [shAt_f] at h
    cases hj : Sh.nth j s with
    | none => rw [hj] at h; cases h
    | some x =>
      rw [hj] at h
      simp only [Option.map_eq_some_iff] at h
      obtain ⟨⟨o1, t1⟩, h1, h2⟩ := h
      injection h2 with e1 e2
      simp only at e1 e2
      subst e2
      have := shAt_bound p h1
      have := nth_bound j hj
      omega
  | .i n :: p, s, t, o, h => by
    cases s <;> simp only [shAt] at h <;> first | cases h | skip
    rename_i k e
    split at h
    · rename_i hlt
      simp only [Option.map_eq_some_iff] at h
      obtain ⟨⟨o1, t1⟩, h1, h2⟩ := h
      injection h2 with e1 e2
      simp only at e1 e2
      subst e2
      have := shAt_bound p h1
      have hle : (n + 1) * e.size ≤ k * e.size := Nat.mul_le_mul_right _ (by omega)
      have hs : (n + 1) * e.size = n * e.size + e.size := Nat.succ_mul _ _
      simp only [Sh.size]; omega
    · cases h
end

section
variable {X : Cells} {S0 : Base} {w0 : World} {N : Nat} {m : Lm} {s : St} {tm : Array Value} {w : World}
/-- What a pointer leads to. -/
theorem getRef_ok (h : R0 X S0 w0 N m s tm w) {id : Nat} {path : List Stp} {sh : Sh} {v : Value} {x : V} (ha : addrOf (m id) path sh v) (hg : getRef s.h id path = some x) :
    ∃ b o cs, v = .pointer (some (mkA b o)) ∧ cs.length = sh.size ∧ x.fits sh = true ∧ RelV m w (Fb X m s.h) x cs ∧ Sto w b o cs ∧ (∀ i ∈ x.ids, getBox i s.h ≠ none) ∧
      (∀ j, j < sh.size → (m id).has b (o + j)) ∧ getBox id s.h ≠ none := by
  unfold getRef at hg
  split at hg
  · rename_i sh0 v0 hb
    obtain ⟨b, o, cs, h1, h2, h3, h4, h5⟩ := h.box id _ hb
    rw [h1] at ha
    obtain ⟨off, g1, rfl⟩ := ha
    obtain ⟨l, c, r, rfl, k2, k3, k4, k5⟩ := RelV.get path h2 h3 g1 hg
    have hcl := RelV.len _ _ _ k3 k4
    have hbd := shAt_bound path g1
    refine ⟨b, o + off, c, rfl, hcl, k3, k4, fun j y hy => ?_, fun i hi => h.wfh id _ hb i (k5 i hi), fun j hj => by rw [h1]; exact ⟨rfl, by omega, by omega⟩, by rw [hb]; simp⟩
    have hj : j < c.length := by
      rcases Nat.lt_or_ge j c.length with q | q
      · exact q
      · rw [List.getElem?_eq_none q] at hy; cases hy
    have := h5 (off + j) y (by rw [List.append_assoc, List.getElem?_append_right (by omega), List.getElem?_append_left (by omega), k2, show off + j - off = j from by omega]; exact hy)
    rw [← Nat.add_assoc] at this
    exact this
  · rename_i e nil xs hb
    obtain ⟨a, cap, h1, h2, h3, h4, h5⟩ := h.box id _ hb
    rw [h1] at ha
    cases a with
    | none => exact ha.elim
    | some y =>
      obtain ⟨b, o⟩ := y
      obtain ⟨n, r, off, rfl, g1, g2, rfl⟩ := ha
      simp only at hg
      obtain ⟨c, q1, q2⟩ := (h5 b o rfl).1 n g1
      obtain ⟨l, c', r', rfl, k2, k3, k4, k5⟩ := RelV.get (v := .imm e (rd xs n)) r (Sh.beq_refl e) q1 g2 hg
      have hcl := RelV.len _ _ _ k3 k4
      have hbd := shAt_bound r g2
      have hle : (n + 1) * e.size ≤ cap * e.size := Nat.mul_le_mul_right _ (by omega)
      have hss : (n + 1) * e.size = n * e.size + e.size := Nat.succ_mul _ _
      refine ⟨b, o + n * e.size + off, c', rfl, hcl, k3, k4, fun j y hy => ?_, fun i hi => (by have := k5 i hi; cases this), fun j hj => by rw [h1]; exact ⟨rfl, by omega, by omega⟩, by rw [hb]; simp⟩
      have hj : j < c'.length := by
        rcases Nat.lt_or_ge j c'.length with q | q
        · exact q
        · rw [List.getElem?_eq_none q] at hy; cases hy
      have := q2 (off + j) y (by rw [List.append_assoc, List.getElem?_append_right (by omega), List.getElem?_append_left (by omega), k2, show off + j - off = j from by omega]; exact hy)
      rw [← Nat.add_assoc] at this
      exact this
  · rename_i kk p hb
    split at hg
    · rename_i e n r hel
      obtain ⟨b, q, hh, h1, h2, ⟨xs, rfl, h4, h5, h6, h7, h8, pt, off0, t0, h9, h10⟩, h11⟩ := brel_at (h.box id _ hb) hel
      rw [h1] at ha
      obtain ⟨n', r', off, e1, g1, g2, rfl⟩ := ha
      injection e1 with e1 e2; injection e1 with e1; subst e1; subst e2
      rw [h5] at g2
      rw [h4] at g1
      rw [h5]
      split at hg
      · rename_i v0 hv0
        obtain rfl := Option.some.inj hg
        obtain ⟨c, q1, q2⟩ := h7.1 n g1
        rw [Nat.zero_add] at q2
        obtain ⟨l, c', r', rfl, k2, k3, k4, k5⟩ := RelV.get (v := .imm e (rd xs n)) r (Sh.beq_refl e) q1 g2 hv0
        have hcl := RelV.len _ _ _ k3 k4
        have hst : Sto w b (n * e.size + off) c' := fun j y hy => by
          have hj : j < c'.length := by
            rcases Nat.lt_or_ge j c'.length with q | q
            · exact q
            · rw [List.getElem?_eq_none q] at hy; cases hy
          have := q2 (off + j) y (by rw [List.append_assoc, List.getElem?_append_right (by omega), List.getElem?_append_left (by omega), k2, show off + j - off = j from by omega]; exact hy)
          rw [← Nat.add_assoc] at this
          exact this
        have hown : ∀ j, j < sh.size → (m id).has b (n * e.size + off + j) := fun j hj => by rw [h1]; exact .inl rfl
        have hne : getBox id s.h ≠ none := by rw [hb]; simp
        have hdef : ∀ (y : V), y = v0 → ∃ b_1 o cs, Value.pointer (some (mkA b (n * e.size + off))) = .pointer (some (mkA b_1 o)) ∧ cs.length = sh.size ∧ y.fits sh = true ∧ RelV m w (Fb X m s.h) y cs ∧ Sto w b_1 o cs ∧ (∀ i ∈ y.ids, getBox i s.h ≠ none) ∧
            (∀ j, j < sh.size → (m id).has b_1 (o + j)) ∧ getBox id s.h ≠ none := by
          rintro y rfl
          exact ⟨b, n * e.size + off, c', rfl, hcl, k3, k4, hst, fun i hi => (by have := k5 i hi; cases this), hown, hne⟩
        unfold Bk.tvOf
        split
        · rename_i e' t p'
          cases hat : atT e r with
          | false => exact hdef _ rfl
          | true =>
            have := atT_eq h9 hat; subst this
            rw [tp_at h9] at g2
            injection g2 with g2; injection g2 with g2 g3; subst g2; subst g3
            have hkk := h11 (by simp only [Bk.el, Option.some.injEq] at hel; rw [hel])
            subst hkk
            obtain ⟨v1, z1, z2⟩ := h10 n g1 (by simp)
            have ht : t = t0 := by simpa [V.fits, Sh.beq] using Sh.beq_eq k3
            subst ht
            have hc1 : ∃ v2, c' = [v2] := by
              obtain ⟨a, xs', cap, _, hcs, _⟩ := k4
              exact ⟨_, hcs⟩
            obtain ⟨v2, rfl⟩ := hc1
            have := (hst 0 v2 rfl).1
            rw [Nat.add_zero, z1] at this
            obtain rfl := Option.some.inj this
            exact ⟨b, n * e.size + off0, [v1], rfl, hcl, by simp [V.fits, Sh.beq_refl], ⟨b, q, v1, h1, rfl, k4, z2⟩, hst, fun i hi => (by simp [V.ids] at hi; subst hi; exact hne), hown, hne⟩
        · exact hdef _ rfl
      · cases hg
    · cases hg
  · cases hg
/-- The cells after a store of a part: those of the whole. -/
theorem sto_part {b o off : Nat} {l c r c' : List Value} {w' : World} (hl : l.length = off) (hc : c.length = c'.length) (h5 : Sto w b o (l ++ c ++ r)) {K0 : Par} (hfr : Fr K0 w.heap.size (fun b' i => b' = b ∧ o + off ≤ i ∧ i < o + off + c'.length) w w')
    (hs : Sto w' b (o + off) c') : Sto w' b o (l ++ c' ++ r) := by
  intro j y hy
  have hout : ∀ z, (l ++ c ++ r)[j]? = some z → (j < off ∨ off + c.length ≤ j) → w'.cell? (mkA b (o + j)) = some z ∧ w'.frozen? (mkA b (o + j)) = false := by
    intro z hz hj
    obtain ⟨q1, q2⟩ := h5 j z hz
    have hlt := cell_lt q1
    exact ⟨(hfr.cell b (o + j) hlt (by rintro ⟨_, q3, q4⟩; omega)).trans q1, (hfr.frozen b (o + j) hlt).trans q2⟩
  rw [List.append_assoc] at hy
  rcases Nat.lt_or_ge j off with h1 | h1
  · rw [List.getElem?_append_left (by omega)] at hy
    exact hout y (by rw [List.append_assoc, List.getElem?_append_left (by omega)]; exact hy) (.inl h1)
  · rw [List.getElem?_append_right (by omega)] at hy
    rcases Nat.lt_or_ge (j - off) c'.length with h2 | h2
    · rw [hl, List.getElem?_append_left h2] at hy
      have := hs (j - off) y hy
      rw [show o + off + (j - off) = o + j from by omega] at this
      exact this
    · rw [hl, List.getElem?_append_right h2] at hy
      exact hout y (by rw [List.append_assoc, List.getElem?_append_right (by omega), hl, List.getElem?_append_right (by omega), hc]; exact hy) (.inr (by omega))
theorem setRef_ok (h : R0 X S0 w0 N m s tm w) {id : Nat} {path : List Stp} {sh : Sh} {v : Value} {x : V} {h' : Heap} {cs : List Value} (ha : addrOf (m id) path sh v) (hzi : memB id s.z = false) (hg : setRef s.h id path x = some h')
    (hf : x.fits sh = true) (hsol : x.solid = true) (hx : RelV m w (Fb X m s.h) x cs) (hids : ∀ i ∈ x.ids, getBox i s.h ≠ none) :
    ∃ b o, v = .pointer (some (mkA b o)) ∧ (∀ j, j < cs.length → ∃ u, w.cell? (mkA b (o + j)) = some u ∧ w.frozen? (mkA b (o + j)) = false) ∧
      R0 X S0 w0 N m { s with h := h' } tm (w.setCells b o cs) := by
  have hcl := RelV.len _ _ _ hf hx
  unfold setRef at hg
  split at hg
  · rename_i sh0 v0 hb
    split at hg
    · rename_i y hy
      obtain rfl := Option.some.inj hg
      obtain ⟨b, o, cs0, h1, h2, h3, h4, h5⟩ := h.box id _ hb
      rw [h1] at ha
      obtain ⟨off, g1, rfl⟩ := ha
      obtain ⟨l, c, r, rfl, k2, k3, k4, k5, k6⟩ := RelV.set path hy h2 h3 g1 hf hx
      have hcells : ∀ j, j < cs.length → ∃ u, w.cell? (mkA b (o + off + j)) = some u ∧ w.frozen? (mkA b (o + off + j)) = false := by
        intro j hj
        have := h5.cell (j := off + j) (by simp [k2, k3]; omega)
        rw [← Nat.add_assoc] at this
        exact this
      refine ⟨b, o + off, rfl, hcells, ?_⟩
      have hfr := setCells_fr (K0 := S0.dk) (w := w) (b := b) (o := o + off) (vs := cs) (fun j hj => by obtain ⟨u, hu, _⟩ := hcells j hj; exact Option.isSome_iff_exists.2 ⟨u, hu⟩)
      have hsto := setCells_sto hcells
      have hbd := shAt_bound path g1
      refine h.setBox hb hzi (hfr.mono fun b' i _ hh => by rw [h1]; obtain ⟨rfl, q1, q2⟩ := hh; exact ⟨rfl, by omega, by omega⟩) (fun i hi => ?_) (fun hk => ?_)
      · rcases k6 i hi with e | e
        · exact h.wfh id _ hb i e
        · exact hids i e
      · refine ⟨b, o, l ++ cs ++ r, h1, k4, k5.mono hk, ?_, sto_part k2 (by omega) h5 hfr hsto⟩
        have : (l ++ c ++ r).length = sh0.size := h4
        simp only [List.length_append] at this ⊢
        omega
    · cases hg
  · rename_i e nil xs hb
    obtain ⟨a, cap, h1, h2, h3, h4, h5⟩ := h.box id _ hb
    split at hg
    · rename_i n r
      split at hg
      · rename_i sq q hq
        obtain rfl := Option.some.inj hg
        rw [h1] at ha
        cases a with
        | none => exact ha.elim
        | some y =>
          obtain ⟨b, o⟩ := y
          obtain ⟨n', r', off, e1, g1, g2, rfl⟩ := ha
          injection e1 with e1 e2; injection e1 with e1; subst e1; subst e2
          obtain ⟨c0, q1, q2⟩ := (h5 b o rfl).1 n g1
          obtain ⟨l, c, rr, rfl, k2, k3, k4, k5, k6⟩ := RelV.set (v := .imm e (rd xs n)) r hq (Sh.beq_refl e) q1 g2 hf hx
          have := Sh.beq_eq k4; subst this
          have hle : (n + 1) * sq.size ≤ cap * sq.size := Nat.mul_le_mul_right _ (by omega)
          have hss : (n + 1) * sq.size = n * sq.size + sq.size := Nat.succ_mul _ _
          have hbd := shAt_bound r g2
          have hcells : ∀ j, j < cs.length → ∃ u, w.cell? (mkA b (o + n * sq.size + off + j)) = some u ∧ w.frozen? (mkA b (o + n * sq.size + off + j)) = false := by
            intro j hj
            have := q2.cell (j := off + j) (by simp [k2, k3]; omega)
            rw [← Nat.add_assoc] at this
            exact this
          refine ⟨b, o + n * sq.size + off, rfl, hcells, ?_⟩
          have hfr := setCells_fr (K0 := S0.dk) (w := w) (b := b) (o := o + n * sq.size + off) (vs := cs) (fun j hj => by obtain ⟨u, hu, _⟩ := hcells j hj; exact Option.isSome_iff_exists.2 ⟨u, hu⟩)
          have hsto := setCells_sto hcells
          refine h.setBox hb hzi (hfr.mono fun b' i _ hh => by rw [h1]; obtain ⟨rfl, q1, q2⟩ := hh; exact ⟨rfl, by omega, by omega⟩) (fun i hi => by cases hi) (fun hk => ?_)
          refine ⟨some (b, o), cap, by rw [h1]; simp, h2, by simpa using h3, h4, fun b' o' hbo => ?_⟩
          injection hbo with hbo; injection hbo with hbo1 hbo2; subst hbo1; subst hbo2
          refine ⟨fun i hi => ?_, fun j hj => ?_⟩
          · rw [List.length_set] at hi
            rw [rd_set (by omega)]
            by_cases ei : i = n
            · subst ei
              rw [if_pos rfl]
              exact ⟨l ++ cs ++ rr, (RelV.mono hk _ _ k5 : RelV m _ _ (.imm sq q) _), sto_part k2 (by omega) q2 hfr hsto⟩
            · rw [if_neg ei]
              obtain ⟨c1, p1, p2⟩ := (h5 b o rfl).1 i hi
              refine ⟨c1, p1.mono hk, fun j y hy => ?_⟩
              obtain ⟨z1, z2⟩ := p2 j y hy
              have hlt := cell_lt z1
              have hj : j < sq.size := by
                have := p1.len
                rcases Nat.lt_or_ge j c1.length with q | q
                · omega
                · rw [List.getElem?_eq_none q] at hy; cases hy
              have hnot : ¬ (b = b ∧ o + n * sq.size + off ≤ o + i * sq.size + j ∧ o + i * sq.size + j < o + n * sq.size + off + cs.length) := by
                rintro ⟨_, t1, t2⟩
                rcases Nat.lt_or_gt_of_ne ei with hlt' | hgt
                · have hh : (i + 1) * sq.size ≤ n * sq.size := Nat.mul_le_mul_right _ (by omega)
                  have hs' : (i + 1) * sq.size = i * sq.size + sq.size := Nat.succ_mul _ _
                  omega
                · have hh : (n + 1) * sq.size ≤ i * sq.size := Nat.mul_le_mul_right _ (by omega)
                  omega
              exact ⟨(hfr.cell b _ hlt hnot).trans z1, (hfr.frozen b _ hlt).trans z2⟩
          · obtain ⟨u, z1, z2⟩ := (h5 b o rfl).2 j hj
            have hlt := cell_lt z1
            have := hfr.there b (o + j) hlt
            rw [z1] at this
            obtain ⟨u', hu'⟩ := Option.isSome_iff_exists.1 (by simpa using this)
            exact ⟨u', hu', (hfr.frozen b _ hlt).trans z2⟩
      · cases hg
    · cases hg
  · cases hg
end
end Go.Eng
end
/-! Cells that are filled, zeroed, given up to plain data. Conditions: none. -/
section
set_option linter.unusedVariables false
set_option linter.unusedSimpArgs false
namespace Go.Eng
open Go.RowKit

/-! ### filling cells -/
theorem fill_list (off : Nat) : ∀ (vs : List Value) (k : Nat) (cells : Array Value), off + k + vs.length ≤ cells.size →
    ((vs.zipIdx k).foldl (fun cs (c, j) => cs.setIfInBounds (off + j) c) cells).toList = cells.toList.take (off + k) ++ vs ++ cells.toList.drop (off + k + vs.length)
  | [], k, cells, h => by simp
  | v :: r, k, cells, h => by
    simp only [List.zipIdx_cons, List.foldl_cons]
    simp only [List.length_cons] at h
    rw [fill_list off r (k + 1) (cells.setIfInBounds (off + k) v) (by simp; omega)]
    simp only [Array.toList_setIfInBounds, List.length_cons]
    have hlt : off + k < cells.toList.length := by simp; omega
    rw [show off + (k + 1) = off + k + 1 from by omega, List.take_set, List.drop_set, if_pos (by omega), show off + k + 1 + r.length = off + k + (r.length + 1) from by omega]
    congr 1
    rw [List.take_succ_eq_append_getElem (by simpa using hlt)]
    rw [List.set_append_right _ _ (by simp; omega)]
    simp only [List.length_take]
    rw [Nat.min_eq_left (by omega), Nat.sub_self]
    simp
theorem fill_one {cells vs : Array Value} {off : Nat} (h : off + vs.size ≤ cells.size) :
    (vs.zipIdx.foldl (fun cs (c, j) => cs.setIfInBounds (off + j) c) cells).toList = cells.toList.take off ++ vs.toList ++ cells.toList.drop (off + vs.size) := by
  have := fill_list off vs.toList 0 cells (by simpa using h)
  rw [← Array.foldl_toList, Array.toList_zipIdx]
  simpa using this

/-! ### zeros -/
theorem zeros_take {z : List Value} {cs : List Value} {n : Nat} (hl : cs.length = n * z.length) (h : ∀ j, j < n * z.length → cs[j]? = z[j % z.length]?) (i : Nat) (hi : i < n) :
    (cs.drop (i * z.length)).take z.length = z := by
  apply List.ext_getElem?
  intro j
  by_cases hj : j < z.length
  · have hle : (i + 1) * z.length ≤ n * z.length := Nat.mul_le_mul_right _ (by omega)
    have hs : (i + 1) * z.length = i * z.length + z.length := Nat.succ_mul _ _
    rw [List.getElem?_take_of_lt hj, List.getElem?_drop, h _ (by omega), show i * z.length + j = z.length * i + j from by rw [Nat.mul_comm], Nat.mul_add_mod, Nat.mod_eq_of_lt hj]
  · rw [List.getElem?_eq_none (by simp; omega), List.getElem?_eq_none (by omega)]
theorem range_zeros {z : Array Value} {n : Nat} : ((Array.range (n * z.size)).map (fun i => z[i % z.size]!)).toList.length = n * z.toList.length ∧
    ∀ j, j < n * z.toList.length → ((Array.range (n * z.size)).map (fun i => z[i % z.size]!)).toList[j]? = z.toList[j % z.toList.length]? := by
  refine ⟨by simp, fun j hj => ?_⟩
  have hz : 0 < z.size := by
    rcases Nat.eq_zero_or_pos z.size with e | e
    · simp [e] at hj
    · exact e
  have hj' : j < n * z.size := by simpa using hj
  have hm : j % z.size < z.size := Nat.mod_lt _ hz
  simp [hj', hm]

section
variable {X : Cells} {S0 : Base} {w0 : World} {N : Nat} {m : Lm} {s : St} {tm : Array Value} {w : World}

/-! ### values that are stored among plain data -/
theorem empLeaf_ok {F : Cells} : LeafOk m w F F empLeaf where
  u := rfl
  rel := by
    intro v cs h
    cases v <;> simp only [empLeaf] <;> try exact h
    · obtain ⟨a, rfl, rfl⟩ := h
      exact ⟨a, [], 0, rfl, rfl, Nat.le_refl _, fun _ => rfl, fun i hi => absurd hi (by simp)⟩
    · obtain ⟨b, q, v, _, rfl, h3, _⟩ := h; exact h3
  agg := by intro v; cases v <;> rfl
theorem empLeaf_fits (v : V) (t : Sh) (h : v.fits t = true) : (empLeaf v).fits t = true := by
  cases v <;> simp only [empLeaf] <;> try exact h
  · cases t <;> simp [V.fits] at h <;> exact h
  · exact tv_fits h
theorem frzV_ok : ∀ (n : Nat) (ids : List Nat) {s s' : St} {v v' : V} {cs : List Value}, frzV n ids v s = some (v', s') → R0 X S0 w0 N m s tm w → RelV m w (Fb X m s.h) v cs →
    R0 X S0 w0 N m s' tm w ∧ RelV m w (Fb X m s'.h) v' cs ∧ v'.isAgg = v.isAgg ∧ Keep w (Fb X m s.h) w (Fb X m s'.h) ∧ (∀ t, v.fits t = true → v'.fits t = true)
  | 0, ids, s, s', v, v', cs, hg, h, hv => by simp [frzV] at hg
  | n + 1, [], s, s', v, v', cs, hg, h, hv => by
    simp only [frzV, Option.some.injEq, Prod.mk.injEq] at hg
    obtain ⟨rfl, rfl⟩ := hg
    exact ⟨h, relV_norm.2 hv, norm_agg v, Keep.refl _ _, fun t ht => by rw [norm_fits]; exact ht⟩
  | n + 1, id :: r, s, s', v, v', cs, hg, h, hv => by
    simp only [frzV] at hg
    split at hg
    · rename_i e nil xs hb
      split at hg
      · rename_i s1 hs1
        have h1 := h.frz hs1
        have hF : Fb X m s1.h = Fb X m (delBox id s.h) := by
          rw [frz_some hb hs1]
          exact Fb_drop h _
        have hL := frz_leaf h hb
        have hk := keep_drop h id
        rw [← hF] at hL hk
        obtain ⟨g1, g2, g3, g4, g5⟩ := frzV_ok n _ hg h1 (hv.map hL)
        exact ⟨g1, g2, g3.trans (isAgg_map hL v), hk.trans g4, fun t ht => g5 t (fits_map (frzLeaf_fits id nil xs) v t ht)⟩
      · cases hg
    · cases hg
theorem toImm_ok {s' : St} {v v' : V} {cs : List Value} (hg : toImm s v = some (v', s')) (h : R0 X S0 w0 N m s tm w) (hv : RelV m w (Fb X m s.h) v cs) :
    ∃ sh p, v' = .imm sh p ∧ R0 X S0 w0 N m s' tm w ∧ Rep w (Fb X m s'.h) sh p cs ∧ sh.isAgg = v.isAgg ∧ Keep w (Fb X m s.h) w (Fb X m s'.h) ∧ (∀ t, v.fits t = true → sh = t) := by
  unfold toImm at hg
  split at hg
  · obtain ⟨rfl, rfl⟩ := Prod.mk.inj (Option.some.inj hg)
    exact ⟨_, _, rfl, h, hv, rfl, Keep.refl _ _, fun t ht => Sh.beq_eq ht⟩
  · split at hg
    · rename_i sh p s1 hf
      obtain ⟨rfl, rfl⟩ := Prod.mk.inj (Option.some.inj hg)
      obtain ⟨g1, g2, g3, g4, g5⟩ := frzV_ok 60 _ hf h (hv.map empLeaf_ok)
      exact ⟨sh, p, rfl, g1, g2, g3.trans (isAgg_map (empLeaf_ok (m := m) (w := w) (F := Fb X m s.h)) v), g4, fun t ht => Sh.beq_eq (g5 t (fits_map empLeaf_fits v t ht))⟩
    · cases hg
theorem rel_cells0 {F : Cells} {v : V} {x : Value} (hu : v ≠ .u) (ht : ∀ y, v ≠ .tup y) (h : Rel1 m w F v x) : ∃ cs, RelV m w F v cs ∧ valOf v.isAgg cs x := by
  cases hg : v.isAgg with
  | true =>
    obtain ⟨cs, rfl, h2⟩ := (rel_agg hu ht hg).1 h
    exact ⟨cs.toList, h2, by simp [valOf]⟩
  | false => exact ⟨[x], (rel_sc hu ht hg).1 h, rfl⟩
theorem toImm_ne {s' : St} {v v' : V} (hg : toImm s v = some (v', s')) : v ≠ .u ∧ ∀ y, v ≠ .tup y := by
  constructor
  · rintro rfl
    simp [toImm, V.ids, V.map, empLeaf, frzV, V.norm] at hg
  · rintro y rfl
    unfold toImm at hg
    simp only at hg
    have key : ∀ (n : Nat) (ids : List Nat) (y : V) (s : St) (r : V × St), frzV n ids (.tup y) s = some r → ∃ z, r.1 = .tup z := by
      intro n
      induction n with
      | zero => intro ids y s r h; simp [frzV] at h
      | succ n ih =>
        intro ids y s r h
        cases ids with
        | nil => simp [frzV, V.norm] at h; subst h; exact ⟨y, rfl⟩
        | cons id q =>
          simp only [frzV] at h
          split at h
          · split at h
            · exact ih _ _ _ _ h
            · cases h
          · cases h
    split at hg
    · rename_i sh p s1 hf
      obtain ⟨z, hz⟩ := key _ _ _ _ _ hf
      cases hz
    · cases hg
theorem atXs_ok {id : Nat} {e : Sh} {xs : List P} (h : R0 X S0 w0 N m s tm w) (hx : atXs s.h id e = some xs) :
    ∃ b q, m id = .blk b q ∧ q.len = xs.length ∧ q.e = e ∧ xs.length ≤ q.cap ∧ ArrRel w (Fb X m s.h) e xs b 0 q.cap ∧ ∃ k p, getBox id s.h = some (.blk k p) ∧ p.xs = xs ∧ k.el = some e := by
  unfold atXs at hx
  split at hx
  · rename_i k p hb
    split at hx
    · rename_i t hel
      cases het : e.beq t with
      | false => rw [het] at hx; cases hx
      | true =>
        rw [het] at hx
        obtain rfl := Option.some.inj hx
        have := Sh.beq_eq het; subst this
        obtain ⟨b, q, hh, h1, h2, ⟨xs, rfl, h4, h5, h6, h7, _⟩, _⟩ := brel_at (h.box id _ hb) hel
        exact ⟨b, q, h1, h4, h5, h6, h7, k, _, hb, rfl, hel⟩
    · cases hx
  · cases hx
/-- A slice's elements: how the model's slice value holds them. -/
theorem lst_ok {v : V} {x : Value} {e : Sh} {ys : List P} (h : R0 X S0 w0 N m s tm w) (hv : Rel1 m w (Fb X m s.h) v x) (hl : lst s v = some (e, ys)) :
    ∃ (a : Option Addr) (cap : Nat), x = .slice a ys.length cap ∧ ys.length ≤ cap ∧
      ∀ i, i < ys.length → ∃ b o c, a = some (mkA b o) ∧ Rep w (Fb X m s.h) e (rd ys i) c ∧ c.length = e.size ∧ ∀ j y, c[j]? = some y → w.cell? (mkA b (o + i * e.size + j)) = some y := by
  unfold lst at hl
  split at hl
  · obtain ⟨rfl, rfl⟩ := Prod.mk.inj (Option.some.inj hl)
    obtain ⟨a, xs, cap, rfl, h2, h3, h4, h5⟩ := (rel_imm rfl).1 hv
    injection h2 with h2
    refine ⟨a, cap, h2, h3, fun i hi => ?_⟩
    obtain ⟨b, o, c, g1, g2, g3⟩ := h5 i hi
    exact ⟨b, o, c, g1, g2, g2.len, fun j y hy => (g3 j y hy).1⟩
  · obtain ⟨rfl, rfl⟩ := Prod.mk.inj (Option.some.inj hl)
    obtain ⟨a, xs, cap, rfl, h2, h3, h4, h5⟩ := (rel_imm rfl).1 (dv_rel hv)
    injection h2 with h2
    refine ⟨a, cap, h2, h3, fun i hi => ?_⟩
    obtain ⟨b, o, c, g1, g2, g3⟩ := h5 i hi
    exact ⟨b, o, c, g1, g2, g2.len, fun j y hy => (g3 j y hy).1⟩
  · split at hl
    · rename_i xs hx
      obtain ⟨rfl, rfl⟩ := Prod.mk.inj (Option.some.inj hl)
      obtain ⟨b, q, h1, h2, h3, h4, h5, _⟩ := atXs_ok h hx
      obtain ⟨b', q', g1, g2, _⟩ := (rel_sc (by simp) (by simp) rfl).1 hv
      rw [h1] at g1
      injection g1 with q1 q2; subst q1; subst q2
      injection g2 with g2
      refine ⟨some (mkA b 0), q.cap, by rw [g2, ← h2]; rfl, h4, fun i hi => ?_⟩
      obtain ⟨c, p1, p2⟩ := h5.1 i hi
      exact ⟨b, 0, c, rfl, p1, p1.len, fun j y hy => (p2 j y hy).1⟩
    · cases hl
  · split at hl
    · rename_i hb
      obtain ⟨rfl, rfl⟩ := Prod.mk.inj (Option.some.inj hl)
      obtain ⟨a, len, cap, h1, rfl⟩ := rel_slf.1 hv
      obtain ⟨a', cap', g1, g2, g3, g4, g5⟩ := h.box _ _ hb
      rw [h1] at g1
      injection g1 with q1 q2 q3 q4
      subst q1; subst q2; subst q3; subst q4
      refine ⟨adr a, cap, rfl, g3, fun i hi => ?_⟩
      cases a with
      | none => have := g4 rfl; omega
      | some y =>
        obtain ⟨b, o⟩ := y
        obtain ⟨c, p1, p2⟩ := (g5 b o rfl).1 i hi
        exact ⟨b, o, c, rfl, p1, p1.len, fun j y hy => (p2 j y hy).1⟩
    · cases hl
  · split at hl
    · rename_i id e' lo n _ _ _ xs hb
      obtain ⟨rfl, rfl⟩ := Prod.mk.inj (Option.some.inj hl)
      obtain ⟨a, len, cap, a', cap', h1, h2, h3, h4, h5, h6, h7⟩ := (rel_sc (by simp) (by simp) rfl).1 hv
      injection h5 with h5
      obtain ⟨a1, c1, g1, g2, g3, g4, g5⟩ := h.box _ _ hb
      rw [h1] at g1
      injection g1 with q1 q2 q3 q4
      subst q1; subst q2; subst q3; subst q4
      refine ⟨adr a', cap', by rw [length_win h2]; exact h5, by rw [length_win h2]; exact h3, fun i hi => ?_⟩
      rw [length_win h2] at hi
      have hpos : 0 < cap' := by omega
      cases a with
      | none => have := g4 rfl; omega
      | some y =>
        obtain ⟨b, o⟩ := y
        obtain ⟨c, p1, p2⟩ := (g5 b o rfl).1 (lo + i) (by omega)
        refine ⟨b, o + lo * e'.size, c, adr_some (h7 hpos), by rw [rd_win hi]; exact p1, p1.len, fun j y hy => ?_⟩
        rw [show o + lo * e'.size + i * e'.size + j = o + (lo + i) * e'.size + j from by rw [Nat.add_mul]; omega]
        exact (p2 j y hy).1
    · cases hl
  · obtain ⟨rfl, rfl⟩ := Prod.mk.inj (Option.some.inj hl)
    obtain ⟨a, h1, h2⟩ := (rel_sc (by simp) (by simp) rfl).1 hv
    injection h1 with h1
    exact ⟨a, 0, by simpa using h1, Nat.le_refl _, fun i hi => absurd hi (by simp)⟩
  · cases hl
end
end Go.Eng
end
/-! Operations without calls: the model carries out what the interpreter tells. Conditions: none. -/
section
set_option linter.unusedVariables false
set_option linter.unusedSimpArgs false
namespace Go.Eng
open Go.RowKit
section
variable {R : Type} {X : Cells} {S0 : Base} {w0 : World} {c : Cx} {m : Lm} {s : St} {a : Act} {w : World}

/-- What is to be shown behind an operation. -/
abbrev HK (X : Cells) (S0 : Base) (w0 : World) (N : Nat) (tm : Array Value) (k : V → St → Option R) (r : R) (K : Value → World → Prop) : Prop :=
  ∀ V s' m' v w', k V s' = some r → R0 X S0 w0 N m' s' tm w' → Rel1 m' w' (Fb X m' s'.h) V v → (∀ id ∈ V.ids, getBox id s'.h ≠ none) → K v w'
theorem wp_val {o : Oper} {v : Value} {w' : World} {K : Act → World → Prop} {Q : Exit → Act → World → Prop} (h : (execOp a.eval o).run c.p w = .ok (.value v) w') (hK : K (a.put o.dst v) w') : o.wp c.p a w K Q := by
  unfold Oper.wp; rw [h]; exact hK
theorem wp_skp {o : Oper} {w' : World} {K : Act → World → Prop} {Q : Exit → Act → World → Prop} (h : (execOp a.eval o).run c.p w = .ok .skip w') (hK : K (a.put o.dst undef) w') : o.wp c.p a w K Q := by
  unfold Oper.wp; rw [h]; exact hK
/-- The operation yields a value, and leaves the world as it is. -/
def WpR (P : Program) (a : Act) (w : World) (o : Oper) (K : Act → World → Prop) : Prop := ∃ v, (execOp a.eval o).run P w = .ok (.value v) w ∧ K (a.put o.dst v) w
theorem WpR.wp {o : Oper} {K : Act → World → Prop} {Q : Exit → Act → World → Prop} (h : WpR c.p a w o K) : o.wp c.p a w K Q := by
  obtain ⟨v, h1, h2⟩ := h
  exact wp_val h1 h2
theorem wpr_val {o : Oper} {v : Value} {w' : World} {K : Act → World → Prop} (h : (execOp a.eval o).run c.p w = .ok (.value v) w') (hK : K (a.put o.dst v) w') (e : w' = w := by rfl) : WpR c.p a w o K := by
  subst e; exact ⟨v, h, hK⟩
theorem sh_is {t : TypeId} {sh : Sh} (h : c.sh t = some sh) : TyIs c.p t sh := shOf_is h
theorem oIs_eq {a : Option Sh} {b : Sh} (h : oIs a b = true) : a = some b := by
  unfold oIs at h
  split at h
  · rw [Sh.beq_eq h]
  · cases h
theorem cond_some {b : Bool} {x : Option R} {r : R} (h : (bif b then x else none) = some r) : b = true ∧ x = some r := by
  cases b
  · cases h
  · exact ⟨rfl, h⟩
theorem add_some {s s' : St} {id : Nat} {bx : Box} (h : s.add id bx = some s') : Free id s.h ∧ s' = { s with h := (id, bx) :: s.h } := by
  unfold St.add at h
  split at h
  · rename_i hn
    split at h
    · cases h
    · rename_i hb; exact ⟨⟨hn, by simpa using hb⟩, (Option.some.inj h).symm⟩
  · cases h

theorem op_move {o : Oper} {x : Operand} {k : V → St → Option R} {r : R} {K : Act → World → Prop} (ho : o.op = .move x ∨ o.op = .assign x)
    (he : k ((s.ev x).as (c.sh o.type)) s = some r) (h : R0 X S0 w0 c.n m s a.tmps w) (hK : HK X S0 w0 c.n a.tmps k r (fun v w' => K (a.put o.dst v) w')) : WpR c.p a w o K := by
  refine wpr_val (v := a.eval x) (w' := w) ?_ (hK _ s m _ w he h (as_rel (ev_rel h x)) (by rw [as_ids]; exact ev_ids h x))
  rcases ho with ho | ho <;> simp [execOp, ho]
theorem op_pick {o : Oper} {x y z : Operand} {k : V → St → Option R} {r : R} {K : Act → World → Prop} (ho : o.op = .pick x y z)
    (he : (match s.ev x with | .imm .bool p => bif p.toBool then k (s.ev y) s else k (s.ev z) s | _ => none) = some r) (h : R0 X S0 w0 c.n m s a.tmps w)
    (hK : HK X S0 w0 c.n a.tmps k r (fun v w' => K (a.put o.dst v) w')) : WpR c.p a w o K := by
  split at he
  · rename_i p hp
    have hx := ev_rel h x
    rw [hp] at hx
    obtain ⟨_, hx⟩ := rel_bool.1 hx
    cases hb : p.toBool with
    | true =>
      rw [hb] at he hx
      exact wpr_val (v := a.eval y) (w' := w) (by simp [execOp, ho, hx, asBool]) (hK _ s m _ w he h (ev_rel h y) (ev_ids h y))
    | false =>
      rw [hb] at he hx
      exact wpr_val (v := a.eval z) (w' := w) (by simp [execOp, ho, hx, asBool]) (hK _ s m _ w he h (ev_rel h z) (ev_ids h z))
  · cases he
/-- A new variable. -/
theorem add_obj (h : R0 X S0 w0 c.n m s a.tmps w) {d : Nat} {sh : Sh} {v : V} {cs : Array Value} {t : TypeId} (hid : Free d s.h) (hf : v.fits sh = true) (hv : RelV m w (Fb X m s.h) v cs.toList)
    (hids : ∀ i ∈ v.ids, getBox i s.h ≠ none) :
    R0 X S0 w0 c.n (updL m d (.obj w.heap.size 0 sh)) { s with h := (d, .obj sh v) :: s.h } a.tmps (w.alloc (.cells cs t)) ∧
      Rel1 (updL m d (.obj w.heap.size 0 sh)) (w.alloc (.cells cs t)) (Fb X (updL m d (.obj w.heap.size 0 sh)) ((d, .obj sh v) :: s.h)) (.ref d [] sh) (.pointer (some ⟨w.heap.size, 0, none⟩)) := by
  refine ⟨h.add hid (alloc_below _) (Nat.le_refl _) (fun b o hh => by obtain ⟨rfl, _⟩ := hh; exact Nat.le_refl _) hids (fun hk => ?_), rel_ref.2 (by rw [updL_same]; exact ⟨0, by simp [shAt], rfl⟩)⟩
  have := alloc_sto (w := w) t cs.toList
  refine ⟨w.heap.size, 0, cs.toList, updL_same _ _ _, hf, RelV.maps _ _ (fun i hi => updL_other m _ (fun e => hids i hi (e ▸ hid.1))) (hv.mono hk), RelV.len _ _ _ hf hv, by simpa using this⟩
theorem op_alloc {o : Oper} {t : TypeId} {k : V → St → Option R} {r : R} {K : Act → World → Prop} {Q : Exit → Act → World → Prop} {d : Nat} (ho : o.op = .alloc t)
    (he : (match c.sh t with | some sh => (match s.add d (.obj sh (.imm sh sh.zero)) with | some s' => k (.ref d [] sh) s' | none => none) | none => none) = some r) (h : R0 X S0 w0 c.n m s a.tmps w)
    (hK : HK X S0 w0 c.n a.tmps k r (fun v w' => K (a.put o.dst v) w')) : o.wp c.p a w K Q := by
  split at he
  · rename_i sh hsh
    split at he
    · rename_i s' hs'
      obtain ⟨hid, rfl⟩ := add_some hs'
      obtain ⟨z, hz1, hz2, hz3⟩ := run_zero (sh_is hsh) w
      obtain ⟨g1, g2⟩ := add_obj (v := .imm sh sh.zero) (t := t) h (cs := z.cells) hid (Sh.beq_refl sh) (hz3 w (Fb X m s.h)) (fun i hi => by cases hi)
      refine wp_val (v := .pointer (some ⟨w.heap.size, 0, none⟩)) (w' := w.alloc (.cells z.cells t)) ?_ (hK _ _ _ _ _ he g1 g2 (fun i hi => by simp [V.ids] at hi; subst hi; simp [getBox_cons]))
      simp [execOp, ho, Instr.alloc, hz1, newVar, newRow]
    · cases he
  · cases he
theorem op_box {o : Oper} {t : TypeId} {x : Operand} {k : V → St → Option R} {r : R} {K : Act → World → Prop} {Q : Exit → Act → World → Prop} {d : Nat} (ho : o.op = .box t x)
    (he : (match c.sh t with
    | some sh => let v := (s.ev x).as (some sh); bif v.fits sh && v.solid then (match s.add d (.obj sh v) with | some s' => k (.ref d [] sh) s' | none => none) else none
    | none => none) = some r) (h : R0 X S0 w0 c.n m s a.tmps w)
    (hK : HK X S0 w0 c.n a.tmps k r (fun v w' => K (a.put o.dst v) w')) : o.wp c.p a w K Q := by
  split at he
  · rename_i sh hsh
    simp only at he
    replace he := cond_some he
    obtain ⟨hc, he⟩ := he
    simp only [Bool.and_eq_true] at hc
    split at he
    · rename_i s' hs'
      obtain ⟨hid, rfl⟩ := add_some hs'
      obtain ⟨cs, hcs, hval⟩ := rel_cells hc.1 hc.2 (as_rel (sh := some sh) (ev_rel h x))
      have hcl := valOf_cells hval (RelV.one _ _ hc.2 hcs)
      have hids : ∀ i ∈ ((s.ev x).as (some sh)).ids, getBox i s.h ≠ none := by rw [as_ids]; exact ev_ids h x
      obtain ⟨g1, g2⟩ := add_obj (t := t) h (cs := cs.toArray) hid hc.1 (by simpa using hcs) hids
      refine wp_val (v := .pointer (some ⟨w.heap.size, 0, none⟩)) (w' := w.alloc (.cells cs.toArray t)) ?_ (hK _ _ _ _ _ he g1 g2 (fun i hi => by simp [V.ids] at hi; subst hi; simp [getBox_cons]))
      simp [execOp, ho, Instr.box, newVar, newRow, hcl]
    · cases he
  · cases he
theorem op_load {o : Oper} {t : TypeId} {x : Operand} {k : V → St → Option R} {r : R} {K : Act → World → Prop} (ho : o.op = .load t x)
    (he : (match s.ev x with
    | .ref id path sh => bif oIs (c.sh t) sh then (match getRef s.h id path with | some v => k v s | none => none) else none
    | .iptr sh p => bif oIs (c.sh t) sh then k (.imm sh p) s else none
    | _ => none) = some r) (h : R0 X S0 w0 c.n m s a.tmps w)
    (hK : HK X S0 w0 c.n a.tmps k r (fun v w' => K (a.put o.dst v) w')) : WpR c.p a w o K := by
  have hx := ev_rel h x
  split at he
  · rename_i id path sh hp
    replace he := cond_some he
    obtain ⟨hc, he⟩ := he
    have hsh := sh_is (oIs_eq hc)
    split at he
    · rename_i v hg
      rw [hp] at hx
      obtain ⟨b, o', cs, hv, h1, h2, h3, h4, h5, _⟩ := getRef_ok h (rel_ref.1 hx) hg
      obtain ⟨y, hy1, hy2⟩ := run_load_cells hsh h1 (fun j v hv => (h4 j v hv).1)
      refine wpr_val (v := y) (w' := w) ?_ (hK _ s m _ w he h (cells_rel h2 hy2 h3) h5)
      simp [execOp, ho, Instr.loadAt, Instr.sureAddr, hv, hy1]
    · cases he
  · rename_i sh p hp
    replace he := cond_some he
    obtain ⟨hc, he⟩ := he
    have hsh := sh_is (oIs_eq hc)
    rw [hp] at hx
    obtain ⟨b, o', cs, hv, h1, h2⟩ := (rel_sc (by simp) (by simp) rfl).1 hx
    injection hv with hv
    obtain ⟨y, hy1, hy2⟩ := run_load_cells hsh h1.len (fun j v hv => (h2 j v hv).1)
    refine wpr_val (v := y) (w' := w) ?_ (hK _ s m _ w he h (cells_rel (v := .imm sh p) (Sh.beq_refl sh) hy2 h1) (fun i hi => by cases hi))
    simp [execOp, ho, Instr.loadAt, Instr.sureAddr, hv, hy1]
  · cases he
theorem op_store {o : Oper} {t : TypeId} {x y : Operand} {k : V → St → Option R} {r : R} {K : Act → World → Prop} {Q : Exit → Act → World → Prop} (ho : o.op = .store t x y)
    (he : (match s.ev x with
    | .ref id path sh =>
      let v := (s.ev y).as (some sh)
      bif oIs (c.sh t) sh && (v.fits sh && (v.solid && !memB id s.z)) then
        (match setRef s.h id path v with
        | some h => k .u { s with h := h }
        | none => (match toImm s v with
          | some (v', s') => (match setRef s'.h id path v' with | some h => k .u { s' with h := h } | none => none)
          | none => none))
      else none
    | _ => none) = some r) (h : R0 X S0 w0 c.n m s a.tmps w)
    (hK : HK X S0 w0 c.n a.tmps k r (fun v w' => K (a.put o.dst v) w')) : o.wp c.p a w K Q := by
  have hx := ev_rel h x
  split at he
  · rename_i id path sh hp
    simp only at he
    replace he := cond_some he
    obtain ⟨hc, he⟩ := he
    simp only [Bool.and_eq_true] at hc
    obtain ⟨hc1, hc2, hc3, hzi⟩ := hc
    have hzi : memB id s.z = false := by simpa using hzi
    have hsh := sh_is (oIs_eq hc1)
    rw [hp] at hx
    obtain ⟨cs, hcs, hval⟩ := rel_cells hc2 hc3 (as_rel (sh := some sh) (ev_rel h y))
    have hids : ∀ i ∈ ((s.ev y).as (some sh)).ids, getBox i s.h ≠ none := by rw [as_ids]; exact ev_ids h y
    have hlen := RelV.len _ _ _ hc2 hcs
    have hone := RelV.one _ _ hc3 hcs
    split at he
    · rename_i h' hg
      obtain ⟨b, o', hv, h1, h2⟩ := setRef_ok h (rel_ref.1 hx) hzi hg hc2 hc3 hcs hids
      have hst := run_store_cells hsh hval hlen hone h1
      refine wp_skp (w' := w.setCells b o' cs) ?_ (hK _ _ m undef _ he h2 trivial (fun i hi => by cases hi))
      simp [execOp, ho, Instr.storeAt, Instr.sureAddr, hv, hst]
    · split at he
      · rename_i v' s' hti
        split at he
        · rename_i h' hg
          obtain ⟨sh', p, rfl, h1, h2, h3, h4, h5⟩ := toImm_ok hti h hcs
          have hsh' := h5 sh hc2
          subst hsh'
          obtain ⟨b, o', hv, g1, g2⟩ := setRef_ok (x := .imm sh' p) h1 (rel_ref.1 hx) (by rw [h1.hz, ← h.hz]; exact hzi) hg (Sh.beq_refl sh') rfl h2 (fun i hi => by cases hi)
          have hst := run_store_cells hsh hval hlen hone g1
          refine wp_skp (w' := w.setCells b o' cs) ?_ (hK .u _ m undef _ he g2 trivial (fun i hi => by cases hi))
          simp [execOp, ho, Instr.storeAt, Instr.sureAddr, hv, hst]
        · cases he
      · cases he
  · cases he
end
end Go.Eng
end
/-! Operations without calls, more. Conditions: none. -/
section
set_option linter.unusedVariables false
set_option linter.unusedSimpArgs false
namespace Go.Eng
open Go.RowKit
section
variable {R : Type} {X : Cells} {S0 : Base} {w0 : World} {c : Cx} {m : Lm} {s : St} {a : Act} {w : World}
variable {o : Oper} {k : V → St → Option R} {r : R} {K : Act → World → Prop} {Q : Exit → Act → World → Prop}

theorem op_nilCheck {x : Operand} (ho : o.op = .nilCheck x)
    (he : (match s.ev x with
    | .ref id p sh => k (.ref id p sh) s
    | .iptr sh p => k (.iptr sh p) s
    | _ => none) = some r) (h : R0 X S0 w0 c.n m s a.tmps w)
    (hK : HK X S0 w0 c.n a.tmps k r (fun v w' => K (a.put o.dst v) w')) : WpR c.p a w o K := by
  have hx := ev_rel h x
  have hi := ev_ids h x
  split at he
  · rename_i id p sh hp
    rw [hp] at hx hi
    obtain ⟨b, o', hv⟩ := addr_ptr (rel_ref.1 hx)
    exact wpr_val (v := a.eval x) (w' := w) (by simp [execOp, ho, hv]) (hK _ s m _ w he h hx hi)
  · rename_i sh p hp
    rw [hp] at hx hi
    obtain ⟨b, o', cs, hv, _⟩ := (rel_sc (by simp) (by simp) rfl).1 hx
    injection hv with hv
    exact wpr_val (v := a.eval x) (w' := w) (by simp [execOp, ho, hv]) (hK _ s m _ w he h hx hi)
  · cases he
theorem op_bin {op : BinOp} {t t' : TypeId} {x y : Operand} (ho : o.op = .binOp op t x y t')
    (he : evBin c s op t (s.ev x).dv (s.ev y).dv (fun v => k v s) = some r) (h : R0 X S0 w0 c.n m s a.tmps w)
    (hK : HK X S0 w0 c.n a.tmps k r (fun v w' => K (a.put o.dst v) w')) : WpR c.p a w o K := by
  obtain ⟨V, z, h1, h2, h3, h4, h5⟩ := evBin_ok (ox := x) (oy := y) h (dv_rel (ev_rel h x)) (dv_rel (ev_rel h y)) he
  refine wpr_val (v := z) (w' := w) ?_ (hK _ s m _ w h1 h (h4 _) (fun i hi => by rw [h5] at hi; cases hi))
  simp [execOp, ho, h2, h3]
theorem op_un {op : UnOp} {t : TypeId} {x : Operand}
    (he : (match op, s.ev x with
    | .not, .imm .bool p => k (.imm .bool (.bool (!p.toBool))) s
    | .neg, .imm (.int b) p => k (.imm (.int b) (.int b (b.wrap (0 - p.toInt)))) s
    | _, _ => none) = some r) (ho : o.op = .unOp op t x) (h : R0 X S0 w0 c.n m s a.tmps w)
    (hK : HK X S0 w0 c.n a.tmps k r (fun v w' => K (a.put o.dst v) w')) : WpR c.p a w o K := by
  have hx := ev_rel h x
  have h1 : (∃ p, op = .not ∧ s.ev x = .imm .bool p ∧ k (.imm .bool (.bool (!p.toBool))) s = some r) ∨ (∃ b p, op = .neg ∧ s.ev x = .imm (.int b) p ∧ k (.imm (.int b) (.int b (b.wrap (0 - p.toInt)))) s = some r) := by
    clear ho
    split at he
    · rename_i p hp; exact .inl ⟨p, rfl, hp, he⟩
    · rename_i b p hp; exact .inr ⟨b, p, rfl, hp, he⟩
    · cases he
  rcases h1 with ⟨p, rfl, hp, he⟩ | ⟨b, p, rfl, hp, he⟩
  · rw [hp] at hx
    obtain ⟨_, hx⟩ := rel_bool.1 hx
    exact wpr_val (v := .bool (!p.toBool)) (w' := w) (by simp [execOp, ho, hx, Op.unary]) (hK _ s m _ w he h (mk_bool _) (fun i hi => by cases hi))
  · rw [hp] at hx
    obtain ⟨_, hx⟩ := rel_int.1 hx
    exact wpr_val (v := .int b (b.wrap (0 - p.toInt))) (w' := w) (by simp [execOp, ho, hx, Op.unary, Op.intArith]) (hK _ s m _ w he h (mk_int _ _) (fun i hi => by cases hi))
theorem op_convert {src dst : TypeId} {x : Operand} (ho : o.op = .convert src dst x)
    (he : (match s.ev x, c.sh dst with
    | .imm (.int _) p, some (.int b) => (match c.sh src with | some (.int _) => k (.imm (.int b) (.int b (b.wrap p.toInt))) s | _ => none)
    | .imm .str p, some .str => (match c.sh src with | some .str => k (.imm .str p) s | _ => none)
    | .slf id (.int .u8), some .str => (match c.sh src, getBox id s.h with | some (.slice (.int .u8)), some (.arr (.int .u8) _ xs) => k (.imm .str (.str (toBy xs))) s | _, _ => none)
    | _, _ => none) = some r) (h : R0 X S0 w0 c.n m s a.tmps w)
    (hK : HK X S0 w0 c.n a.tmps k r (fun v w' => K (a.put o.dst v) w')) : WpR c.p a w o K := by
  have hx := ev_rel h x
  split at he
  · rename_i kk p b hp hd
    split at he
    · rename_i ks hs
      rw [hp] at hx
      obtain ⟨_, hx⟩ := rel_int.1 hx
      have h1 := shOf_int hd
      have h2 := shOf_int hs
      exact wpr_val (v := .int b (b.wrap p.toInt)) (w' := w) (by simp [execOp, ho, hx, convert, run_underlying h1, run_underlying h2, Conv.intToInt]) (hK _ s m _ w he h (mk_int _ _) (fun i hi => by cases hi))
    · cases he
  · rename_i p hp hd
    split at he
    · rename_i hs
      rw [hp] at hx
      have hx' := hx
      obtain ⟨_, hx⟩ := rel_str.1 hx
      have h1 := shOf_str hd
      have h2 := shOf_str hs
      refine wpr_val (v := a.eval x) (w' := w) ?_ (hK _ s m _ w he h hx' (fun i hi => by cases hi))
      simp [execOp, ho, hx, convert, run_underlying h1, run_underlying h2]
    · cases he
  · rename_i id hp hd
    split at he
    · rename_i nl xs hs hb
      rw [hp] at hx
      obtain ⟨al, len, cap, hm, hx⟩ := rel_slf.1 hx
      obtain ⟨a', cap', hm', _, hle, hz, hA⟩ := h.box id _ hb
      rw [hm] at hm'
      injection hm' with e1 e2 e3 _
      subst e1; subst e2; subst e3
      have h1 := shOf_str hd
      obtain ⟨te, n', h2, hte⟩ := shOf_slice hs
      have h3 := shOf_int hte
      have hrun : (Conv.bytesToString (.slice (adr al) xs.length cap)).run c.p w = .ok (.string (toBy xs)) w := by
        cases al with
        | none =>
          have := hz rfl
          have : xs = [] := List.eq_nil_of_length_eq_zero (by omega)
          subst this; rfl
        | some z =>
          obtain ⟨b, o'⟩ := z
          obtain ⟨hA, _⟩ := hA b o' rfl
          have hl := run_loadCells_list (P := c.p) w (mkA b o') ((xs.map P.toInt).map (Value.int .u8)) (fun j v hv => by
            rw [mkA_add]
            have hj : j < xs.length := by
              have := (List.getElem?_eq_some_iff.1 hv).1
              simpa using this
            obtain ⟨cs, hr, hst⟩ := hA j hj
            obtain ⟨i, g1, g2⟩ := hr
            subst g2
            have := (hst 0 _ rfl).1
            simp only [Sh.size, Nat.mul_one, Nat.add_zero] at this
            rw [this, ← hv]
            simp only [rd, List.getD_eq_getElem?_getD, List.getElem?_eq_getElem hj, Option.getD_some] at g1
            simp [List.getElem?_eq_getElem hj, g1, P.toInt])
          have := Go.run_bytesToString (P := c.p) w (mkA b o') xs.length cap (xs.map P.toInt) (by simpa using hl)
          exact this
      refine wpr_val (v := .string (toBy xs)) (w' := w) ?_ (hK _ s m _ w he h (mk_str _) (fun i hi => by cases hi))
      simp [execOp, ho, hx, convert, run_underlying h1, run_underlying h2, run_underlying h3, hrun]
    · cases he
  · cases he
theorem ofList_ids : ∀ (l : List V), ∀ i ∈ (ofList l).ids, ∃ y ∈ l, i ∈ y.ids
  | [], i, h => by simp [ofList, V.unit, V.ids] at h
  | v :: r, i, h => by
    simp only [ofList, V.ids, List.mem_append] at h
    rcases h with h | h
    · exact ⟨v, by simp, h⟩
    · obtain ⟨y, hu, hi⟩ := ofList_ids r i h; exact ⟨y, by simp [hu], hi⟩
theorem op_makeFunc {g : FuncId} {first caps : Array Operand} (ho : o.op = .makeFunc (.func g) first caps)
    (he : (bif first.isEmpty && caps.toList.all (fun x => !(s.ev x).isAgg && (s.ev x).solid) then k (.fn g (ofList (caps.toList.map s.ev))) s else none) = some r) (h : R0 X S0 w0 c.n m s a.tmps w)
    (hK : HK X S0 w0 c.n a.tmps k r (fun v w' => K (a.put o.dst v) w')) : WpR c.p a w o K := by
  replace he := cond_some he
  obtain ⟨hc, he⟩ := he
  simp only [Bool.and_eq_true] at hc
  obtain ⟨h1, h2⟩ := hc
  have hf : first = #[] := by simpa using h1
  have hr : ∀ (l : List Operand), l.all (fun x => !(s.ev x).isAgg && (s.ev x).solid) = true → RelV m w (Fb X m s.h) (ofList (l.map s.ev)) (l.map a.eval) := by
    intro l
    induction l with
    | nil => intro _; exact ⟨rfl, rfl⟩
    | cons x r ih =>
      intro hl
      simp only [List.all_cons, Bool.and_eq_true, Bool.not_eq_true'] at hl
      obtain ⟨⟨g1, g2⟩, g3⟩ := hl
      obtain ⟨q1, q2⟩ := solid_tup g2
      exact ⟨[a.eval x], r.map a.eval, rfl, (rel_sc q1 q2 g1).1 (ev_rel h x), ih g3⟩
  refine wpr_val (v := .func (.func g) #[] (caps.map a.eval)) (w' := w) ?_ (hK _ s m _ w he h ((rel_sc (by simp) (by simp) rfl).2 ⟨_, rfl, by simpa using hr caps.toList h2⟩) (fun i hi => ?_))
  · simp [execOp, ho, Instr.makeFunc, hf]
  · obtain ⟨v, hv, hi⟩ := ofList_ids _ i hi
    obtain ⟨x, _, rfl⟩ := List.mem_map.1 hv
    exact ev_ids h x i hi
theorem op_fieldAddr {t : TypeId} {x : Operand} {j : Nat} (ho : o.op = .fieldAddr t x j)
    (he : (match s.ev x, fieldOff c t j with
    | .ref id path sh, some off => (match Sh.nth j sh with | some f => bif oIs (c.sh t) sh && (Nat.beq (Sh.offs j sh) off && Nat.blt 0 f.size) then k (.ref id (path ++ [.f j]) f) s else none | none => none)
    | .iptr sh p, some off => (match Sh.nth j sh with | some f => bif oIs (c.sh t) sh && (Nat.beq (Sh.offs j sh) off && Nat.blt 0 f.size) then k (.iptr f (P.nth j p)) s else none | none => none)
    | _, _ => none) = some r) (h : R0 X S0 w0 c.n m s a.tmps w)
    (hK : HK X S0 w0 c.n a.tmps k r (fun v w' => K (a.put o.dst v) w')) : WpR c.p a w o K := by
  have hx := ev_rel h x
  have hi := ev_ids h x
  have hrun : ∀ (sh f : Sh) (off b o' : Nat), fieldOff c t j = some off → c.sh t = some sh → Sh.nth j sh = some f → Sh.offs j sh = off → 0 < f.size → a.eval x = .pointer (some (mkA b o')) →
      (execOp a.eval o).run c.p w = .ok (.value (.pointer (some (mkA b (o' + off))))) w := by
    intro sh f off b o' h1 h2 h3 h4 h5 h6
    unfold fieldOff at h1
    split at h1
    · rename_i fs hu
      simp only [Option.map_eq_some_iff] at h1
      obtain ⟨fd, hfd, rfl⟩ := h1
      obtain ⟨n', hp⟩ := shOf_struct h2 hu
      have hn := pairs_nth _ _ _ _ hp h3
      simp only [List.getElem?_map, Option.map_eq_some_iff] at hn
      obtain ⟨fd', hfd', hsf⟩ := hn
      have : fd' = fd := by
        have e : fs.toList[j]? = some fd := by simpa using hfd
        rw [e] at hfd'; exact (Option.some.inj hfd').symm
      subst this
      have hty := shOf_is hsf
      have hz : ¬ f.size = 0 := by omega
      simp [execOp, ho, Instr.fieldAt, run_underlying hu, hfd, h6, Instr.sureAddr, fieldPlace, run_sizeOf' hty, hz, mkA_add]
    · cases h1
  split at he
  · rename_i id path sh off hp hoff
    split at he
    · rename_i f hf
      replace he := cond_some he
      obtain ⟨hc, he⟩ := he
      simp only [Bool.and_eq_true, beq_iff] at hc
      obtain ⟨h1, h2, h3⟩ := hc
      have h3' : 0 < f.size := by rw [Nat.blt_eq] at h3; exact h3
      rw [hp] at hx hi
      obtain ⟨b, o', hv⟩ := addr_ptr (rel_ref.1 hx)
      rw [hv] at hx
      have hat : shAt sh [.f j] = some (off, f) := by rw [shAt_f, hf]; simp [shAt, h2]
      exact wpr_val (hrun sh f off b o' hoff (oIs_eq h1) hf h2 h3' hv) (hK _ s m _ w he h (rel_ref.2 (addr_append (rel_ref.1 hx) hat)) hi)
    · cases he
  · rename_i sh p off hp hoff
    split at he
    · rename_i f hf
      replace he := cond_some he
      obtain ⟨hc, he⟩ := he
      simp only [Bool.and_eq_true, beq_iff] at hc
      obtain ⟨h1, h2, h3⟩ := hc
      have h3' : 0 < f.size := by rw [Nat.blt_eq] at h3; exact h3
      rw [hp] at hx
      obtain ⟨b, o', cs, hv, g1, g2⟩ := (rel_sc (by simp) (by simp) rfl).1 hx
      injection hv with hv
      refine wpr_val (hrun sh f off b o' hoff (oIs_eq h1) hf h2 h3' hv) (hK _ s m _ w he h ((rel_sc (by simp) (by simp) rfl).2 ?_) (fun i hi => by cases hi))
      have key : ∀ (j : Nat) (sh f : Sh) (p : P) (cs : List Value), Sh.nth j sh = some f → Rep w (Fb X m s.h) sh p cs → ∃ l d r, cs = l ++ d ++ r ∧ l.length = Sh.offs j sh ∧ Rep w (Fb X m s.h) f (P.nth j p) d := by
        intro j
        induction j with
        | zero =>
          intro sh f p cs hn hr
          cases sh <;> simp [Sh.nth] at hn
          subst hn
          obtain ⟨x, y, c', d, rfl, rfl, q1, q2⟩ := hr
          exact ⟨[], c', d, by simp, rfl, q1⟩
        | succ j ih =>
          intro sh f p cs hn hr
          cases sh <;> simp only [Sh.nth] at hn <;> first | cases hn | skip
          obtain ⟨x, y, c', d, rfl, rfl, q1, q2⟩ := hr
          obtain ⟨l, d', rr, rfl, z2, z3⟩ := ih _ _ y d hn q2
          exact ⟨c' ++ l, d', rr, by simp, by simp [Sh.offs, q1.len, z2], z3⟩
      obtain ⟨l, d, rr, rfl, z2, z3⟩ := key j sh f p cs hf g1
      refine ⟨b, o' + off, d, rfl, z3, fun i y hy => ?_⟩
      have hil : i < d.length := by
        rcases Nat.lt_or_ge i d.length with q | q
        · exact q
        · rw [List.getElem?_eq_none q] at hy; cases hy
      have := g2 (off + i) y (by rw [List.append_assoc, List.getElem?_append_right (by omega), List.getElem?_append_left (by omega), z2, h2, show off + i - off = i from by omega]; exact hy)
      rw [← Nat.add_assoc] at this
      exact this
    · cases he
  · cases he
end
end Go.Eng
end
/-! Operations without calls: parts of values, lengths, slices. Conditions: none. -/
section
set_option linter.unusedVariables false
set_option linter.unusedSimpArgs false
namespace Go.Eng
open Go.RowKit
section
variable {R : Type} {X : Cells} {S0 : Base} {w0 : World} {c : Cx} {m : Lm} {s : St} {a : Act} {w : World}
variable {o : Oper} {k : V → St → Option R} {r : R} {K : Act → World → Prop} {Q : Exit → Act → World → Prop}

theorem fieldOff_ty {t : TypeId} {j off : Nat} {sh f : Sh} (h1 : fieldOff c t j = some off) (h2 : c.sh t = some sh) (h3 : Sh.nth j sh = some f) :
    ∃ fs fd, c.p.underlying t = some (.struct fs) ∧ fs[j]? = some fd ∧ fd.offset = off ∧ TyIs c.p fd.type f := by
  unfold fieldOff at h1
  split at h1
  · rename_i fs hu
    simp only [Option.map_eq_some_iff] at h1
    obtain ⟨fd, hfd, rfl⟩ := h1
    obtain ⟨n', hp⟩ := shOf_struct h2 hu
    have hn := pairs_nth _ _ _ _ hp h3
    simp only [List.getElem?_map, Option.map_eq_some_iff] at hn
    obtain ⟨fd', hfd', hsf⟩ := hn
    have : fd' = fd := by
      have e : fs.toList[j]? = some fd := by simpa using hfd
      rw [e] at hfd'; exact (Option.some.inj hfd').symm
    subst this
    exact ⟨fs, fd', hu, hfd, rfl, shOf_is hsf⟩
  · cases h1
theorem op_field {t : TypeId} {x : Operand} {j : Nat} (ho : o.op = .field t x j)
    (he : (match fieldOff c t j with
    | some off => let v := s.ev x
      (match c.sh t with | some sh => bif v.fits sh && Nat.beq (Sh.offs j sh) off then (match V.nth j v with | some w => k w s | none => none) else none | none => none)
    | none => none) = some r) (h : R0 X S0 w0 c.n m s a.tmps w)
    (hK : HK X S0 w0 c.n a.tmps k r (fun v w' => K (a.put o.dst v) w')) : WpR c.p a w o K := by
  have hx := ev_rel h x
  split at he
  · rename_i off hoff
    simp only at he
    split at he
    · rename_i sh hsh
      replace he := cond_some he
      obtain ⟨hc, he⟩ := he
      simp only [Bool.and_eq_true, beq_iff] at hc
      split at he
      · rename_i y hy
        have hag : (s.ev x).isAgg = true := by
          cases hv : s.ev x with
          | imm t' p => rw [hv] at hy; cases j <;> cases t' <;> simp [V.nth, V.fst, V.snd] at hy <;> rfl
          | pair y1 y2 => rfl
          | _ => rw [hv] at hy; cases j <;> simp [V.nth, V.fst, V.snd] at hy
        have hne : s.ev x ≠ .u ∧ ∀ y, s.ev x ≠ .tup y := by
          constructor
          · intro e; rw [e] at hag; cases hag
          · intro y e; rw [e] at hag; cases hag
        obtain ⟨cs, hcs, hr⟩ := (rel_agg hne.1 hne.2 hag).1 hx
        obtain ⟨f, l, d, q, g1, g2, g3, g4, g5, g6⟩ := RelV.nth j hc.1 hr hy
        obtain ⟨fs, fd, hu, hfd, hfo, hty⟩ := fieldOff_ty hoff hsh g1
        obtain ⟨v, hv1, hv2⟩ := run_part' (w := w) hty g2 (RelV.len _ _ _ g4 g5)
        refine wpr_val (v := v) (w' := w) ?_ (hK _ s m _ w he h (cells_rel g4 hv2 g5) (fun i hi => ev_ids h x i (g6 i hi)))
        have : l.length = fd.offset := by rw [g3, hc.2, hfo]
        rw [this] at hv1
        simp [execOp, ho, Instr.field, run_underlying hu, hfd, hcs, asAgg, hv1]
      · cases he
    · cases he
  · cases he
theorem inb_iff {i : Int} {n : Nat} : inb i n = true ↔ 0 ≤ i ∧ i < n := by simp [inb]
theorem idx_lt {i : Int} {n : Nat} (h : 0 ≤ i ∧ i < n) : i.toNat < n := by omega
theorem shAt_i {n i : Nat} {e : Sh} (h : i < n) : shAt (.arr n e) [.i i] = some (i * e.size, e) := by simp [shAt, h]
theorem dv_ids {v : V} {P : Nat → Prop} (h : ∀ i ∈ v.ids, P i) : ∀ i ∈ v.dv.ids, P i := by
  cases v <;> first | exact h | (intro i hi; cases hi)
theorem op_indexAddr {t : TypeId} {x y : Operand} (ho : o.op = .indexAddr t x y)
    (he : (match s.ev y with
    | .imm (.int _) q =>
      (match (s.ev x).dv with
      | .imm (.slice e) p => bif oIs (c.sh t) (.slice e) then (bif inb q.toInt p.xs.length then k (.iptr e (rd p.xs q.toInt.toNat)) s else none) else none
      | .blk id (.at e) => (match atXs s.h id e with | some xs => bif oIs (c.sh t) (.slice e) then (bif inb q.toInt xs.length then k (.ref id [.i q.toInt.toNat] e) s else none) else none | none => none)
      | .slf id e => (match getBox id s.h with | some (.arr _ _ xs) => bif oIs (c.sh t) (.slice e) then (bif inb q.toInt xs.length then k (.ref id [.i q.toInt.toNat] e) s else none) else none | _ => none)
      | .slw id e lo n => (match getBox id s.h with | some (.arr _ _ _) => bif oIs (c.sh t) (.slice e) then (bif inb q.toInt n then k (.ref id [.i (lo + q.toInt.toNat)] e) s else none) else none | _ => none)
      | .ref id path (.arr n e) => bif oIs (c.sh t) (.arr n e) then (bif inb q.toInt n then k (.ref id (path ++ [.i q.toInt.toNat]) e) s else none) else none
      | .iptr (.arr n e) p => bif oIs (c.sh t) (.arr n e) then (bif inb q.toInt n then k (.iptr e (rd p.xs q.toInt.toNat)) s else none) else none
      | _ => none)
    | _ => none) = some r) (h : R0 X S0 w0 c.n m s a.tmps w)
    (hK : HK X S0 w0 c.n a.tmps k r (fun v w' => K (a.put o.dst v) w')) : WpR c.p a w o K := by
  have hx := dv_rel (ev_rel h x)
  have hxi := dv_ids (ev_ids h x)
  have hy := ev_rel h y
  -- the model's run on a slice and on an array
  have runS : ∀ (e : Sh) (b o' len cap : Nat) (i : Int) (kk : IntKind), c.sh t = some (.slice e) → a.eval x = .slice (some (mkA b o')) len cap → a.eval y = .int kk i → 0 ≤ i ∧ i < len →
      (execOp a.eval o).run c.p w = .ok (.value (.pointer (some (mkA b (o' + i.toNat * e.size))))) w := by
    intro e b o' len cap i kk h1 h2 h3 h4
    obtain ⟨te, n', hu, hte⟩ := shOf_slice h1
    have hty := shOf_is hte
    simp [execOp, ho, Instr.indexAt, h2, h3, asIntOf, run_underlying hu, run_sizeOf' hty, h4.1, h4.2, mkA_add]
  have runA : ∀ (e : Sh) (b o' n : Nat) (i : Int) (kk : IntKind), c.sh t = some (.arr n e) → a.eval x = .pointer (some (mkA b o')) → a.eval y = .int kk i → 0 ≤ i ∧ i < n →
      (execOp a.eval o).run c.p w = .ok (.value (.pointer (some (mkA b (o' + i.toNat * e.size))))) w := by
    intro e b o' n i kk h1 h2 h3 h4
    obtain ⟨te, n', hu, hte⟩ := shOf_arr h1
    have hty := shOf_is hte
    simp [execOp, ho, Instr.indexAt, h2, h3, asIntOf, run_underlying hu, run_sizeOf' hty, h4.1, h4.2, mkA_add, Instr.sureAddr]
  split at he
  · rename_i kk q hq
    rw [hq] at hy
    obtain ⟨_, hy⟩ := rel_int.1 hy
    split at he
    · rename_i e p hp
      replace he := cond_some he
      obtain ⟨hc, he⟩ := he
      replace he := cond_some he
      obtain ⟨hb, he⟩ := he
      have hb := inb_iff.1 hb
      rw [hp] at hx
      obtain ⟨a', xs, cap, rfl, h2, h3, h4, h5⟩ := (rel_imm rfl).1 hx
      injection h2 with h2
      obtain ⟨b, o', cs, rfl, g1, g2⟩ := h5 q.toInt.toNat (idx_lt hb)
      exact wpr_val (runS e b o' _ cap _ kk (oIs_eq hc) h2 hy hb) (hK _ s m _ w he h ((rel_sc (by simp) (by simp) rfl).2 ⟨b, _, cs, rfl, g1, g2⟩) (fun i hi => by cases hi))
    · rename_i id e hp
      split at he
      · rename_i xs hxs
        replace he := cond_some he
        obtain ⟨hc, he⟩ := he
        replace he := cond_some he
        obtain ⟨hb, he⟩ := he
        have hb := inb_iff.1 hb
        rw [hp] at hx hxi
        obtain ⟨b, q1, h1, h2, h3, h4, h5, _⟩ := atXs_ok h hxs
        obtain ⟨b', q', g1, g2, _⟩ := (rel_sc (by simp) (by simp) rfl).1 hx
        rw [h1] at g1
        injection g1 with e1 e2; subst e1; subst e2
        injection g2 with g2
        have hlt := idx_lt hb
        have hrun := runS e b 0 q1.len q1.cap _ kk (oIs_eq hc) g2 hy (by rw [h2]; exact hb)
        rw [Nat.zero_add] at hrun
        exact wpr_val hrun (hK _ s m _ w he h (rel_ref.2 (by rw [h1]; exact ⟨_, [], 0, rfl, by rw [h2]; exact hlt, by rw [h3]; simp [shAt], by rw [h3]; rfl⟩)) hxi)
      · cases he
    · rename_i id e hp
      split at he
      · rename_i e0 n0 xs hbx
        replace he := cond_some he
        obtain ⟨hc, he⟩ := he
        replace he := cond_some he
        obtain ⟨hb, he⟩ := he
        have hb := inb_iff.1 hb
        rw [hp] at hx hxi
        obtain ⟨a', len, cap, h1, h2⟩ := rel_slf.1 hx
        obtain ⟨a1, c1, g1, g2, g3, g4, g5⟩ := h.box _ _ hbx
        rw [h1] at g1
        injection g1 with q1 q2 q3 q4
        subst q1; subst q2; subst q3; subst q4
        have hlt := idx_lt hb
        cases a' with
        | none => have := g4 rfl; omega
        | some z =>
          obtain ⟨b, o'⟩ := z
          exact wpr_val (runS e b o' _ cap _ kk (oIs_eq hc) h2 hy hb) (hK _ s m _ w he h (rel_ref.2 (by rw [h1]; exact ⟨_, [], 0, rfl, hlt, by simp [shAt], rfl⟩)) hxi)
      · cases he
    · rename_i id e lo n hp
      split at he
      · rename_i e0 n0 xs hbx
        replace he := cond_some he
        obtain ⟨hc, he⟩ := he
        replace he := cond_some he
        obtain ⟨hb, he⟩ := he
        have hb := inb_iff.1 hb
        rw [hp] at hx hxi
        obtain ⟨a1, len, cap, a', cap', h1, h2, h3, h4, h5, h6, h7⟩ := (rel_sc (by simp) (by simp) rfl).1 hx
        injection h5 with h5
        obtain ⟨a2, c1, g1, g2, g3, g4, g5⟩ := h.box _ _ hbx
        rw [h1] at g1
        injection g1 with q1 q2 q3 q4
        subst q1; subst q2; subst q3; subst q4
        have hlt := idx_lt hb
        have hpos : 0 < cap' := by omega
        cases a1 with
        | none => have := g4 rfl; omega
        | some z =>
          obtain ⟨b, o'⟩ := z
          have ha' := h7 hpos
          simp only [Option.map_some] at ha'
          subst ha'
          have := runS e b (o' + lo * e.size) _ cap' _ kk (oIs_eq hc) h5 hy hb
          rw [show o' + lo * e.size + q.toInt.toNat * e.size = o' + (lo + q.toInt.toNat) * e.size + 0 from by rw [Nat.add_mul]; omega] at this
          exact wpr_val this (hK _ s m _ w he h (rel_ref.2 (by rw [h1]; exact ⟨_, [], 0, rfl, by omega, by simp [shAt], rfl⟩)) hxi)
      · cases he
    · rename_i id path n e hp
      replace he := cond_some he
      obtain ⟨hc, he⟩ := he
      replace he := cond_some he
      obtain ⟨hb, he⟩ := he
      have hb := inb_iff.1 hb
      rw [hp] at hx hxi
      obtain ⟨b, o', hv⟩ := addr_ptr (rel_ref.1 hx)
      rw [hv] at hx
      exact wpr_val (runA e b o' n _ kk (oIs_eq hc) hv hy hb) (hK _ s m _ w he h (rel_ref.2 (addr_append (rel_ref.1 hx) (shAt_i (idx_lt hb)))) hxi)
    · rename_i n e p hp
      replace he := cond_some he
      obtain ⟨hc, he⟩ := he
      replace he := cond_some he
      obtain ⟨hb, he⟩ := he
      have hb := inb_iff.1 hb
      rw [hp] at hx
      obtain ⟨b, o', cs, hv, g1, g2⟩ := (rel_sc (by simp) (by simp) rfl).1 hx
      injection hv with hv
      obtain ⟨xs, rfl, q1, q2, q3⟩ := g1
      have hlt := idx_lt hb
      refine wpr_val (runA e b o' n _ kk (oIs_eq hc) hv hy hb) (hK _ s m _ w he h ((rel_sc (by simp) (by simp) rfl).2 ⟨b, _, _, rfl, q3 _ hlt, fun j y hy' => ?_⟩) (fun i hi => by cases hi))
      rcases Nat.lt_or_ge j e.size with e1 | e1
      · rw [List.getElem?_take_of_lt e1, List.getElem?_drop] at hy'
        have := g2 _ _ hy'
        rw [← Nat.add_assoc] at this
        exact this
      · rw [List.getElem?_eq_none (by simp; omega)] at hy'; cases hy'
    · cases he
  · cases he
theorem byteAt_ok {s : ByteArray} {i : Int} (h : 0 ≤ i ∧ i < s.size) : ∃ b, s[i.toNat]? = some b ∧ byteAt s i = (b.toNat : Int) := by
  have hlt := idx_lt h
  refine ⟨s[i.toNat], by simp [hlt], ?_⟩
  have hlt' : i.toNat < s.data.size := hlt
  simp only [byteAt, Array.getD_eq_getD_getElem?, Array.getElem?_eq_getElem hlt', Option.getD_some]
  rfl
theorem op_index {t : TypeId} {x y : Operand} (ho : o.op = .index t x y)
    (he : (match s.ev y with
    | .imm (.int _) q =>
      (match s.ev x with
      | .imm .str p => (match c.sh t with | some .str => bif inb q.toInt p.toStr.size then k (.imm (.int .u8) (.int .u8 (byteAt p.toStr q.toInt))) s else none | _ => none)
      | .imm (.arr n e) p => bif oIs (c.sh t) (.arr n e) then (bif inb q.toInt n then k (.imm e (rd p.xs q.toInt.toNat)) s else none) else none
      | _ => none)
    | _ => none) = some r) (h : R0 X S0 w0 c.n m s a.tmps w)
    (hK : HK X S0 w0 c.n a.tmps k r (fun v w' => K (a.put o.dst v) w')) : WpR c.p a w o K := by
  have hx := ev_rel h x
  have hy := ev_rel h y
  split at he
  · rename_i kk q hq
    rw [hq] at hy
    obtain ⟨_, hy⟩ := rel_int.1 hy
    split at he
    · rename_i p hp
      split at he
      · rename_i hsh
        replace he := cond_some he
        obtain ⟨hb, he⟩ := he
        have hb := inb_iff.1 hb
        rw [hp] at hx
        obtain ⟨_, hx⟩ := rel_str.1 hx
        obtain ⟨b, g1, g2⟩ := byteAt_ok hb
        have hu := shOf_str hsh
        refine wpr_val (v := .int .u8 (byteAt p.toStr q.toInt)) (w' := w) ?_ (hK _ s m _ w he h (mk_int _ _) (fun i hi => by cases hi))
        simp [execOp, ho, Instr.index, hx, hy, asIntOf, run_underlying hu, hb.1, g1, g2]
      · cases he
    · rename_i n e p hp
      replace he := cond_some he
      obtain ⟨hc, he⟩ := he
      replace he := cond_some he
      obtain ⟨hb, he⟩ := he
      have hb := inb_iff.1 hb
      rw [hp] at hx
      obtain ⟨cs, hcs, xs, rfl, q1, q2, q3⟩ := (rel_agg (by simp) (by simp) rfl).1 hx
      obtain ⟨te, n', hu, hte⟩ := shOf_arr (oIs_eq hc)
      have hty := shOf_is hte
      have hlt := idx_lt hb
      have hrep := q3 _ hlt
      have hle : (q.toInt.toNat + 1) * e.size ≤ n * e.size := Nat.mul_le_mul_right _ (by omega)
      have hs : (q.toInt.toNat + 1) * e.size = q.toInt.toNat * e.size + e.size := Nat.succ_mul _ _
      have hsplit : cs.toList = cs.toList.take (q.toInt.toNat * e.size) ++ ((cs.toList.drop (q.toInt.toNat * e.size)).take e.size) ++ cs.toList.drop (q.toInt.toNat * e.size + e.size) := by
        rw [List.append_assoc, ← List.drop_drop, List.take_append_drop, List.take_append_drop]
      obtain ⟨v, hv1, hv2⟩ := run_part' (w := w) hty hsplit hrep.len
      rw [List.length_take, Nat.min_eq_left (by omega)] at hv1
      refine wpr_val (v := v) (w' := w) ?_ (hK _ s m _ w he h (cells_rel (v := .imm e _) (Sh.beq_refl e) hv2 hrep) (fun i hi => by cases hi))
      simp [execOp, ho, Instr.index, hcs, hy, asIntOf, run_underlying hu, hb.1, hb.2, run_sizeOf' hty, hv1]
    · cases he
  · cases he
theorem relT_get {F : Cells} : ∀ (y : V) (l : List Value) (j : Nat) (z : V), RelT m w F y l → y.list[j]? = some z → ∃ x, l[j]? = some x ∧ RelS m w F z x ∧ (∀ i ∈ z.ids, i ∈ y.ids) := by
  intro y
  induction y with
  | pair p q ihp ihq =>
    intro l j z h hj
    cases l with
    | nil => exact h.elim
    | cons x r =>
      cases j with
      | zero => simp [V.list] at hj; subst hj; exact ⟨x, rfl, h.1, fun i hi => by simp [V.ids, hi]⟩
      | succ j =>
        obtain ⟨x1, h1, h2, h3⟩ := ihq r j z h.2 (by simpa [V.list] using hj)
        exact ⟨x1, by simpa using h1, h2, fun i hi => by simp [V.ids, h3 i hi]⟩
  | _ => intro l j z h hj; simp [V.list] at hj
theorem relS_rel1 {F : Cells} {v : V} {x : Value} (h : RelS m w F v x) : Rel1 m w F v x := by
  by_cases ht : ∃ y, v = .tup y
  · obtain ⟨y, rfl⟩ := ht
    exact (((relS_def (by simp)).1 h) : False).elim
  · exact (rel1_def (fun y e => ht ⟨y, e⟩)).2 h
theorem op_extract {x : Operand} {j : Nat} (ho : o.op = .extract x j)
    (he : (match s.ev x with
    | .tup v => (match v.list[j]? with | some w => k w s | none => none)
    | _ => none) = some r) (h : R0 X S0 w0 c.n m s a.tmps w)
    (hK : HK X S0 w0 c.n a.tmps k r (fun v w' => K (a.put o.dst v) w')) : WpR c.p a w o K := by
  have hx := ev_rel h x
  have hxi := ev_ids h x
  split at he
  · rename_i y hy
    split at he
    · rename_i y1 hu
      rw [hy] at hx hxi
      obtain ⟨vs, hvs, ht⟩ := hx
      obtain ⟨z, h1, h2, h3⟩ := relT_get _ _ _ _ ht hu
      have hz : vs[j]? = some z := by simpa using h1
      exact wpr_val (v := z) (w' := w) (by simp [execOp, ho, Instr.extract, hvs, hz]) (hK _ s m _ w he h (relS_rel1 h2) (fun i hi => hxi i (by simp [V.ids, h3 i hi])))
    · cases he
  · cases he
end
end Go.Eng
end
/-! Operations without calls: lengths, least and greatest, slices, makes. Conditions: none. -/
section
set_option linter.unusedVariables false
set_option linter.unusedSimpArgs false
namespace Go.Eng
open Go.RowKit
section
variable {R : Type} {X : Cells} {S0 : Base} {w0 : World} {c : Cx} {m : Lm} {s : St} {a : Act} {w : World}
variable {o : Oper} {k : V → St → Option R} {r : R} {K : Act → World → Prop} {Q : Exit → Act → World → Prop}

theorem sh_slice {t : TypeId} {e : Sh} (h : oIs (c.sh t) (.slice e) = true) : ∃ te n', c.p.underlying t = some (.slice te) ∧ shOf c.p n' te = some e := shOf_slice (oIs_eq h)
theorem op_len {cl : Call} {x : Operand} {t : TypeId} {ts : List TypeId} (ho : o.op = .call cl) (h1 : cl.callee = .builtin .len) (h2 : cl.args.toList = [x]) (h3 : cl.argTypes.toList = t :: ts)
    (he : (match evLen c s t (s.ev x) with | some n => k (goI n) s | none => none) = some r) (h : R0 X S0 w0 c.n m s a.tmps w)
    (hK : HK X S0 w0 c.n a.tmps k r (fun v w' => K (a.put o.dst v) w')) : WpR c.p a w o K := by
  have hx := ev_rel h x
  have ha : cl.args = #[x] := by apply Array.ext'; simpa using h2
  have ht : cl.argTypes[0]? = some t := by rw [← Array.getElem?_toList, h3]; rfl
  split at he
  · rename_i n hn
    refine wpr_val (v := .int .i64 n) (w' := w) ?_ (hK _ s m _ w he h (mk_int _ _) (fun i hi => by cases hi))
    have goal : ∀ (d : TypeDesc), c.p.underlying t = some d → (Builtin.len_ cl.argTypes o.type #[a.eval x]).run c.p w = .ok (.int .i64 n) w → (execOp a.eval o).run c.p w = .ok (.value (.int .i64 n)) w := by
      intro d hd hr
      simp [execOp, ho, resolve, h1, ha, invoke, builtin, hr]
    unfold evLen at hn
    split at hn
    · rename_i e p hp
      replace hn := cond_some hn
      obtain ⟨hc, hn⟩ := hn
      obtain rfl := Option.some.inj hn
      rw [hp] at hx
      obtain ⟨a', xs, cap, rfl, g2, _⟩ := (rel_imm rfl).1 hx
      injection g2 with g2
      obtain ⟨te, n', hu, _⟩ := sh_slice hc
      exact goal _ hu (by simp [Builtin.len_, ht, g2, run_underlying hu, goInt, P.xs])
    · rename_i id e hp
      split at hn
      · rename_i e0 n0 xs hb
        replace hn := cond_some hn
        obtain ⟨hc, hn⟩ := hn
        obtain rfl := Option.some.inj hn
        rw [hp] at hx
        obtain ⟨a', len, cap, g1, g2⟩ := rel_slf.1 hx
        obtain ⟨a1, c1, q1, _⟩ := h.box _ _ hb
        rw [g1] at q1
        injection q1 with q1 q2 q3 q4
        subst q2
        obtain ⟨te, n', hu, _⟩ := sh_slice hc
        exact goal _ hu (by simp [Builtin.len_, ht, g2, run_underlying hu, goInt])
      · cases hn
    · rename_i id e lo n1 hp
      replace hn := cond_some hn
      obtain ⟨hc, hn⟩ := hn
      obtain rfl := Option.some.inj hn
      rw [hp] at hx
      obtain ⟨a1, len, cap, a', cap', _, _, _, _, g5, _⟩ := (rel_sc (by simp) (by simp) rfl).1 hx
      injection g5 with g5
      obtain ⟨te, n', hu, _⟩ := sh_slice hc
      exact goal _ hu (by simp [Builtin.len_, ht, g5, run_underlying hu, goInt])
    · rename_i e b hp
      replace hn := cond_some hn
      obtain ⟨hc, hn⟩ := hn
      obtain rfl := Option.some.inj hn
      rw [hp] at hx
      obtain ⟨a1, g5, _⟩ := (rel_sc (by simp) (by simp) rfl).1 hx
      injection g5 with g5
      obtain ⟨te, n', hu, _⟩ := sh_slice hc
      exact goal _ hu (by simp [Builtin.len_, ht, g5, run_underlying hu, goInt])
    · rename_i id n1 e p hp
      replace hn := cond_some hn
      obtain ⟨hc, hn⟩ := hn
      obtain rfl := Option.some.inj hn
      have hx := dv_rel hx
      rw [hp] at hx
      obtain ⟨a', xs, cap, rfl, g2, _⟩ := (rel_imm rfl).1 hx
      injection g2 with g2
      obtain ⟨te, n', hu, _⟩ := sh_slice hc
      exact goal _ hu (by simp [Builtin.len_, ht, g2, run_underlying hu, goInt, P.xs])
    · rename_i id e hp
      split at hn
      · rename_i xs hxs
        replace hn := cond_some hn
        obtain ⟨hc, hn⟩ := hn
        obtain rfl := Option.some.inj hn
        rw [hp] at hx
        obtain ⟨b, q1, h1', h2', h3', _⟩ := atXs_ok h hxs
        obtain ⟨b', q', g1, g2, _⟩ := (rel_sc (by simp) (by simp) rfl).1 hx
        rw [h1'] at g1
        injection g1 with e1 e2; subst e1; subst e2
        injection g2 with g2
        have g2 : a.eval x = .slice (some (mkA b 0)) q1.len q1.cap := g2
        obtain ⟨te, n', hu, _⟩ := sh_slice hc
        exact goal _ hu (by simp [Builtin.len_, ht, g2, run_underlying hu, goInt, h2'])
      · cases hn
    · rename_i id k1 v1 hp
      split at hn
      · rename_i k2 v2 p hg hsh
        obtain rfl := Option.some.inj hn
        rw [hp] at hx
        obtain ⟨b, q, hm, hv, _⟩ := (rel_sc (by simp) (by simp) rfl).1 hx
        injection hv with hv
        obtain ⟨b', q', hm', _, hb⟩ := h.box _ _ hg
        rw [hm] at hm'; injection hm' with hm' hm2; subst hm'
        obtain ⟨kt, vt, hu⟩ := shOf_map hsh
        obtain ⟨l, es, clock, rfl, h0, hent, _⟩ := hb
        have hl : es.size = l.length := by rw [← entRel_len hent]; rfl
        have hv : a.eval x = .map (some b) := hv
        exact goal _ hu (by simp [Builtin.len_, ht, hv, run_underlying hu, goInt, run_getObj h0 rfl, P.xs, hl])
      · cases hn
    · rename_i p hp
      split at hn
      · rename_i hsh
        obtain rfl := Option.some.inj hn
        rw [hp] at hx
        obtain ⟨_, hx⟩ := rel_str.1 hx
        have hu := shOf_str hsh
        exact goal _ hu (by simp [Builtin.len_, ht, hx, run_underlying hu, goInt])
      · cases hn
    · rename_i n1 e p hp
      replace hn := cond_some hn
      obtain ⟨hc, hn⟩ := hn
      obtain rfl := Option.some.inj hn
      obtain ⟨te, n', hu, _⟩ := shOf_arr (oIs_eq hc)
      exact goal _ hu (by simp [Builtin.len_, ht, run_underlying hu, goInt])
    · cases hn
  · cases he
theorem mm_ok {mx : Bool} {kr : V → Option R} : ∀ (vs : List V) (v : V) (ys : List Value) (y : Value) {F : Cells}, evMinMax mx kr v vs = some r → Rel1 m w F v y → vs.length = ys.length →
    (∀ j (hj : j < vs.length) (hj' : j < ys.length), Rel1 m w F vs[j] ys[j]) → v.ids = [] → (∀ z ∈ vs, z.ids = []) →
    ∃ y0 z, kr y0 = some r ∧ (List.foldlM (if mx then Builtin.max2 else Builtin.min2) y ys : Sem Value).run c.p w = .ok z w ∧ Rel1 m w F y0 z ∧ y0.ids = []
  | [], v, ys, y, F, h, hv, hl, _, hi, _ => by
    cases ys with
    | nil => exact ⟨v, y, h, by simp, hv, hi⟩
    | cons _ _ => simp at hl
  | v1 :: vs, v, ys, y, F, h, hv, hl, hr, hi, his => by
    cases ys with
    | nil => simp at hl
    | cons y1 ys =>
      simp only [evMinMax] at h
      split at h
      · rename_i x hx
        have hv1 := hr 0 (by simp) (by simp)
        simp only [List.getElem_cons_zero] at hv1
        unfold mmV at hx
        split at hx
        · rename_i ka p kb q
          cases hb : Nat.beq (kindNo ka) (kindNo kb) with
          | false => rw [hb] at hx; cases hx
          | true =>
            rw [hb] at hx
            obtain rfl := Option.some.inj hx
            obtain ⟨_, rfl⟩ := rel_int.1 hv
            obtain ⟨_, rfl⟩ := rel_int.1 hv1
            obtain ⟨y0, z, g1, g2, g3, g4⟩ := mm_ok vs _ ys (.int ka (mmx mx p.toInt q.toInt)) h (mk_int _ _) (by simpa using hl) (fun j hj hj' => by have := hr (j + 1) (by simp; omega) (by simp; omega); simpa using this) rfl (fun z hz => his z (by simp [hz]))
            refine ⟨y0, z, g1, ?_, g3, g4⟩
            rw [List.foldlM_cons]
            cases mx with
            | true => simp only [if_true, Builtin.max2, mmx] at g2 ⊢; simpa using g2
            | false => simp only [Bool.false_eq_true, if_false, Builtin.min2, mmx] at g2 ⊢; simpa using g2
        · cases hx
      · cases h
theorem op_minmax {cl : Call} {mx : Bool} (ho : o.op = .call cl) (h1 : cl.callee = .builtin (if mx then .max else .min))
    (he : (match cl.args.toList.map s.ev with | v :: r => (bif (v :: r).all (fun y => y.ids.isEmpty) then evMinMax mx (fun v => k v s) v r else none) | [] => none) = some r) (h : R0 X S0 w0 c.n m s a.tmps w)
    (hK : HK X S0 w0 c.n a.tmps k r (fun v w' => K (a.put o.dst v) w')) : WpR c.p a w o K := by
  cases hl : cl.args.toList with
  | nil => rw [hl] at he; cases he
  | cons x xs =>
    rw [hl] at he
    simp only [List.map_cons] at he
    replace he := cond_some he
    obtain ⟨hc, he⟩ := he
    simp only [List.all_cons, Bool.and_eq_true, List.isEmpty_iff, List.all_eq_true] at hc
    obtain ⟨y0, z, g1, g2, g3, g4⟩ := mm_ok (c := c) (xs.map s.ev) (s.ev x) (xs.map a.eval) (a.eval x) he (ev_rel h x) (by simp) (fun j hj hj' => by simpa using ev_rel h _) hc.1 (fun z hz => by simpa using hc.2 z hz)
    refine wpr_val (v := z) (w' := w) ?_ (hK _ s m _ w g1 h g3 (fun i hi => by rw [g4] at hi; cases hi))
    have hargs : (cl.args.map a.eval).toList = a.eval x :: xs.map a.eval := by simp [hl]
    cases mx with
    | true => simp only [if_true] at g2 h1; simp [execOp, ho, resolve, h1, invoke, builtin, Builtin.max_, hl, g2]
    | false => simp only [Bool.false_eq_true, if_false] at g2 h1; simp [execOp, ho, resolve, h1, invoke, builtin, Builtin.min_, hl, g2]
end
end Go.Eng
end
/-! Operations without calls: slicing, makes, literals. Conditions: none. -/
section
set_option linter.unusedVariables false
set_option linter.unusedSimpArgs false
namespace Go.Eng
open Go.RowKit
section
variable {R : Type} {X : Cells} {S0 : Base} {w0 : World} {c : Cx} {m : Lm} {s : St} {a : Act} {w : World}
variable {o : Oper} {k : V → St → Option R} {r : R} {K : Act → World → Prop} {Q : Exit → Act → World → Prop}

theorem numOf_ok {v : Option V} {y : Option Value} {d i : Int} {F : Cells} (h : numOf v d = some i) (hr : ∀ y0 z, v = some y0 → y = some z → Rel1 m w F y0 z) (hn : v.isNone = y.isNone) :
    (y = none ∧ i = d) ∨ ∃ kk, y = some (.int kk i) := by
  unfold numOf at h
  split at h
  · cases y with
    | none => exact .inl ⟨rfl, (Option.some.inj h).symm⟩
    | some z => simp at hn
  · rename_i kk p
    obtain rfl := Option.some.inj h
    cases y with
    | none => simp at hn
    | some z =>
      obtain ⟨_, rfl⟩ := rel_int.1 (hr _ z rfl rfl)
      exact .inr ⟨kk, rfl⟩
  · cases h
theorem bnds_ok {P : Program} {n cap : Nat} {lo hi : Option V} {ylo yhi : Option Value} {kr : Nat → Nat → Option R} {F : Cells} (isS : Bool) (h : bnds n lo hi kr = some r) (hcap : n ≤ cap)
    (hr1 : ∀ y0 z, lo = some y0 → ylo = some z → Rel1 m w F y0 z) (hn1 : lo.isNone = ylo.isNone)
    (hr2 : ∀ y0 z, hi = some y0 → yhi = some z → Rel1 m w F y0 z) (hn2 : hi.isNone = yhi.isNone) :
    ∃ l hh, l ≤ hh ∧ hh ≤ n ∧ kr l hh = some r ∧ (Instr.sliceBounds isS n cap ylo yhi none).run P w = .ok (l, hh, cap) w ∧ (hi = none → hh = n) := by
  unfold bnds at h
  split at h
  · rename_i l hh h1 h2
    replace h := cond_some h
    obtain ⟨hc, h⟩ := h
    have hc := of_decide_eq_true hc
    have g1 := numOf_ok h1 hr1 hn1
    have g2 := numOf_ok h2 hr2 hn2
    refine ⟨l.toNat, hh.toNat, by omega, by omega, h, ?_, fun e => by subst e; simp [numOf] at h2; omega⟩
    have c1 : 0 ≤ l ∧ l ≤ (n : Int) := by omega
    have c2 : 0 ≤ hh ∧ hh ≤ (cap : Int) := by omega
    have c3 : 0 ≤ l ∧ l ≤ ((hh.toNat : Nat) : Int) := by omega
    rcases g2 with ⟨rfl, rfl⟩ | ⟨k2, rfl⟩ <;> rcases g1 with ⟨rfl, rfl⟩ | ⟨k1, rfl⟩
    · simp [Instr.sliceBounds]
    · simp [Instr.sliceBounds, Instr.sliceBound, asIntOf, c1]
    · simp only [Instr.sliceBounds, Instr.sliceBound, asIntOf, Sem.run_bind, Sem.run_pure, Result.andThen_ok, if_pos c2]; simp
    · simp only [Instr.sliceBounds, Instr.sliceBound, asIntOf, Sem.run_bind, Sem.run_pure, Result.andThen_ok, if_pos c2, if_pos c3]
  · cases h
theorem isZero_ok {v : Option V} {y : Option Value} {F : Cells} (h : isZero v = true) (hr : ∀ y0 z, v = some y0 → y = some z → Rel1 m w F y0 z) (hn : v.isNone = y.isNone) : ∃ kk, y = some (.int kk 0) := by
  unfold isZero at h
  split at h
  · cases y with
    | none => simp at hn
    | some z =>
      obtain ⟨_, rfl⟩ := rel_int.1 (hr _ z rfl rfl)
      exact ⟨_, rfl⟩
  · cases h
theorem nought_ok {P : Program} {len cap : Nat} {lo hi mx : Option V} {ylo yhi ymx : Option Value} {F : Cells} (h : isNought lo hi mx = true)
    (hr1 : ∀ y0 z, lo = some y0 → ylo = some z → Rel1 m w F y0 z) (hn1 : lo.isNone = ylo.isNone)
    (hr2 : ∀ y0 z, hi = some y0 → yhi = some z → Rel1 m w F y0 z) (hn2 : hi.isNone = yhi.isNone)
    (hr3 : ∀ y0 z, mx = some y0 → ymx = some z → Rel1 m w F y0 z) (hn3 : mx.isNone = ymx.isNone) :
    (Instr.sliceBounds true len cap ylo yhi ymx).run P w = .ok (0, 0, 0) w := by
  unfold isNought at h
  simp only [Bool.and_eq_true] at h
  obtain ⟨⟨h1, h2⟩, h3⟩ := h
  obtain ⟨k2, rfl⟩ := isZero_ok h1 hr2 hn2
  obtain ⟨k3, rfl⟩ := isZero_ok h2 hr3 hn3
  cases lo with
  | none =>
    cases ylo with
    | none => simp [Instr.sliceBounds, Instr.sliceBound, asIntOf]
    | some z => simp at hn1
  | some z =>
    obtain ⟨k1, rfl⟩ := isZero_ok h3 hr1 hn1
    simp [Instr.sliceBounds, Instr.sliceBound, asIntOf]
theorem add0 (A : Option Addr) : A.map (fun z => z.add 0) = A := by cases A <;> simp [Addr.add]
theorem adr_map (a : Option (Nat × Nat)) (n : Nat) : (adr a).map (fun x => x.add n) = adr (a.map fun x => (x.1, x.2 + n)) := by
  cases a with
  | none => rfl
  | some z => simp [adr, mkA_add]
theorem op_slice {t : TypeId} {x : Operand} {lo hi mx : Option Operand} (ho : o.op = .slice t x lo hi mx)
    (he : evSlice c s t (s.ev x) (lo.map s.ev) (hi.map s.ev) (mx.map s.ev) (fun v => k v s) = some r) (h : R0 X S0 w0 c.n m s a.tmps w)
    (hK : HK X S0 w0 c.n a.tmps k r (fun v w' => K (a.put o.dst v) w')) : WpR c.p a w o K := by
  have hx := ev_rel h x
  have hxi := ev_ids h x
  have hop : ∀ (q : Option Operand), (∀ y0 z, q.map s.ev = some y0 → q.map a.eval = some z → Rel1 m w (Fb X m s.h) y0 z) ∧ (q.map s.ev).isNone = (q.map a.eval).isNone := by
    intro q
    cases q with
    | none => exact ⟨fun _ _ e => (by cases e), rfl⟩
    | some y => exact ⟨fun y0 z e1 e2 => (by simp at e1 e2; subst e1; subst e2; exact ev_rel h y), rfl⟩
  obtain ⟨r1, n1⟩ := hop lo
  obtain ⟨r2, n2⟩ := hop hi
  obtain ⟨r3, n3⟩ := hop mx
  have runS : ∀ (te : TypeId) (e : Sh) (ad : Option Addr) (len cap l hh mm : Nat), c.p.underlying t = some (.slice te) → TyIs c.p te e → a.eval x = .slice ad len cap →
      (Instr.sliceBounds true len cap (lo.map a.eval) (hi.map a.eval) (mx.map a.eval)).run c.p w = .ok (l, hh, mm) w →
      (execOp a.eval o).run c.p w = .ok (.value (.slice (if mm = l then ad else ad.map (fun z => z.add (l * e.size))) (hh - l) (mm - l))) w := by
    intro te e ad len cap l hh mm h1 h2 h3 h4
    simp [execOp, ho, Instr.sliceAt, Instr.slice, run_underlying h1, h3, h4, run_sizeOf' h2]
  have imm : ∀ (e : Sh) (p : P), Rel1 m w (Fb X m s.h) (.imm (.slice e) p) (a.eval x) → (bif oIs (c.sh t) (.slice e) then
      (match mx.map s.ev with
      | none => bnds p.xs.length (lo.map s.ev) (hi.map s.ev) (fun l h => k (.imm (.slice e) (.list p.isNil ((p.xs.take h).drop l))) s)
      | some _ => bif isNought (lo.map s.ev) (hi.map s.ev) (mx.map s.ev) then k (.emp e p.isNil) s else none)
    else none) = some r → WpR c.p a w o K := by
    intro e p hx he
    replace he := cond_some he
    obtain ⟨hc, he⟩ := he
    obtain ⟨te, n', hu, hte⟩ := sh_slice hc
    have hty := shOf_is hte
    obtain ⟨a', xs, cap, rfl, h2, h3, h4, h5⟩ := (rel_imm rfl).1 hx
    injection h2 with h2
    split at he
    · rename_i hmx
      obtain ⟨l, hh, g1, g2, g3, g4, g5⟩ := bnds_ok (P := c.p) (cap := cap) true he h3 r1 n1 r2 n2
      have hm' : mx = none := by cases mx <;> simp at hmx ⊢
      have := runS te e _ _ cap l hh cap hu hty h2 (by rw [hm']; exact g4)
      simp only [P.xs] at g2
      refine wpr_val this (hK _ s m _ w g3 h ((rel_imm rfl).2 ?_) (fun i hi => by cases hi))
      refine ⟨if cap = l then a' else a'.map fun z => z.add (l * e.size), (xs.take hh).drop l, cap - l, ?_, ?_, ?_, ?_, fun i hi => ?_⟩
      · simp only [P.isNil, P.xs]
        congr 1
        split
        · rfl
        · cases a' <;> rfl
      · have : ((xs.take hh).drop l).length = hh - l := by simp; omega
        rw [this]
      · simp; omega
      · intro e1
        split at e1
        · have := h4 e1; omega
        · cases a' with
          | none => have := h4 rfl; omega
          | some z => cases e1
      · simp at hi
        have hlt : l + i < xs.length := by omega
        obtain ⟨b, o', cs, rfl, q1, q2⟩ := h5 (l + i) hlt
        refine ⟨b, o' + l * e.size, cs, ?_, ?_, ?_⟩
        · rw [if_neg (by omega)]; simp [mkA_add]
        · have : rd (List.drop l (List.take hh xs)) i = rd xs (l + i) := by
            simp only [rd, List.getD_eq_getElem?_getD, List.getElem?_drop]
            rw [List.getElem?_take_of_lt (by omega)]
          rw [this]; exact q1
        · rw [show o' + l * e.size + i * e.size = o' + (l + i) * e.size from by rw [Nat.add_mul]; omega]; exact q2
    · rename_i mx' hmx
      replace he := cond_some he
      obtain ⟨hz, he⟩ := he
      have g4 := nought_ok (P := c.p) (len := xs.length) (cap := cap) hz r1 n1 r2 n2 r3 n3
      have := runS te e _ _ cap 0 0 0 hu hty h2 g4
      exact wpr_val this (hK _ s m _ w he h ((rel_sc (by simp) (by simp) rfl).2 ⟨a', by simp [add0], rfl⟩) (fun i hi => by cases hi))
  unfold evSlice at he
  split at he
  · rename_i p hp
    split at he
    · rename_i hmx hsh
      rw [hp] at hx
      obtain ⟨_, hx⟩ := rel_str.1 hx
      have hu := shOf_str hsh
      obtain ⟨l, hh, g1, g2, g3, g4, g5⟩ := bnds_ok (P := c.p) (cap := p.toStr.size) false he (Nat.le_refl _) r1 n1 r2 n2
      have hm' : mx = none := by cases mx <;> simp at hmx ⊢
      refine wpr_val (v := .string (p.toStr.extract l hh)) (w' := w) ?_ (hK _ s m _ w g3 h (mk_str _) (fun i hi => by cases hi))
      simp [execOp, ho, Instr.sliceAt, Instr.slice, run_underlying hu, hx, hm', g4]
    · cases he
  · rename_i e p hp
    rw [hp] at hx
    exact imm e p hx he
  · rename_i id n e p hp
    have hx' := dv_rel hx
    rw [hp] at hx hx' hxi
    cases hmh : ((mx.map s.ev).isNone && (hi.map s.ev).isNone) with
    | false => rw [hmh] at he; exact imm e p hx' he
    | true =>
      rw [hmh, cond_true] at he
      rw [Bool.and_eq_true] at hmh
      replace he := cond_some he
      obtain ⟨hc, he⟩ := he
      obtain ⟨te, n', hu, hte⟩ := sh_slice hc
      have hty := shOf_is hte
      obtain ⟨a', xs, cap, rfl, h2, h3, h4, h5⟩ := (rel_imm rfl).1 hx'
      injection h2 with h2
      have hm' : mx = none := by have := hmh.1; cases mx <;> simp at this ⊢
      have hh' : hi = none := by have := hmh.2; cases hi <;> simp at this ⊢
      obtain ⟨l, hh, g1, g2, g3, g4, g5⟩ := bnds_ok (P := c.p) (cap := cap) true he h3 r1 n1 r2 n2
      have := runS te e _ _ cap l hh cap hu hty h2 (by rw [hm']; exact g4)
      simp only [P.xs] at g2
      obtain ⟨bb, q, v, z1, z2, z3, z4⟩ := (rel_sc (by simp) (by simp) rfl).1 hx
      injection z2 with z2; subst z2
      rw [h2] at z4
      obtain ⟨a1, len1, cap1, z5, z6⟩ := z4
      injection z5 with z5 z7 z8; subst z5; subst z7; subst z8
      have hhl := g5 (by rw [hh']; rfl)
      simp only [P.xs] at hhl
      subst hhl
      refine wpr_val this (hK _ s m _ w g3 h ((rel_sc (by simp) (by simp) rfl).2 ⟨bb, q, _, z1, rfl, ?_, ?_⟩) hxi)
      · refine ⟨if cap = l then a' else a'.map fun z => z.add (l * e.size), (xs.take xs.length).drop l, cap - l, ?_, ?_, ?_, ?_, fun i hi => ?_⟩
        · simp only [P.isNil, P.xs]
          congr 1
          split
          · rfl
          · cases a' <;> rfl
        · have : ((xs.take xs.length).drop l).length = xs.length - l := by simp
          rw [this]
        · simp; omega
        · intro e1
          split at e1
          · have := h4 e1; omega
          · cases a' with
            | none => have := h4 rfl; omega
            | some z => cases e1
        · simp at hi
          have hlt : l + i < xs.length := by omega
          obtain ⟨b, o', cs, rfl, q1, q2⟩ := h5 (l + i) hlt
          refine ⟨b, o' + l * e.size, cs, ?_, ?_, ?_⟩
          · rw [if_neg (by omega)]; simp [mkA_add]
          · have : rd (List.drop l (List.take xs.length xs)) i = rd xs (l + i) := by
              simp only [rd, List.getD_eq_getElem?_getD, List.getElem?_drop]
              rw [List.getElem?_take_of_lt (by omega)]
            rw [this]; exact q1
          · rw [show o' + l * e.size + i * e.size = o' + (l + i) * e.size from by rw [Nat.add_mul]; omega]; exact q2
      · refine ⟨_, _, _, rfl, fun hlt => ?_⟩
        obtain ⟨b, o', rfl, hT⟩ := z6 (by omega)
        refine ⟨b, o' + l * e.size, by rw [if_neg (by omega)]; simp [mkA_add], fun j h1 h2 => ?_⟩
        rw [Nat.sub_mul] at h1 h2
        rw [Nat.add_assoc]
        exact hT _ (by omega) (by omega)
  · rename_i id e hp
    split at he
    · rename_i e0 b0 xs hb
      replace he := cond_some he
      obtain ⟨hc, he⟩ := he
      obtain ⟨te, n', hu, hte⟩ := sh_slice hc
      have hty := shOf_is hte
      rw [hp] at hx hxi
      obtain ⟨a', len, cap, h1, h2⟩ := rel_slf.1 hx
      obtain ⟨a1, c1, g1, g2, g3, g4, g5⟩ := h.box _ _ hb
      rw [h1] at g1
      injection g1 with q1 q2 q3 q4
      subst q1; subst q2; subst q3; subst q4
      split at he
      · rename_i hmx
        obtain ⟨l, hh, z1, z2, z3, z4, z5⟩ := bnds_ok (P := c.p) (cap := cap) true he g3 r1 n1 r2 n2
        have hm' : mx = none := by cases mx <;> simp at hmx ⊢
        have := runS te e _ _ cap l hh cap hu hty h2 (by rw [hm']; exact z4)
        rw [adr_map] at this
        refine wpr_val this (hK _ s m _ w z3 h ((rel_sc (by simp) (by simp) rfl).2 ?_) hxi)
        refine ⟨a', xs.length, cap, if cap = l then a' else a'.map fun x => (x.1, x.2 + l * e.size), cap - l, h1, by omega, by omega, by omega, by congr 2; split <;> rfl, ?_, fun hpos => by rw [if_neg (by omega)]⟩
        split
        · rfl
        · cases a' <;> rfl
      · rename_i mx' hmx
        replace he := cond_some he
        obtain ⟨hz, he⟩ := he
        have z4 := nought_ok (P := c.p) (len := xs.length) (cap := cap) hz r1 n1 r2 n2 r3 n3
        have := runS te e _ _ cap 0 0 0 hu hty h2 z4
        exact wpr_val this (hK _ s m _ w he h ((rel_sc (by simp) (by simp) rfl).2 ⟨adr a', by simp [add0], by rw [adr_none]; exact g2⟩) (fun i hi => by cases hi))
    · cases he
  · rename_i id e l0 n0 hp
    replace he := cond_some he
    obtain ⟨hc, he⟩ := he
    obtain ⟨te, n', hu, hte⟩ := sh_slice hc
    have hty := shOf_is hte
    rw [hp] at hx hxi
    obtain ⟨a1, len, cap, a', cap', h1, h2, h3, h4, h5, h6, h7⟩ := (rel_sc (by simp) (by simp) rfl).1 hx
    injection h5 with h5
    split at he
    · rename_i hmx
      obtain ⟨l, hh, z1, z2, z3, z4, z5⟩ := bnds_ok (P := c.p) (cap := cap') true he h3 r1 n1 r2 n2
      have hm' : mx = none := by cases mx <;> simp at hmx ⊢
      have := runS te e _ _ cap' l hh cap' hu hty h5 (by rw [hm']; exact z4)
      rw [adr_map] at this
      refine wpr_val this (hK _ s m _ w z3 h ((rel_sc (by simp) (by simp) rfl).2 ?_) hxi)
      refine ⟨a1, len, cap, if cap' = l then a' else a'.map fun x => (x.1, x.2 + l * e.size), cap' - l, h1, by omega, by omega, by omega, by congr 2; split <;> rfl, ?_, fun hpos => ?_⟩
      · split
        · exact h6
        · rw [← h6]; cases a' <;> rfl
      · rw [if_neg (by omega), h7 (by omega)]
        cases a1 with
        | none => rfl
        | some z => simp [Nat.add_mul]; omega
    · cases he
  · cases he
end
end Go.Eng
end
/-! Operations on texts' iterators and maps. Conditions: none. -/
section
set_option linter.unusedVariables false
set_option linter.unusedSimpArgs false
namespace Go.Eng
open Go.RowKit
section
variable {R : Type} {X : Cells} {S0 : Base} {w0 : World} {c : Cx} {m : Lm} {s : St} {a : Act} {w : World} {o : Oper} {r : R} {k : V → St → Option R} {K : Act → World → Prop} {Q : Exit → Act → World → Prop}
theorem relS_imm {F : Cells} {sh : Sh} {p : P} {x : Value} (h : Rel1 m w F (.imm sh p) x) : RelS m w F (.imm sh p) x := (rel1_def (by simp)).1 h
theorem rel_one {F : Cells} {sh : Sh} {p : P} {x : Value} : Rel1 m w F (.imm sh p) x ↔ OneRel w F sh p x := by
  unfold OneRel
  by_cases ha : sh.isAgg = true
  · rw [if_pos ha, rel_agg (v := .imm sh p) (by simp) (by simp) ha]; exact Iff.rfl
  · rw [if_neg ha, rel_imm (by simpa using ha)]
theorem rel_blk {F : Cells} {id : Nat} {kk : Bk} {x : Value} : Rel1 m w F (.blk id kk) x ↔ ∃ b q, m id = .blk b q ∧ x = kk.val b q ∧ kk.okL q := by
  rw [rel_sc (by simp) (by simp) rfl]
  constructor
  · rintro ⟨b, q, h1, h2, h3⟩; injection h2 with h2; exact ⟨b, q, h1, h2, h3⟩
  · rintro ⟨b, q, h1, h2, h3⟩; exact ⟨b, q, h1, by rw [h2], h3⟩
theorem heap_alloc {w : World} {ob : Obj} : (w.alloc ob).heap.size = w.heap.size + 1 := by
  show (w.heap.push ob).size = _
  simp
theorem heap_new {w : World} {ob : Obj} : (w.alloc ob).heap[w.heap.size]? = some ob := by
  show (w.heap.push ob)[w.heap.size]? = some ob
  simp
theorem add_blk (h : R0 X S0 w0 c.n m s a.tmps w) {d : Nat} {kk : Bk} {p : P} {ob : Obj} {q : BkL} (hid : Free d s.h) (hT : ∀ n c o, ¬ q.T n c o) (hq : kk.okL q) (hb : Keep w (Fb X m s.h) (w.alloc ob) (Fb X (updL m d (.blk w.heap.size q)) ((d, .blk kk p) :: s.h)) → BkRel (w.alloc ob) (Fb X (updL m d (.blk w.heap.size q)) ((d, .blk kk p) :: s.h)) kk p w.heap.size q) :
    R0 X S0 w0 c.n (updL m d (.blk w.heap.size q)) { s with h := (d, .blk kk p) :: s.h } a.tmps (w.alloc ob) ∧
      Rel1 (updL m d (.blk w.heap.size q)) (w.alloc ob) (Fb X (updL m d (.blk w.heap.size q)) ((d, .blk kk p) :: s.h)) (.blk d kk) (kk.val w.heap.size q) := by
  exact ⟨h.add hid (alloc_below _) (Nat.le_refl _) (fun b o hh => by
      rcases hh with rfl | ⟨n, hn⟩
      · exact Nat.le_refl _
      · exact absurd hn (hT _ _ _)) (fun i hi => by cases hi) (fun hk => ⟨w.heap.size, q, updL_same _ _ _, by rw [heap_alloc]; omega, hb hk⟩), rel_blk.2 ⟨_, _, updL_same _ _ _, rfl, hq⟩⟩
theorem set_blk (h : R0 X S0 w0 c.n m s a.tmps w) {id b : Nat} {q : BkL} {k0 k1 : Bk} {p0 p : P} {o0 ob : Obj} (hg : getBox id s.h = some (.blk k0 p0)) (hzi : memB id s.z = false) (hm : m id = .blk b q) (h0 : w.heap[b]? = some o0) (n0 : notCells o0 = true) (n1 : notCells ob = true)
    (hb : ∀ {w'}, Keep w (Fb X m s.h) w' (Fb X m s.h) → w'.heap[b]? = some ob → (∀ c o, c < w.heap.size → c ≠ b → w'.cell? (mkA c o) = w.cell? (mkA c o) ∧ w'.frozen? (mkA c o) = w.frozen? (mkA c o)) → BkRel w' (Fb X m s.h) k1 p b q) :
    R0 X S0 w0 c.n m { s with h := setBox id (.blk k1 p) s.h } a.tmps (putO w b ob) := by
  have hlt : b < w.heap.size := (Array.getElem?_eq_some_iff.1 h0).1
  refine h.setBox hg hzi ?_ (fun i hi => by cases hi) (fun hk => ⟨b, q, hm, by simpa [putO] using hlt, hb hk (by rw [putO_heap, if_pos ⟨rfl, hlt⟩]) (fun c o _ hc => cell_same (by rw [putO_heap, if_neg (fun e => hc e.1)]) o)⟩)
  rw [hm]
  exact (putO_fr h0 n0 n1).mono fun b' i _ hh => .inl hh
theorem op_range {t : TypeId} {x : Operand} {d : Nat} (ho : o.op = .range t x)
    (he : (match c.p.underlying t, s.ev x with
    | some .string, .imm .str p => (match s.add d (.blk .it (.pair (.str p.toStr) (.int .i64 0))) with | some s' => k (.blk d .it) s' | none => none)
    | _, _ => none) = some r) (h : R0 X S0 w0 c.n m s a.tmps w) (hK : HK X S0 w0 c.n a.tmps k r (fun v w' => K (a.put o.dst v) w')) : o.wp c.p a w K Q := by
  have hx := ev_rel h x
  split at he
  · rename_i p hu hp
    rw [hp, rel_str] at hx
    split at he
    · rename_i s' hs'
      obtain ⟨hid, rfl⟩ := add_some hs'
      obtain ⟨g1, g2⟩ := add_blk (kk := .it) (p := .pair (.str p.toStr) (.int .i64 0)) (ob := .stringIter p.toStr 0) (q := {}) h hid (fun _ _ _ hh => hh) trivial (fun _ => ⟨p.toStr, 0, heap_new, rfl, rfl⟩)
      refine wp_val (v := .pointer (some ⟨w.heap.size, 0, none⟩)) (w' := w.alloc (.stringIter p.toStr 0)) ?_ (hK _ _ _ _ _ he g1 g2 (fun i hi => by simp [V.ids] at hi; subst hi; simp [getBox_cons]))
      simp [execOp, ho, Instr.range, run_underlying hu, hx.2, run_newObj]
    · cases he
  · cases he
theorem op_next {x : Operand} {isS : Bool} (ho : o.op = .next x isS)
    (he : (match (generalizing := false) isS, s.ev x with
    | true, .blk id .it => (match getBox id s.h with
      | some (.blk .it p) => bif memB id s.z then none else
        bif decide (p.snd.toInt < p.fst.toStr.size) then k (.tup (.pair (.imm .bool (.bool true)) (.pair (.imm (.int .i64) (.int .i64 p.snd.toInt)) (.pair (.imm (.int .i32) (.int .i32 (runeAt p.fst.toStr p.snd.toInt))) .unit))))
          { s with h := setBox id (.blk .it (.pair (.str p.fst.toStr) (.int .i64 (p.snd.toInt + runeLen p.fst.toStr p.snd.toInt)))) s.h }
        else k (.tup (.pair (.imm .bool (.bool false)) .unit)) s
      | _ => none)
    | _, _ => none) = some r) (h : R0 X S0 w0 c.n m s a.tmps w) (hK : HK X S0 w0 c.n a.tmps k r (fun v w' => K (a.put o.dst v) w')) : o.wp c.p a w K Q := by
  have hx := ev_rel h x
  split at he
  · rename_i id hp
    rw [hp, rel_blk] at hx
    obtain ⟨b, q, hm, hv, _⟩ := hx
    split at he
    · rename_i p hg
      obtain ⟨b', q', hm', _, hb⟩ := h.box id _ hg
      rw [hm] at hm'; injection hm' with hm' hm2; subst hm'; subst hm2
      obtain ⟨st, pos, h0, rfl, hq0⟩ := hb
      cases hzi : memB id s.z with
      | true => rw [hzi] at he; cases he
      | false =>
      rw [hzi, cond_false] at he
      simp only [P.fst, P.snd, P.toStr, P.toInt] at he
      have hv : a.eval x = .pointer (some ⟨b, 0, none⟩) := hv
      by_cases hpos : pos < st.size
      · simp only [show ((pos : Int) < (st.size : Int)) from by omega, decide_true, cond_true] at he
        have hr : runeAt st pos = ((Utf8.decode st pos).1 : Int) := by simp [runeAt]
        have hl : runeLen st pos = ((Utf8.decode st pos).2 : Int) := by simp [runeLen]
        have hR := set_blk (k1 := .it) (p := .pair (.str st) (.int .i64 ((pos : Int) + runeLen st pos))) (ob := .stringIter st (pos + (Utf8.decode st pos).2)) h hg hzi hm h0 rfl rfl (fun hk hh _ => ⟨st, pos + (Utf8.decode st pos).2, hh, by rw [hl]; simp, hq0⟩)
        refine wp_val (v := .tuple #[.bool true, goInt pos, .int .i32 (Utf8.decode st pos).1]) (w' := putO w b (.stringIter st (pos + (Utf8.decode st pos).2))) ?_ (hK _ _ m _ _ he hR ⟨_, rfl, ?_⟩ (fun i hi => by simp [V.ids, V.unit] at hi))
        · simp [execOp, ho, Instr.next, hv, run_getObj h0 rfl, hpos, run_setObj h0 rfl]
        · refine ⟨relS_imm (mk_bool true), relS_imm (mk_int _ _), relS_imm ?_, trivial⟩
          rw [hr]; exact mk_int _ _
      · simp only [show ¬ ((pos : Int) < (st.size : Int)) from by omega, decide_false, cond_false] at he
        refine wp_val (v := .tuple #[.bool false]) (w' := w) ?_ (hK _ s m _ w he h ⟨_, rfl, ⟨relS_imm (mk_bool false), trivial⟩⟩ (fun i hi => by simp [V.ids, V.unit] at hi))
        simp [execOp, ho, Instr.next, hv, run_getObj h0 rfl, hpos]
    · cases he
  · cases he
/-! ### maps -/
theorem baEq {a b : ByteArray} : (a == b) = true ↔ a = b := by
  cases a with | mk x => cases b with | mk y =>
  have : ((ByteArray.mk x) == (ByteArray.mk y)) = (x == y) := rfl
  rw [this]; simp
/-- Keys that are told apart at once. -/
def KeyD (kd : TypeDesc) (ks : Sh) : Prop := (kd = .string ∧ ks = .str) ∨ ∃ k, kd = .int k ∧ ks = .int k
theorem keyD {kt : TypeId} {ks : Sh} (h1 : keyTy c.p kt = true) (h2 : c.sh kt = some ks) : ∃ kd, c.p.underlying kt = some kd ∧ KeyD kd ks := by
  have h2 : shOf c.p (11 + 1) kt = some ks := h2
  generalize 11 = n at h2
  unfold keyTy at h1
  simp only [shOf] at h2
  split at h1
  · rename_i hu
    rw [hu] at h2
    simp only at h2
    split at h2
    · obtain rfl := Option.some.inj h2; exact ⟨_, hu, .inl ⟨rfl, rfl⟩⟩
    · cases h2
  · rename_i k hu
    rw [hu] at h2
    simp only at h2
    split at h2
    · obtain rfl := Option.some.inj h2; exact ⟨_, hu, .inr ⟨k, rfl, rfl⟩⟩
    · cases h2
  · cases h1
theorem run_checkKey {P : Program} {kd : TypeDesc} {ks : Sh} (hd : KeyD kd ks) {kt : TypeId} (hu : P.underlying kt = some kd) (e : Bool) (n : Nat) (v : Value) : (Instr.checkKey e (n + 1) kt v).run P w = .ok () w := by
  rcases hd with ⟨rfl, _⟩ | ⟨k, rfl, _⟩ <;> simp [Instr.checkKey, run_underlying hu]
theorem same_key {F : Cells} {kd : TypeDesc} {ks : Sh} (hd : KeyD kd ks) {p q : P} {x y : Value} (h1 : OneRel w F ks p x) (h2 : OneRel w F ks q y) : Instr.sameNow kd x y = some (eqP ks p q) ∧ (eqP ks p q = true → y = x) := by
  rcases hd with ⟨rfl, rfl⟩ | ⟨k, rfl, rfl⟩
  · obtain ⟨a, rfl, e1⟩ : ∃ a, p = .str a ∧ [x] = [Value.string a] := h1
    obtain ⟨b, rfl, e2⟩ : ∃ a, q = .str a ∧ [y] = [Value.string a] := h2
    injection e1 with e1; injection e2 with e2; subst e1; subst e2
    exact ⟨rfl, fun h => by have : a = b := baEq.1 h
                            rw [this]⟩
  · obtain ⟨a, rfl, e1⟩ : ∃ a, p = .int k a ∧ [x] = [Value.int k a] := h1
    obtain ⟨b, rfl, e2⟩ : ∃ a, q = .int k a ∧ [y] = [Value.int k a] := h2
    injection e1 with e1; injection e2 with e2; subst e1; subst e2
    exact ⟨by simp [Instr.sameNow, eqP, P.toInt], fun h => by have : a = b := eq_of_beq h
                                                              rw [this]⟩
theorem find_ok {F : Cells} {kd : TypeDesc} {ks vs : Sh} (hd : KeyD kd ks) {kp : P} {kx : Value} (hk : OneRel w F ks kp kx) (dv : P) : ∀ (l : List P) (es : List MapEntry) (i : Nat), EntRel w F ks vs l es →
    (hasP ks kp l = false ∧ Instr.findNow kd kx es i = some none ∧ lookP ks kp dv l = dv ∧ ∀ q, updP ks kp q l = l ++ [.pair kp q]) ∨
    ∃ (j : Nat) (e : MapEntry), hasP ks kp l = true ∧ Instr.findNow kd kx es i = some (some (i + j, e.val)) ∧ es[j]? = some e ∧ e.key = kx ∧ OneRel w F vs (lookP ks kp dv l) e.val ∧
      ∀ q x, OneRel w F vs q x → EntRel w F ks vs (updP ks kp q l) (es.modify j fun e => { e with key := kx, val := x })
  | [], [], i, _ => .inl ⟨rfl, rfl, rfl, fun q => rfl⟩
  | p :: l, e :: es, i, hh => by
    obtain ⟨⟨kp', vp, rfl, g1, g2⟩, g3⟩ := hh
    obtain ⟨s1, s2⟩ := same_key hd hk g1
    cases hb : eqP ks kp kp' with
    | true =>
      right
      refine ⟨0, e, by simp [hasP, P.fst, hb], by simp [Instr.findNow, s1, hb], rfl, s2 hb, by simpa [lookP, P.fst, P.snd, hb] using g2, fun q x hq => ?_⟩
      simp only [updP, P.fst, hb, cond_true, List.modify_zero_cons]
      exact ⟨⟨kp', q, rfl, by rw [← s2 hb]; exact g1, hq⟩, g3⟩
    | false =>
      rcases find_ok hd hk dv l es (i + 1) g3 with ⟨q1, q2, q3, q4⟩ | ⟨j, e', q1, q2, q3, q4, q5, q6⟩
      · left
        refine ⟨by simp [hasP, P.fst, hb, q1], by simp [Instr.findNow, s1, hb, q2], by simp [lookP, P.fst, hb, q3], fun q => by simp [updP, P.fst, hb, q4]⟩
      · right
        refine ⟨j + 1, e', by simp [hasP, P.fst, hb, q1], by simp [Instr.findNow, s1, hb, q2]; omega, by simpa using q3, q4, by simpa [lookP, P.fst, hb] using q5, fun q x hq => ?_⟩
        simp only [updP, P.fst, hb, cond_false, List.modify_succ_cons]
        exact ⟨⟨kp', vp, rfl, g1, g2⟩, q6 q x hq⟩
theorem idx_find {F : Cells} {kd : TypeDesc} {ks vs : Sh} (hd : KeyD kd ks) {kp : P} {kx : Value} (hk : OneRel w F ks kp kx) {z : Value} {l : List P} {es : List MapEntry} {j : Nat} : ∀ (i : Nat), EntRel w F ks vs l es →
    Instr.findNow kd kx es i = some (some (i + j, z)) → idxP ks kp l = j := by
  induction l generalizing es j with
  | nil => intro i hh hf; cases es with | nil => simp [Instr.findNow] at hf | cons _ _ => exact hh.elim
  | cons p l ih =>
    intro i hh hf
    cases es with
    | nil => exact hh.elim
    | cons e es =>
      obtain ⟨⟨kp', vp, rfl, g1, g2⟩, g3⟩ := hh
      obtain ⟨s1, s2⟩ := same_key hd hk g1
      simp only [Instr.findNow, s1] at hf
      cases hb : eqP ks kp kp' with
      | true =>
        rw [hb] at hf
        simp at hf
        simp [idxP, P.fst, hb]; omega
      | false =>
        rw [hb] at hf
        simp only [idxP, P.fst, hb, cond_false]
        cases j with
        | zero =>
          exfalso
          rcases find_ok hd hk .unit l es (i + 1) g3 with ⟨_, q2, _⟩ | ⟨j', e', _, q2, _⟩
          · simp [q2] at hf
          · simp [q2] at hf; omega
        | succ j =>
          have := ih (j := j) (i + 1) g3 (by have hf : Instr.findNow kd kx es (i + 1) = some (some (i + (j + 1), z)) := by simpa using hf
                                             rw [hf]; congr 3; omega)
          omega
theorem idx_none {F : Cells} {kd : TypeDesc} {ks vs : Sh} (hd : KeyD kd ks) {kp : P} {kx : Value} (hk : OneRel w F ks kp kx) {l : List P} {es : List MapEntry} : ∀ (i : Nat), EntRel w F ks vs l es →
    Instr.findNow kd kx es i = some none → idxP ks kp l = l.length := by
  induction l generalizing es with
  | nil => intro i hh hf; rfl
  | cons p l ih =>
    intro i hh hf
    cases es with
    | nil => exact hh.elim
    | cons e es =>
      obtain ⟨⟨kp', vp, rfl, g1, g2⟩, g3⟩ := hh
      obtain ⟨s1, s2⟩ := same_key hd hk g1
      simp only [Instr.findNow, s1] at hf
      cases hb : eqP ks kp kp' with
      | true => rw [hb] at hf; simp at hf
      | false =>
        rw [hb] at hf
        simp only [idxP, P.fst, hb, cond_false, List.length_cons]
        rw [ih (i + 1) g3 (by simpa using hf)]
theorem run_findKey {P : Program} {kd : TypeDesc} {kt : TypeId} (hu : P.underlying kt = some kd) {kx : Value} {es : List MapEntry} {z : Option (Nat × Value)} (h : Instr.findNow kd kx es 0 = some z) : (Instr.findKey kt kx es).run P w = .ok z w := by
  simp [Instr.findKey, run_underlying hu, h]
theorem op_makeMap {t : TypeId} {rv : Option Operand} {d : Nat} (ho : o.op = .makeMap t rv)
    (he : (match (generalizing := false) rv with
    | some _ => none
    | none => match c.p.underlying t with
      | some (.map kt vt) => (match c.sh kt, c.sh vt with
        | some ks, some vs => (match s.add d (.blk (.mp ks vs) (.list false [])) with | some s' => k (.blk d (.mp ks vs)) s' | none => none)
        | _, _ => none)
      | _ => none) = some r) (h : R0 X S0 w0 c.n m s a.tmps w) (hK : HK X S0 w0 c.n a.tmps k r (fun v w' => K (a.put o.dst v) w')) : o.wp c.p a w K Q := by
  cases rv with
  | some _ => cases he
  | none =>
    simp only at he
    split at he
    · split at he
      · rename_i ks vs _ _
        split at he
        · rename_i s' hs'
          obtain ⟨hid, rfl⟩ := add_some hs'
          obtain ⟨g1, g2⟩ := add_blk (kk := .mp ks vs) (p := .list false []) (ob := .map #[] 0) (q := {}) h hid (fun _ _ _ hh => hh) trivial (fun _ => ⟨[], #[], 0, rfl, heap_new, trivial, rfl⟩)
          refine wp_val (v := .map (some w.heap.size)) (w' := w.alloc (.map #[] 0)) ?_ (hK _ _ _ _ _ he g1 g2 (fun i hi => by simp [V.ids] at hi; subst hi; simp [getBox_cons]))
          simp [execOp, ho, Instr.makeMap, run_newObj]
        · cases he
      · cases he
    · cases he
theorem op_lookup {t : TypeId} {x i : Operand} {ok : Bool} (ho : o.op = .lookup t x i ok)
    (he : (match c.p.underlying t with
    | some (.map kt vt) => (match c.sh kt, c.sh vt, s.ev i with
      | some ks, some vs, .imm ks' kp => bif keyTy c.p kt && ks.beq ks' then
        (match s.ev x with
        | .imm .map _ => bif ok then k (.tup (.pair (.imm vs vs.zero) (.pair (.imm .bool (.bool false)) .unit))) s else k (.imm vs vs.zero) s
        | .blk id (.mp k1 v1) => (match getBox id s.h with
          | some (.blk (.mp k2 v2) p) => bif ks.beq k1 && (vs.beq v1 && (ks.beq k2 && vs.beq v2)) then
            (bif ok then k (.tup (.pair (.imm vs (lookP ks kp vs.zero p.xs)) (.pair (.imm .bool (.bool (hasP ks kp p.xs))) .unit))) s else k (.imm vs (lookP ks kp vs.zero p.xs)) s) else none
          | _ => none)
        | .blk id (.mt k1 v1) => (match getBox id s.h with
          | some (.blk kk p) => bif ks.beq k1 && (vs.beq v1 && kk.isM ks vs) then
            (let v := kk.tvM id (idxP ks kp p.xs) vs (lookP ks kp vs.zero p.xs)
             bif ok then k (.tup (.pair v (.pair (.imm .bool (.bool (hasP ks kp p.xs))) .unit))) s else k v s) else none
          | _ => none)
        | _ => none) else none
      | _, _, _ => none)
    | _ => none) = some r) (h : R0 X S0 w0 c.n m s a.tmps w) (hK : HK X S0 w0 c.n a.tmps k r (fun v w' => K (a.put o.dst v) w')) : WpR c.p a w o K := by
  have hx := ev_rel h x
  have hi := ev_rel h i
  split at he
  case h_2 => cases he
  rename_i kt vt hu
  split at he
  case h_2 => cases he
  rename_i ks vs ks' kp hks hvs hkp
  replace he := cond_some he
  obtain ⟨hc, he⟩ := he
  rw [Bool.and_eq_true] at hc
  obtain ⟨hkt, hbe⟩ := hc
  have := Sh.beq_eq hbe; subst this
  obtain ⟨kd, hud, hd⟩ := keyD hkt hks
  rw [hkp, rel_one] at hi
  have hvt := sh_is hvs
  obtain ⟨z, z1, z2, z3⟩ := run_zero hvt w
  have hz : ∀ F, OneRel w F vs vs.zero z := fun F => by
    unfold OneRel
    have := z3 w F
    cases ha : vs.isAgg with
    | true =>
      rw [if_pos rfl]
      rw [ha] at z2
      cases z <;> simp [isAggV] at z2
      exact ⟨_, rfl, by simpa [Value.cells] using this⟩
    | false =>
      rw [if_neg (by simp)]
      rw [ha] at z2
      cases z <;> first | (simp [isAggV] at z2; done) | simpa [Value.cells] using this
  have fin0 : ∀ (vv : V) (b : Bool) (v : Value), RelS m w (Fb X m s.h) vv v → (∀ y, vv ≠ .tup y) → (∀ i ∈ vv.ids, getBox i s.h ≠ none) → (Instr.lookup t (a.eval x) (a.eval i) ok).run c.p w = .ok (if ok then .tuple #[v, .bool b] else v) w →
      (bif ok then k (.tup (.pair vv (.pair (.imm .bool (.bool b)) .unit))) s else k vv s) = some r → WpR c.p a w o K := by
    intro vv b v hv hnt hids hrun hk
    cases ok with
    | true =>
      rw [cond_true] at hk
      rw [if_pos rfl] at hrun
      exact wpr_val (v := .tuple #[v, .bool b]) (w' := w) (by simp [execOp, ho, hrun]) (hK _ s m _ w hk h ⟨_, rfl, ⟨hv, relS_imm (mk_bool b), trivial⟩⟩ (fun i hi => hids i (by simpa [V.ids, V.unit] using hi)))
    | false =>
      rw [cond_false] at hk
      rw [if_neg (by simp)] at hrun
      exact wpr_val (v := v) (w' := w) (by simp [execOp, ho, hrun]) (hK _ s m _ w hk h ((rel1_def hnt).2 hv) hids)
  have fin : ∀ (p : P) (b : Bool) (v : Value), OneRel w (Fb X m s.h) vs p v → (Instr.lookup t (a.eval x) (a.eval i) ok).run c.p w = .ok (if ok then .tuple #[v, .bool b] else v) w →
      (bif ok then k (.tup (.pair (.imm vs p) (.pair (.imm .bool (.bool b)) .unit))) s else k (.imm vs p) s) = some r → WpR c.p a w o K :=
    fun p b v hv hrun hk => fin0 _ b v (relS_imm (rel_one.2 hv)) (by simp) (fun i hi => by cases hi) hrun hk
  split at he
  · rename_i p0 hp
    rw [hp, rel_imm rfl] at hx
    obtain ⟨_, hx⟩ := hx
    injection hx with hx
    refine fin vs.zero false z (hz _) ?_ he
    have h1 := run_checkKey (w := w) hd hud true 9999 (a.eval i)
    have h2 : (Instr.findKey kt (a.eval i) []).run c.p w = .ok none w := run_findKey hud rfl
    simp only [Instr.lookup, Sem.run_bind, run_underlying hu, Result.andThen_ok, hx, Sem.run_pure, Array.isEmpty_empty, h1, h2, z1]
  · rename_i id k1 v1 hp
    split at he
    · rename_i k2 v2 p hg
      replace he := cond_some he
      obtain ⟨hc, he⟩ := he
      simp only [Bool.and_eq_true] at hc
      obtain ⟨c1, c2, c3, c4⟩ := hc
      have e1 := Sh.beq_eq c1; have e2 := Sh.beq_eq c2; have e3 := Sh.beq_eq c3; have e4 := Sh.beq_eq c4
      subst e1; subst e2; subst e3; subst e4
      rw [hp, rel_blk] at hx
      obtain ⟨b, q, hm, hv, _⟩ := hx
      obtain ⟨b', q', hm', _, hb⟩ := h.box id _ hg
      rw [hm] at hm'; injection hm' with hm' hm2; subst hm'; subst hm2
      obtain ⟨l, es, clock, rfl, h0, hent, _⟩ := hb
      have hv : a.eval x = .map (some b) := hv
      have h1 := run_checkKey (w := w) hd hud es.isEmpty 9999 (a.eval i)
      rcases find_ok hd hi vs.zero l es.toList 0 hent with ⟨q1, q2, q3, _⟩ | ⟨j, e, q1, q2, q3, q4, q5, _⟩
      · have h2 := run_findKey (w := w) hud q2
        refine fin (lookP ks kp vs.zero l) (hasP ks kp l) z (by rw [q3]; exact hz _) ?_ he
        rw [q1]
        simp only [Instr.lookup, Sem.run_bind, run_underlying hu, Result.andThen_ok, hv, run_getObj h0 rfl, Sem.run_pure, h1, h2, z1]
      · have h2 := run_findKey (w := w) hud q2
        refine fin (lookP ks kp vs.zero l) (hasP ks kp l) e.val q5 ?_ he
        rw [q1]
        simp only [Instr.lookup, Sem.run_bind, run_underlying hu, Result.andThen_ok, hv, run_getObj h0 rfl, Sem.run_pure, h1, h2]
    · cases he
  · rename_i id k1 v1 hp
    split at he
    · rename_i kk p hg
      replace he := cond_some he
      obtain ⟨hc, he⟩ := he
      simp only [Bool.and_eq_true] at hc
      obtain ⟨c1, c2, c3⟩ := hc
      rw [hp, rel_blk] at hx
      obtain ⟨b, q, hm, hv, _⟩ := hx
      obtain ⟨b', q', hm', _, hb⟩ := h.box id _ hg
      rw [hm] at hm'; injection hm' with hm' hm2; subst hm'; subst hm2
      obtain ⟨hh, hmt, hkk⟩ : ∃ hh, MtRel w (Fb X m s.h) ks vs hh p b q ∧ (∀ a b, kk = .mt a b → hh = none) := by
        cases kk <;> simp only [Bk.isM, Bool.and_eq_true] at c3 <;> first | (cases c3; done) | skip
        · obtain ⟨e1, e2⟩ := c3
          have e1 := Sh.beq_eq e1; have e2 := Sh.beq_eq e2; subst e1; subst e2
          exact ⟨none, hb, fun _ _ _ => rfl⟩
        · obtain ⟨e1, e2⟩ := c3
          have e1 := Sh.beq_eq e1; have e2 := Sh.beq_eq e2; subst e1; subst e2
          exact ⟨_, hb, fun _ _ e => by cases e⟩
      obtain ⟨l, es, clock, rfl, h0, hent, hT, tt, rfl, hte⟩ := hmt
      have hv : a.eval x = .map (some b) := hv
      have h1 := run_checkKey (w := w) hd hud es.isEmpty 9999 (a.eval i)
      have hne : getBox id s.h ≠ none := by rw [hg]; simp
      have tv : ∀ (v : Value), OneRel w (Fb X m s.h) (.slice tt) (lookP ks kp (Sh.zero (.slice tt)) l) v → (∀ a b, kk = .mt a b → TOk tt.size (q.T (idxP ks kp l)) v) →
          RelS m w (Fb X m s.h) (kk.tvM id (idxP ks kp (P.list false l).xs) (.slice tt) (lookP ks kp (Sh.zero (.slice tt)) (P.list false l).xs)) v ∧ (∀ y, kk.tvM id (idxP ks kp (P.list false l).xs) (.slice tt) (lookP ks kp (Sh.zero (.slice tt)) (P.list false l).xs) ≠ .tup y) ∧
            ∀ i ∈ (kk.tvM id (idxP ks kp (P.list false l).xs) (.slice tt) (lookP ks kp (Sh.zero (.slice tt)) (P.list false l).xs)).ids, getBox i s.h ≠ none := by
        intro v hv ht
        have hv' := (rel_one (m := m)).2 hv
        unfold Bk.tvM
        split
        · rename_i a1 b1 t1 e1
          injection e1 with e1; subst e1
          refine ⟨?_, by simp, fun i hi => by simp [V.ids] at hi; subst hi; exact hne⟩
          refine (rel1_def (by simp)).1 ((rel_sc (by simp) (by simp) rfl).2 ⟨b, q, v, hm, rfl, ?_, ht _ _ rfl⟩)
          exact (rel_imm rfl).1 hv'
        · exact ⟨relS_imm hv', by simp, fun i hi => by cases hi⟩
      rcases find_ok hd hi (Sh.zero (.slice tt)) l es.toList 0 hent with ⟨q1, q2, q3, _⟩ | ⟨j, e, q1, q2, q3, q4, q5, _⟩
      · have h2 := run_findKey (w := w) hud q2
        have hzz : z = .slice none 0 0 := by
          obtain ⟨a', xs, cap, e1, e2, e3, e4, _⟩ : Rep w (fun _ _ => False) (.slice tt) (Sh.zero (.slice tt)) [z] := by have := hz (fun _ _ => False); exact this
          injection e1 with e5 e6
          subst e6
          have : a' = none := by cases a' with | none => rfl | some _ => simp at e5
          subst this
          have := e4 rfl; subst this
          injection e2
        obtain ⟨g1, g2, g3⟩ := tv z (by rw [q3]; exact hz _) (fun _ _ _ => ⟨none, 0, 0, hzz, fun hlt => by omega⟩)
        refine fin0 _ (hasP ks kp l) z g1 g2 g3 ?_ he
        rw [q1]
        simp only [Instr.lookup, Sem.run_bind, run_underlying hu, Result.andThen_ok, hv, run_getObj h0 rfl, Sem.run_pure, h1, h2, z1]
      · have h2 := run_findKey (w := w) hud q2
        obtain ⟨g1, g2, g3⟩ := tv e.val q5 (fun a1 b1 e1 => by
          have := hte j e q3 (by rw [hkk _ _ e1]; simp)
          rw [idx_find hd hi 0 hent q2]; simpa using this)
        refine fin0 _ (hasP ks kp l) e.val g1 g2 g3 ?_ he
        rw [q1]
        simp only [Instr.lookup, Sem.run_bind, run_underlying hu, Result.andThen_ok, hv, run_getObj h0 rfl, Sem.run_pure, h1, h2]
    · cases he
  · cases he
theorem entRel_snoc {F : Cells} {ks vs : Sh} {kp vp : P} {e : MapEntry} (h1 : OneRel w F ks kp e.key) (h2 : OneRel w F vs vp e.val) : ∀ {l : List P} {es : List MapEntry}, EntRel w F ks vs l es → EntRel w F ks vs (l ++ [.pair kp vp]) (es ++ [e])
  | [], [], _ => ⟨⟨kp, vp, rfl, h1, h2⟩, trivial⟩
  | _ :: _, _ :: _, ⟨g1, g2⟩ => ⟨g1, entRel_snoc h1 h2 g2⟩
theorem sameBits_key {F : Cells} {kd : TypeDesc} {ks : Sh} (hd : KeyD kd ks) {p : P} {x : Value} (h : OneRel w F ks p x) (n : Nat) : Instr.sameBits n x x = true := by
  rcases hd with ⟨rfl, rfl⟩ | ⟨k, rfl, rfl⟩
  · obtain ⟨a, rfl, e1⟩ : ∃ a, p = .str a ∧ [x] = [Value.string a] := h
    injection e1 with e1; subst e1
    cases n <;> simp [Instr.sameBits, baEq.2 rfl]
  · obtain ⟨a, rfl, e1⟩ : ∃ a, p = .int k a ∧ [x] = [Value.int k a] := h
    injection e1 with e1; subst e1
    cases n <;> simp [Instr.sameBits]
theorem op_mapUpdate {t : TypeId} {mo ko vo : Operand} (ho : o.op = .mapUpdate t mo ko vo)
    (he : (match c.p.underlying t with
    | some (.map kt vt) => (match c.sh kt, c.sh vt, s.ev mo, s.ev ko with
      | some ks, some vs, .blk id (.mp k1 v1), .imm ks' kp => bif keyTy c.p kt && (ks.beq ks' && (ks.beq k1 && (vs.beq v1 && !memB id s.z))) then
        (match toImm s ((s.ev vo).as (some vs)) with
        | some (.imm v' vp, s') => bif v'.beq vs then
          (match getBox id s'.h with
          | some (.blk (.mp k2 v2) p) => bif ks.beq k2 && vs.beq v2 then k .u { s' with h := setBox id (.blk (.mp k2 v2) (.list false (updP ks kp vp p.xs))) s'.h } else none
          | _ => none) else none
        | _ => none) else none
      | _, _, _, _ => none)
    | _ => none) = some r) (h : R0 X S0 w0 c.n m s a.tmps w) (hK : HK X S0 w0 c.n a.tmps k r (fun v w' => K (a.put o.dst v) w')) : o.wp c.p a w K Q := by
  have hx := ev_rel h mo
  have hi := ev_rel h ko
  split at he
  case h_2 => cases he
  rename_i kt vt hu
  split at he
  case h_2 => cases he
  rename_i ks vs id k1 v1 ks' kp hks hvs hp hkp
  replace he := cond_some he
  obtain ⟨hc, he⟩ := he
  simp only [Bool.and_eq_true] at hc
  obtain ⟨hkt, c1, c2, c3, hzi⟩ := hc
  have hzi : memB id s.z = false := by simpa using hzi
  have e1 := Sh.beq_eq c1; have e2 := Sh.beq_eq c2; have e3 := Sh.beq_eq c3
  subst e1; subst e2; subst e3
  obtain ⟨kd, hud, hd⟩ := keyD hkt hks
  rw [hkp, rel_one] at hi
  split at he
  case h_2 => cases he
  rename_i v' vp s' hti
  replace he := cond_some he
  obtain ⟨hv', he⟩ := he
  have e4 := Sh.beq_eq hv'; subst e4
  obtain ⟨hnu, hnt⟩ := toImm_ne hti
  obtain ⟨cs, hcs, hval⟩ := rel_cells0 hnu hnt (as_rel (sh := some v') (ev_rel h vo))
  obtain ⟨sh', p', e5, g1, g2, g3, g4, g5⟩ := toImm_ok hti h hcs
  injection e5 with e5 e6; subst e5; subst e6
  have hvo : OneRel w (Fb X m s'.h) v' vp (a.eval vo) := by
    unfold OneRel
    rw [← g3] at hval
    cases ha : v'.isAgg with
    | true => rw [ha] at hval; rw [if_pos rfl]; exact ⟨_, hval, by simpa using g2⟩
    | false => rw [ha] at hval; rw [if_neg (by simp)]; simp only [valOf, Bool.false_eq_true, if_false] at hval; subst hval; exact g2
  split at he
  case h_2 => cases he
  rename_i k2 v2 p hg
  replace he := cond_some he
  obtain ⟨hc, he⟩ := he
  rw [Bool.and_eq_true] at hc
  have e7 := Sh.beq_eq hc.1; have e8 := Sh.beq_eq hc.2
  subst e7; subst e8
  rw [hp, rel_blk] at hx
  obtain ⟨b, q, hm, hv, _⟩ := hx
  obtain ⟨b', q', hm', _, hb⟩ := g1.box id _ hg
  rw [hm] at hm'; injection hm' with hm' hm2; subst hm'; subst hm2
  obtain ⟨l, es, clock, rfl, h0, hent, hq0⟩ := hb
  have hv : a.eval mo = .map (some b) := hv
  have hi' := hi.mono g4
  have h1 := run_checkKey (w := w) hd hud false 9999 (a.eval ko)
  have hzi' : memB id s'.z = false := by rw [g1.hz, ← h.hz]; exact hzi
  rcases find_ok hd hi' v'.zero l es.toList 0 hent with ⟨q1, q2, _, q4⟩ | ⟨j, e, q1, q2, q3, q4, q5, q6⟩
  · have h2 := run_findKey (w := w) hud q2
    have hR := set_blk (k1 := .mp ks v') (p := .list false (updP ks kp vp l)) (ob := .map (es.push { key := a.eval ko, val := a.eval vo, born := clock }) (clock + 1)) g1 hg hzi' hm h0 rfl rfl (fun {w'} hk hh _ => ⟨_, _, _, rfl, hh, by
      rw [q4, Array.toList_push]
      exact entRel_snoc (hi'.mono hk) (hvo.mono hk) (hent.mono hk), hq0⟩)
    refine wp_skp (w' := _) ?_ (hK .u _ m undef _ he hR trivial (fun i hi => by cases hi))
    simp only [execOp, ho, Instr.mapUpdate, Sem.run_bind, run_underlying hu, Result.andThen_ok, hv, run_getObj h0 rfl, h1, h2, run_setObj h0 rfl]
    rfl
  · have h2 := run_findKey (w := w) hud q2
    have hR := set_blk (k1 := .mp ks v') (p := .list false (updP ks kp vp l)) (ob := .map (es.modify j fun e => { e with key := a.eval ko, val := a.eval vo }) clock) g1 hg hzi' hm h0 rfl rfl (fun {w'} hk hh _ => ⟨_, _, _, rfl, hh, by
      have := (q6 vp _ hvo).mono hk
      simpa using this, hq0⟩)
    refine wp_skp (w' := _) ?_ (hK .u _ m undef _ he hR trivial (fun i hi => by cases hi))
    have hk : ((es[j]?).map (·.key)).getD (a.eval ko) = a.eval ko := by
      rw [← Array.getElem?_toList, q3]; exact q4
    rw [Nat.zero_add] at h2
    have hs := sameBits_key hd hi' 10000
    simp only [execOp, ho, Instr.mapUpdate, Sem.run_bind, run_underlying hu, Result.andThen_ok, hv, run_getObj h0 rfl, h1, h2, hk, Instr.keyThatStays, hs, if_true, Sem.run_pure, Nat.zero_add, run_setObj h0 rfl]
end
end Go.Eng
end
/-! New slices: make, literals, append. Conditions: none. -/
section
set_option linter.unusedVariables false
set_option linter.unusedSimpArgs false
namespace Go.Eng
open Go.RowKit
section
variable {R : Type} {X : Cells} {S0 : Base} {w0 : World} {c : Cx} {m : Lm} {s : St} {a : Act} {w : World}
variable {o : Oper} {k : V → St → Option R} {r : R} {K : Act → World → Prop} {Q : Exit → Act → World → Prop}

/-- A new slice in a new block. -/
theorem add_arr (h : R0 X S0 w0 c.n m s a.tmps w) {d : Nat} {e : Sh} {xs : List P} {cap : Nat} {cs : Array Value} {te : TypeId} {w1 : World} (hid : Free d s.h) (hb : Below w.heap.size w w1) (hdr : w.drawn ≤ w1.drawn) (hsz : w1.heap.size = w.heap.size)
    (hcap : xs.length ≤ cap) (hcs : cs.size = cap * e.size) (hr : ∀ i, i < xs.length → Rep w (Fb X m s.h) e (rd xs i) ((cs.toList.drop (i * e.size)).take e.size)) :
    R0 X S0 w0 c.n (updL m d (.arr (some (w.heap.size, 0)) xs.length cap e)) { s with h := (d, .arr e false xs) :: s.h } a.tmps (w1.alloc (.cells cs te)) ∧
      ∀ F, Rel1 (updL m d (.arr (some (w.heap.size, 0)) xs.length cap e)) (w1.alloc (.cells cs te)) F (.slf d e) (.slice (some ⟨w.heap.size, 0, none⟩) xs.length cap) := by
  refine ⟨h.add hid (hb.alloc (by omega) _) hdr (fun b o' hh => by obtain ⟨rfl, _⟩ := hh; exact Nat.le_refl _) (fun j hj => by cases hj) (fun hk => ?_), fun F => rel_slf.2 ⟨_, _, _, updL_same _ _ _, rfl⟩⟩
  refine ⟨some (w.heap.size, 0), cap, updL_same _ _ _, rfl, hcap, fun e1 => (by cases e1), fun b o' hbo => ?_⟩
  injection hbo with hbo; injection hbo with h1 h2; subst h1; subst h2
  have hst := alloc_sto (w := w1) te cs.toList
  rw [hsz] at hst
  simp only [Array.toArray_toList] at hst
  refine ⟨fun i hi => ⟨_, (hr i hi).mono hk, fun j y hy => ?_⟩, fun j hj => ?_⟩
  · have hj : j < e.size := by
      rcases Nat.lt_or_ge j e.size with q | q
      · exact q
      · rw [List.getElem?_eq_none (by simp; omega)] at hy; cases hy
    rw [List.getElem?_take_of_lt hj, List.getElem?_drop] at hy
    have := hst _ _ hy
    rw [← Nat.add_assoc] at this
    exact this
  · have hj' : j < cs.toList.length := by simp; omega
    exact ⟨_, hst j _ (List.getElem?_eq_getElem hj')⟩
/-- A slice without memory of its own. -/
theorem add_nil (h : R0 X S0 w0 c.n m s a.tmps w) {d : Nat} {e : Sh} (hid : Free d s.h) (al : Option (Nat × Nat)) :
    R0 X S0 w0 c.n (updL m d (.arr al 0 0 e)) { s with h := (d, .arr e al.isNone []) :: s.h } a.tmps w ∧
      ∀ F, Rel1 (updL m d (.arr al 0 0 e)) w F (.slf d e) (.slice (adr al) 0 0) := by
  refine ⟨h.add hid (Below.refl _ _) (Nat.le_refl _) (fun b o' hh => ?_) (fun j hj => by cases hj) (fun hk => ?_), fun F => rel_slf.2 ⟨_, _, _, updL_same _ _ _, rfl⟩⟩
  · cases al with
    | none => exact hh.elim
    | some z => obtain ⟨_, h1, h2⟩ := hh; simp at h2; omega
  · refine ⟨al, 0, updL_same _ _ _, rfl, Nat.le_refl _, fun _ => rfl, fun b o' _ => ⟨fun i hi => absurd hi (by simp), fun j hj => by simp at hj⟩⟩
theorem bytes_ty {t te : TypeId} {b : Nat} {e : Sh} {n' : Nat} (hu : c.p.underlying t = some (.slice te)) (hb : bytesOf c t = some b) (hte : shOf c.p n' te = some e) :
    ∃ i z, c.p.info? te = some i ∧ i.bytes = b ∧ i.size = e.size ∧ i.zero = some z ∧ isAggV z = e.isAgg ∧ ∀ w F, Rep w F e e.zero z.cells.toList := by
  obtain ⟨i, z, h1, h2, h3, h4, h5⟩ := (shOf_is hte).info
  simp only [bytesOf, hu, h1, Option.map_some, Option.some.injEq] at hb
  exact ⟨i, z, h1, hb, h2, h3, h4, h5⟩
theorem run_makeSlice {t te : TypeId} {i : TypeInfo} {z : Value} {p q : Int} (hu : c.p.underlying t = some (.slice te)) (i1 : c.p.info? te = some i) (i4 : i.zero = some z) (hzl : i.size = z.cells.size)
    (c1 : 0 ≤ p) (c2 : p ≤ q) (c3 : q * i.bytes ≤ 140737488355328) (c4 : q ≤ 140737488355328) :
    (Instr.makeSlice t (.int .i64 p) (.int .i64 q)).run c.p w = .ok (.slice (some ⟨w.heap.size, 0, none⟩) p.toNat q.toNat) (w.alloc (.cells ((Array.range (q.toNat * i.size)).map (fun j => z.cells[j % z.cells.size]!)) te)) := by
  have w1 : IntKind.i64.wrap p = p := by unfold IntKind.wrap; simp [IntKind.bits, IntKind.signed]; omega
  have w2 : IntKind.i64.wrap q = q := by unfold IntKind.wrap; simp [IntKind.bits, IntKind.signed]; omega
  have n1 : ¬ (q < 0) := by omega
  have n2 : ¬ (281474976710656 < (i.bytes : Int) * q) := by rw [Int.mul_comm]; omega
  have n3 : ¬ (p < 0) := by omega
  have n4 : ¬ (q < p) := by omega
  by_cases hz : q.toNat * i.size = 0
  · simp only [Instr.makeSlice, run_underlying hu, typeInfo, i1, asInt, asIntOf, sizeOf, w1, w2, newRow, Sem.run_bind, Sem.run_pure, Result.andThen_ok, Sem.run_map, run_program, run_askRoom, run_newObj, Sem.run_ite]
    simp [n1, n2, n3, n4, hz]
    congr 2
    apply Array.ext'
    simp [Array.toList_range]
  · simp only [Instr.makeSlice, run_underlying hu, typeInfo, i1, asInt, asIntOf, sizeOf, zeroValue, i4, w1, w2, newRow, Sem.run_bind, Sem.run_pure, Result.andThen_ok, Sem.run_map, run_program, run_askRoom, run_newObj, Sem.run_ite]
    simp [n1, n2, n3, n4, hz, i4]
theorem op_makeSlice {t : TypeId} {l mm : Operand} {d : Nat} (ho : o.op = .makeSlice t l mm)
    (he : (match s.ev l, s.ev mm, c.sh t, bytesOf c t with
    | .imm (.int .i64) p, .imm (.int .i64) q, some (.slice e), some b =>
      bif decide (0 ≤ p.toInt ∧ p.toInt ≤ q.toInt ∧ q.toInt * b ≤ 140737488355328 ∧ q.toInt ≤ 140737488355328) then (match s.add d (.arr e false (List.replicate p.toInt.toNat e.zero)) with | some s' => k (.slf d e) s' | none => none) else none
    | _, _, _, _ => none) = some r) (h : R0 X S0 w0 c.n m s a.tmps w)
    (hK : HK X S0 w0 c.n a.tmps k r (fun v w' => K (a.put o.dst v) w')) : o.wp c.p a w K Q := by
  have hl := ev_rel h l
  have hm := ev_rel h mm
  split at he
  · rename_i p q e b hp hq hsh hby
    replace he := cond_some he
    obtain ⟨hc, he⟩ := he
    have hc := of_decide_eq_true hc
    obtain ⟨c1, c2, c3, c4⟩ := hc
    split at he
    · rename_i s' hs'
      obtain ⟨hid, rfl⟩ := add_some hs'
      rw [hp] at hl; rw [hq] at hm
      obtain ⟨_, hl⟩ := rel_int.1 hl
      obtain ⟨_, hm⟩ := rel_int.1 hm
      obtain ⟨te, n', hu, hte⟩ := shOf_slice hsh
      obtain ⟨i, z, i1, i2, i3, i4, i5, i6⟩ := bytes_ty hu hby hte
      have hzl : z.cells.size = e.size := by have := (i6 w (fun _ _ => False)).len; simpa using this
      have w1 : IntKind.i64.wrap p.toInt = p.toInt := by unfold IntKind.wrap; simp [IntKind.bits, IntKind.signed]; omega
      have w2 : IntKind.i64.wrap q.toInt = q.toInt := by unfold IntKind.wrap; simp [IntKind.bits, IntKind.signed]; omega
      obtain ⟨g1, g2⟩ := add_arr (e := e) (te := te) (cs := (Array.range (q.toInt.toNat * e.size)).map (fun i => z.cells[i % z.cells.size]!)) (xs := List.replicate p.toInt.toNat e.zero) (cap := q.toInt.toNat) h hid (Below.refl _ w) (Nat.le_refl _) rfl (by simp; omega) (by simp)
        (fun i hi => by
          simp at hi
          have hz := range_zeros (z := z.cells) (n := q.toInt.toNat)
          rw [hzl] at hz
          have := zeros_take (z := z.cells.toList) (n := q.toInt.toNat) (by rw [hz.1]) hz.2 i (by omega)
          simp only [Array.length_toList, hzl] at this
          rw [hzl]
          rw [this, rd_replicate (by omega)]
          exact i6 _ _)
      have hrun := run_makeSlice (w := w) hu i1 i4 (by rw [i3, hzl]) c1 c2 (by rw [i2]; exact c3) c4
      rw [i3] at hrun
      refine wp_val (v := .slice (some ⟨w.heap.size, 0, none⟩) p.toInt.toNat q.toInt.toNat) ?_ (hK _ _ _ _ _ he g1 (by have := g2 (Fb X (updL m d (.arr (some (w.heap.size, 0)) (List.replicate p.toInt.toNat e.zero).length q.toInt.toNat e)) ((d, .arr e false (List.replicate p.toInt.toNat e.zero)) :: s.h)); simpa using this) (fun i hi => by simp [V.ids] at hi; subst hi; simp [getBox_cons]))
      simp [execOp, ho, hl, hm, hrun]
    · cases he
  · cases he
end
end Go.Eng
end
/-! Struct, array and slice literals. Conditions: none. -/
section
set_option linter.unusedVariables false
set_option linter.unusedSimpArgs false
namespace Go.Eng
open Go.RowKit
section
variable {R : Type} {X : Cells} {S0 : Base} {w0 : World} {c : Cx} {m : Lm} {s : St} {a : Act} {w : World} {N : Nat} {tm : Array Value}
variable {o : Oper} {k : V → St → Option R} {r : R} {K : Act → World → Prop} {Q : Exit → Act → World → Prop}

theorem mid_of {L : List Value} {n es i j : Nat} {cs : List Value} (hL : L.length = n * es) (hc : cs.length = es) (hi : i < n) (hj : j < n) :
    ((L.take (i * es) ++ cs ++ L.drop (i * es + es)).drop (j * es)).take es = if j = i then cs else (L.drop (j * es)).take es := by
  have hle : (i + 1) * es ≤ n * es := Nat.mul_le_mul_right _ (by omega)
  have hs : (i + 1) * es = i * es + es := Nat.succ_mul _ _
  have htk : (L.take (i * es)).length = i * es := by rw [List.length_take]; omega
  by_cases e : j = i
  · subst e
    rw [if_pos rfl, List.append_assoc, List.drop_left' htk, List.take_left' hc]
  · rw [if_neg e]
    rcases Nat.lt_or_gt_of_ne e with hlt | hgt
    · have hh : (j + 1) * es ≤ i * es := Nat.mul_le_mul_right _ (by omega)
      have hs' : (j + 1) * es = j * es + es := Nat.succ_mul _ _
      rw [List.append_assoc, List.drop_append_of_le_length (by omega), List.take_append_of_le_length (by rw [List.length_drop, htk]; omega), List.drop_take, List.take_take, Nat.min_eq_left (by omega)]
    · have hh : (i + 1) * es ≤ j * es := Nat.mul_le_mul_right _ (by omega)
      rw [List.drop_append, List.drop_eq_nil_of_le (by rw [List.length_append, htk, hc]; omega), List.nil_append, List.drop_drop, List.length_append, htk, hc]
      rw [show i * es + es + (j * es - (i * es + es)) = j * es from by omega]
theorem setElems_ok {e : Sh} : ∀ (ps : List (Nat × V × Value)) {xs xs' : List P} {s s' : St} {cells : Array Value},
    setElems e xs (ps.map fun q => (q.1, q.2.1)) s = some (xs', s') → R0 X S0 w0 N m s tm w → (∀ q ∈ ps, Rel1 m w (Fb X m s.h) q.2.1 q.2.2) →
    cells.size = xs.length * e.size → (∀ i, i < xs.length → Rep w (Fb X m s.h) e (rd xs i) ((cells.toList.drop (i * e.size)).take e.size)) →
    ∃ cells', Instr.fill (fun i => some (i * e.size, e.size)) cells (ps.map fun q => (q.1, q.2.2)) = some cells' ∧ cells'.size = xs'.length * e.size ∧ xs'.length = xs.length ∧
      R0 X S0 w0 N m s' tm w ∧ (∀ i, i < xs'.length → Rep w (Fb X m s'.h) e (rd xs' i) ((cells'.toList.drop (i * e.size)).take e.size)) ∧ Keep w (Fb X m s.h) w (Fb X m s'.h)
  | [], xs, xs', s, s', cells, hg, h, hps, hc, hr => by
    simp only [List.map_nil, setElems, Option.some.injEq, Prod.mk.injEq] at hg
    obtain ⟨rfl, rfl⟩ := hg
    exact ⟨cells, rfl, hc, rfl, h, hr, Keep.refl _ _⟩
  | (i, v, x) :: ps, xs, xs', s, s', cells, hg, h, hps, hc, hr => by
    simp only [List.map_cons, setElems] at hg
    split at hg
    · rename_i t p s1 hti
      replace hg := cond_some hg
      obtain ⟨hb, hg⟩ := hg
      simp only [Bool.and_eq_true] at hb
      have := Sh.beq_eq hb.1; subst this
      have hi : i < xs.length := by have := hb.2; rw [Nat.blt_eq] at this; exact this
      obtain ⟨hu, ht⟩ := toImm_ne hti
      obtain ⟨cs, hcs, hval⟩ := rel_cells0 hu ht (as_rel (sh := some t) (hps (i, v, x) (by simp)))
      obtain ⟨sh, p', hp, h1, h2, h3, h4, _⟩ := toImm_ok hti h hcs
      injection hp with hp1 hp2; subst hp1; subst hp2
      rw [← h3] at hval
      have hxc := valOf_cells hval (Rep.one _ _ _ h2)
      have hl := h2.len
      have hle : (i + 1) * t.size ≤ xs.length * t.size := Nat.mul_le_mul_right _ (by omega)
      have hs : (i + 1) * t.size = i * t.size + t.size := Nat.succ_mul _ _
      have hfit : i * t.size + x.cells.size ≤ cells.size := by rw [hxc, hc]; simp; omega
      have hf1 := fill_one hfit
      generalize hC : x.cells.zipIdx.foldl (fun cs (c, j) => cs.setIfInBounds (i * t.size + j) c) cells = C at hf1
      rw [hxc] at hf1
      simp only [List.size_toArray, hl] at hf1
      have hCs : C.size = xs.length * t.size := by
        have : C.toList.length = _ := congrArg List.length hf1
        rw [Array.length_toList] at this
        rw [this]
        simp only [List.length_append, List.length_take, List.length_drop, Array.length_toList, hc, hl]
        omega
      obtain ⟨cells', g1, g2, g3, g4, g5, g6⟩ := setElems_ok ps hg h1 (fun q hq => (hps q (by simp [hq])).mono h4) (cells := C) (by rw [List.length_set]; exact hCs) (fun j hj => by
        rw [List.length_set] at hj
        rw [rd_set hi, hf1, mid_of (n := xs.length) (by rw [Array.length_toList]; exact hc) hl hi hj]
        by_cases e1 : j = i
        · rw [if_pos e1, if_pos e1]; exact h2
        · rw [if_neg e1, if_neg e1]; exact (hr j hj).mono h4)
      refine ⟨cells', ?_, g2, by rw [g3, List.length_set], g4, g5, h4.trans g6⟩
      simp only [List.map_cons, Instr.fill]
      have hsz : x.cells.size = t.size := by rw [hxc]; simpa using hl
      have n1 : ¬ (x.cells.size ≠ t.size || decide (i * t.size + x.cells.size > cells.size)) = true := by
        simp [hsz]; rw [hsz] at hfit; omega
      rw [if_neg n1, hC]
      exact g1
    · cases hg
theorem op_buildSlice {t : TypeId} {n d : Nat} {parts : Array (Nat × Operand)} (ho : o.op = .buildSlice t n parts)
    (he : (match c.sh t with
    | some (.slice e) => bif Nat.ble (n * e.size) 16777216 then (match setElems e (List.replicate n e.zero) (parts.toList.map fun (i, x) => (i, s.ev x)) s with
      | some (xs, s') => (match s'.add d (.arr e false xs) with | some s'' => k (.slf d e) s'' | none => none)
      | none => none) else none
    | _ => none) = some r) (h : R0 X S0 w0 c.n m s a.tmps w)
    (hK : HK X S0 w0 c.n a.tmps k r (fun v w' => K (a.put o.dst v) w')) : o.wp c.p a w K Q := by
  split at he
  · rename_i e hsh
    replace he := cond_some he
    obtain ⟨hn, he⟩ := he
    have hn : n * e.size ≤ 16777216 := by have := hn; rw [Nat.ble_eq] at this; exact this
    split at he
    · rename_i xs s' hse
      split at he
      · rename_i s'' hs''
        obtain ⟨hid, rfl⟩ := add_some hs''
        obtain ⟨te, n', hu, hte⟩ := shOf_slice hsh
        have hty := shOf_is hte
        obtain ⟨z, hz1, hz2, hz3⟩ := run_zero hty w
        have hzl : z.cells.size = e.size := by have := (hz3 w (fun _ _ => False)).len; simpa using this
        have hz := range_zeros (z := z.cells) (n := n)
        rw [hzl] at hz
        obtain ⟨cells', g1, g2, g3, g4, g5, g6⟩ := setElems_ok (X := X) (S0 := S0) (w0 := w0) (m := m) (N := c.n) (tm := a.tmps) (w := w) (parts.toList.map fun q => (q.1, s.ev q.2, a.eval q.2)) (s := s) (cells := (Array.range (n * e.size)).map (fun i => z.cells[i % z.cells.size]!))
          (by simpa [List.map_map, Function.comp_def] using hse) h (fun q hq => by obtain ⟨y, _, rfl⟩ := List.mem_map.1 hq; exact ev_rel h _) (by simp) (fun i hi => by
            simp at hi
            have := zeros_take (z := z.cells.toList) (n := n) (by rw [hz.1]) hz.2 i hi
            simp only [Array.length_toList, hzl] at this
            rw [hzl]
            rw [this, rd_replicate hi]
            exact hz3 _ _)
        have hlen : xs.length = n := by rw [g3]; simp
        obtain ⟨q1, q2⟩ := add_arr (te := te) (cs := cells') (cap := n) g4 hid (Below.refl _ w) (Nat.le_refl _) rfl (by omega) (by rw [g2, hlen]) g5
        refine wp_val (v := .slice (some ⟨w.heap.size, 0, none⟩) n n) (w' := w.alloc (.cells cells' te)) ?_ (hK _ _ _ _ _ he q1 (by have := q2 (Fb X (updL m d (.arr (some (w.heap.size, 0)) xs.length n e)) ((d, .arr e false xs) :: s'.h)); rw [hlen] at this ⊢; exact this) (fun i hi => by simp [V.ids] at hi; subst hi; simp [getBox_cons]))
        have hfl : Instr.fill (fun i => some (i * e.size, e.size)) ((Array.range (n * e.size)).map (fun i => z.cells[i % z.cells.size]!)) (parts.map fun (i, x) => (i, a.eval x)).toList = some cells' := by
          rw [← g1]; simp [List.map_map, Function.comp_def]
        have n1 : ¬ (16777216 < n * e.size) := by omega
        by_cases hz0 : n * e.size = 0
        · have hfl' : Instr.fill (fun i => some (i * e.size, e.size)) ((Array.range (n * e.size)).map (fun i => (#[] : Array Value)[i % (#[] : Array Value).size]!)) (parts.map fun (i, x) => (i, a.eval x)).toList = some cells' := by
            rw [← hfl]; congr 1; apply Array.ext'; simp [hz0, Array.toList_range]
          simp only [execOp, ho, Instr.buildSlice, run_underlying hu, run_sizeOf' hty, Sem.run_bind, Sem.run_map, Sem.run_pure, Result.andThen_ok, Sem.run_ite]
          rw [if_neg n1, if_pos hz0]
          simp only [Result.andThen_ok, hfl', Sem.run_bind, newRow, run_newObj, Sem.run_pure]
        · simp only [execOp, ho, Instr.buildSlice, run_underlying hu, run_sizeOf' hty, Sem.run_bind, Sem.run_map, Sem.run_pure, Result.andThen_ok, Sem.run_ite]
          rw [if_neg n1, if_neg hz0]
          simp only [Result.andThen_ok, hz1, Sem.run_bind, Sem.run_pure]
          simp only [hfl, newRow, run_newObj, Sem.run_bind, Sem.run_pure, Result.andThen_ok]
      · cases he
    · cases he
  · cases he
theorem run_places (fs : List Field) (n' : Nat) (w : World) : ∀ (sh : Sh), pairs (fs.map fun f => shOf c.p n' f.type) = some sh →
    ∃ pl : List (Nat × Nat), (fs.mapM fun f => Prod.mk f.offset <$> sizeOf f.type).run c.p w = .ok pl w ∧ pl.length = fs.length ∧
      ∀ j fd f, fs[j]? = some fd → Sh.nth j sh = some f → pl[j]? = some (fd.offset, f.size) := by
  induction fs with
  | nil => intro sh h; exact ⟨[], rfl, rfl, fun j fd f hj => by simp at hj⟩
  | cons fd r ih =>
    intro sh h
    simp only [List.map_cons, pairs] at h
    split at h
    · rename_i a' b' ha hb
      obtain rfl := Option.some.inj h
      obtain ⟨pl, h1, h2, h3⟩ := ih b' hb
      have hty := shOf_is ha
      refine ⟨(fd.offset, a'.size) :: pl, by simp [List.mapM_cons, run_sizeOf' hty, h1], by simp [h2], fun j fd' f hj hf => ?_⟩
      cases j with
      | zero => simp at hj; subst hj; simp [Sh.nth] at hf; subst hf; rfl
      | succ j => simp only [Sh.nth] at hf; simpa using h3 j fd' f (by simpa using hj) hf
    · cases h
theorem setParts_ok {t : TypeId} {sh : Sh} {fs : Array Field} {place : Nat → Option (Nat × Nat)} {F : Cells} (hu : c.p.underlying t = some (.struct fs))
    (hpl : ∀ j fd f, fs[j]? = some fd → Sh.nth j sh = some f → place j = some (fd.offset, f.size)) :
    ∀ (ps : List (Nat × V × Value)) {v v' : V} {cells : Array Value}, setParts c t sh v (ps.map fun q => (q.1, q.2.1)) = some v' → (∀ q ∈ ps, Rel1 m w F q.2.1 q.2.2) → v.fits sh = true → RelV m w F v cells.toList →
    ∃ cells', Instr.fill place cells (ps.map fun q => (q.1, q.2.2)) = some cells' ∧ v'.fits sh = true ∧ RelV m w F v' cells'.toList ∧ (∀ i ∈ v'.ids, i ∈ v.ids ∨ ∃ q ∈ ps, i ∈ q.2.1.ids)
  | [], v, v', cells, hg, hps, hf, hv => by
    simp only [List.map_nil, setParts, Option.some.injEq] at hg
    subst hg
    exact ⟨cells, rfl, hf, hv, fun i hi => .inl hi⟩
  | (i, y, x) :: ps, v, v', cells, hg, hps, hf, hv => by
    simp only [List.map_cons, setParts] at hg
    split at hg
    · rename_i f off hn hoff
      replace hg := cond_some hg
      obtain ⟨hb, hg⟩ := hg
      simp only [Bool.and_eq_true, beq_iff] at hb
      obtain ⟨⟨hb1, hb2⟩, hb3⟩ := hb
      split at hg
      · rename_i v1 hv1
        obtain ⟨cs, hcs, hval⟩ := rel_cells hb1 hb2 (as_rel (sh := some f) (hps (i, y, x) (by simp)))
        have hxc := valOf_cells hval (RelV.one _ _ hb2 hcs)
        have hl := RelV.len _ _ _ hb1 hcs
        obtain ⟨l, cc, q, k1, k2, k3, k4, k5, k6⟩ := RelV.setNth i hv1 hf hv hn hb1 hcs
        obtain ⟨fd, hfd, hfo⟩ : ∃ fd, fs[i]? = some fd ∧ fd.offset = off := by
          simp only [fieldOff, hu, Option.map_eq_some_iff] at hoff
          obtain ⟨fd, h1, h2⟩ := hoff
          exact ⟨fd, h1, h2⟩
        have hsz : x.cells.size = f.size := by rw [hxc]; simpa using hl
        have hcl : cells.size = l.length + cc.length + q.length := by
          have : cells.toList.length = _ := congrArg List.length k1
          rw [Array.length_toList] at this
          simpa [Nat.add_assoc] using this
        have hfit : off + x.cells.size ≤ cells.size := by rw [hsz, hcl]; omega
        have hf1 := fill_one hfit
        generalize hC : x.cells.zipIdx.foldl (fun cs (c, j) => cs.setIfInBounds (off + j) c) cells = C at hf1
        have hCl : C.toList = l ++ cs ++ q := by
          rw [hf1, k1, hsz, hxc]
          have e1 : off = l.length := by rw [k2, hb3]
          have e2 : l ++ cc ++ q = l ++ (cc ++ q) := by simp
          rw [e1, e2, List.take_left, ← List.drop_drop, List.drop_left, ← k3, List.drop_left]
        obtain ⟨cells', g1, g2, g3, g4⟩ := setParts_ok hu hpl ps hg (fun q hq => hps q (by simp [hq])) (cells := C) k4 (by rw [hCl]; exact k5)
        refine ⟨cells', ?_, g2, g3, fun j hj => ?_⟩
        · simp only [List.map_cons, Instr.fill, hpl i fd f hfd hn, hfo]
          have n1 : ¬ (x.cells.size ≠ f.size || decide (off + x.cells.size > cells.size)) = true := by
            simp [hsz]; rw [hsz] at hfit; omega
          rw [if_neg n1, hC]
          exact g1
        · rcases g4 j hj with e | ⟨q', hq', e⟩
          · rcases k6 j e with e | e
            · exact .inl e
            · rw [as_ids] at e; exact .inr ⟨_, List.mem_cons_self .., e⟩
          · exact .inr ⟨q', List.mem_cons_of_mem _ hq', e⟩
      · cases hg
    · cases hg
theorem op_build {t : TypeId} {parts : Array (Nat × Operand)} (ho : o.op = .build t parts)
    (he : (match c.sh t with
    | some (.arr n e) => (match setElems e (List.replicate n e.zero) (parts.toList.map fun (i, x) => (i, s.ev x)) s with | some (xs, s') => k (.imm (.arr n e) (.list false xs)) s' | none => none)
    | some sh => (match c.p.underlying t with | some (.struct _) => (match setParts c t sh (.imm sh sh.zero) (parts.toList.map fun (i, x) => (i, s.ev x)) with | some v => k v s | none => none) | _ => none)
    | none => none) = some r) (h : R0 X S0 w0 c.n m s a.tmps w)
    (hK : HK X S0 w0 c.n a.tmps k r (fun v w' => K (a.put o.dst v) w')) : WpR c.p a w o K := by
  split at he
  · rename_i n e hsh
    split at he
    · rename_i xs s' hse
      obtain ⟨te, n', hu, hte⟩ := shOf_arr hsh
      have hty := shOf_is hte
      obtain ⟨z, hz1, hz2, hz3⟩ := run_zero (sh_is hsh) w
      have hzr := hz3 w (Fb X m s.h)
      obtain ⟨xs0, e1, e2, e3, e4⟩ := hzr
      injection e1 with _ e1
      obtain ⟨cells', g1, g2, g3, g4, g5, g6⟩ := setElems_ok (X := X) (S0 := S0) (w0 := w0) (m := m) (N := c.n) (tm := a.tmps) (w := w) (parts.toList.map fun q => (q.1, s.ev q.2, a.eval q.2)) (s := s) (cells := z.cells)
        (by simpa [List.map_map, Function.comp_def] using hse) h (fun q hq => by obtain ⟨y, _, rfl⟩ := List.mem_map.1 hq; exact ev_rel h _) (by simpa using e3) (fun i hi => by
          simp at hi
          rw [e1]; exact e4 i hi)
      have hlen : xs.length = n := by rw [g3]; simp
      refine wpr_val (v := .agg cells') (w' := w) ?_ (hK (.imm (.arr n e) (.list false xs)) _ m _ w he g4 ((rel_agg (by simp) (by simp) rfl).2 ⟨cells', rfl, xs, rfl, hlen, by simpa [hlen] using g2, fun i hi => g5 i (by omega)⟩) (fun i hi => by cases hi))
      have hfl : Instr.fill (fun i => some (i * e.size, e.size)) z.cells (parts.map fun (i, x) => (i, a.eval x)).toList = some cells' := by
        rw [← g1]; simp [List.map_map, Function.comp_def]
      simp only [execOp, ho, Instr.build, hz1, run_underlying hu, run_sizeOf' hty, Sem.run_bind, Sem.run_map, Sem.run_pure, Result.andThen_ok, hfl]
    · cases he
  · rename_i sh hsh hna
    split at he
    · rename_i fs hu
      split at he
      · rename_i v hv
        obtain ⟨z, hz1, hz2, hz3⟩ := run_zero (sh_is hna) w
        obtain ⟨n', hp⟩ := shOf_struct hna hu
        obtain ⟨pl, p1, p2, p3⟩ := run_places (c := c) fs.toList n' w sh hp
        obtain ⟨cells', g1, g2, g3, g4⟩ := setParts_ok (place := fun i => pl.toArray[i]?) hu (fun j fd f h1 h2 => by simpa using p3 j fd f (by simpa using h1) h2) (parts.toList.map fun q => (q.1, s.ev q.2, a.eval q.2)) (cells := z.cells) (v := .imm sh sh.zero)
          (by simpa [List.map_map, Function.comp_def] using hv) (fun q hq => by obtain ⟨y, _, rfl⟩ := List.mem_map.1 hq; exact ev_rel h _) (Sh.beq_refl sh) (hz3 w (Fb X m s.h))
        have hag : sh.isAgg = true := pairs_agg _ _ hp
        refine wpr_val (v := .agg cells') (w' := w) ?_ (hK v s m _ w he h (cells_rel g2 (by rw [hag]; simp [valOf]) g3) (fun i hi => ?_))
        · have hfl : Instr.fill (fun i => pl.toArray[i]?) z.cells (parts.map fun (i, x) => (i, a.eval x)).toList = some cells' := by
            rw [← g1]; simp [List.map_map, Function.comp_def]
          have hpl' : (fs.mapM fun f => Prod.mk f.offset <$> sizeOf f.type).run c.p w = .ok pl.toArray w := by
            rw [Array.mapM_eq_mapM_toList]; simp [p1]
          simp only [execOp, ho, Instr.build, hz1, run_underlying hu, Sem.run_bind, Sem.run_map, Sem.run_pure, Result.andThen_ok]
          have hm : (fun f : Field => do let __do_lift ← sizeOf f.type; Pure.pure (f.offset, __do_lift) : Field → Sem (Nat × Nat)) = fun f => Prod.mk f.offset <$> sizeOf f.type := by
            funext f; simp
          rw [hm, hpl']
          simp only [Result.andThen_ok, hfl, Sem.run_pure]
        · rcases g4 i hi with e | ⟨q, hq, e⟩
          · cases e
          · obtain ⟨y, _, rfl⟩ := List.mem_map.1 hq; exact ev_ids h _ i e
      · cases he
    · cases he
  · cases he
end
end Go.Eng
end
/-! append. Conditions: none. -/
section
set_option linter.unusedVariables false
set_option linter.unusedSimpArgs false
namespace Go.Eng
open Go.RowKit
section
variable {P : Program} {w : World}
theorem run_app_room {t t' te ty : TypeId} {ts : Array TypeId} {d' : TypeDesc} {i : TypeInfo} {base : Option Addr} {sLen sCap n : Nat} {y : Value} {news : List Value} {w' : World}
    (h0 : ts[0]? = some t) (h1 : ts[1]? = some t') (hu : P.underlying t = some (.slice te)) (hu' : P.underlying t' = some d') (hd : (∃ e, d' = .slice e) ∨ d' = .string) (hi : P.info? te = some i)
    (hlen : ∀ W, (Builtin.lenOf y).run P W = .ok n W) (hnews : (Builtin.firstCells i.size n y).run P w = .ok news.toArray w) (hroom : sLen + n ≤ sCap)
    (hst : ∀ ad, base = some ad → (storeCells (ad.add (sLen * i.size)) news).run P w = .ok () w') (hno : base = none → w' = w) :
    (Builtin.append_ ts ty #[.slice base sLen sCap, y]).run P w = .ok (.slice base (sLen + n) sCap) w' := by
  cases base with
  | none =>
    have := hno rfl; subst this
    rcases hd with ⟨e', rfl⟩ | rfl <;> simp [Builtin.append_, h0, h1, run_underlying hu, run_underlying hu', sizeOf, typeInfo, hi, hlen, hroom, hnews]
  | some ad =>
    have := hst ad rfl
    rcases hd with ⟨e', rfl⟩ | rfl <;> simp [Builtin.append_, h0, h1, run_underlying hu, run_underlying hu', sizeOf, typeInfo, hi, hlen, hroom, hnews, this]
theorem run_app_grow {t t' te ty : TypeId} {ts : Array TypeId} {d' : TypeDesc} {i : TypeInfo} {z : Value} {base : Option Addr} {sLen sCap n : Nat} {y : Value} {news olds : List Value}
    (h0 : ts[0]? = some t) (h1 : ts[1]? = some t') (hu : P.underlying t = some (.slice te)) (hu' : P.underlying t' = some d') (hd : (∃ e, d' = .slice e) ∨ d' = .string) (hi : P.info? te = some i) (hz : i.zero = some z)
    (hlen : ∀ W, (Builtin.lenOf y).run P W = .ok n W) (hnews : (Builtin.firstCells i.size n y).run P w.drew = .ok news.toArray w.drew)
    (holds : (Builtin.firstCells i.size sLen (.slice base sLen sCap)).run P w.drew = .ok olds.toArray w.drew)
    (hg : sCap < sLen + n) (hb : 0 < i.bytes) (hfit : Builtin.nextslicecap (sLen + n) sCap * i.bytes ≤ 281474976710656) :
    (Builtin.append_ ts ty #[.slice base sLen sCap, y]).run P w = .ok (.slice (some ⟨w.heap.size, 0, none⟩) (sLen + n) (grownCap w (sLen + n) sCap te))
      (w.drew.alloc (.cells (olds.toArray ++ news.toArray ++ Builtin.zeroCells z.cells (grownCap w (sLen + n) sCap te - (sLen + n))) te)) := by
  have hn : ¬ (sLen + n ≤ sCap) := by omega
  have h48 : ¬ (281474976710656 < Builtin.nextslicecap (sLen + n) sCap * i.bytes) := by omega
  have hbz : i.bytes ≠ 0 := by omega
  have h63 : ∀ (x : Prop), ¬ (x ∧ i.bytes = 0) := fun x h => hbz h.2
  rcases hd with ⟨e', rfl⟩ | rfl <;>
    (simp [Builtin.append_, h0, h1, run_underlying hu, run_underlying hu', sizeOf, typeInfo, hi, hlen, hn, hbz, h48, Question.forced, zeroValue, hz, holds, hnews, newRow, grownCap]
     congr 2
     apply Array.ext'
     simp)
end
section
variable {R : Type} {X : Cells} {S0 : Base} {w0 : World} {c : Cx} {m : Lm} {s : St} {a : Act} {w : World} {N : Nat} {tm : Array Value}
variable {o : Oper} {k : V → St → Option R} {r : R} {K : Act → World → Prop} {Q : Exit → Act → World → Prop}

/-- The elements of an appended thing, as cells. -/
structure ArgIs (P : Program) (w : World) (F : Cells) (e : Sh) (ys : List Eng.P) (y : Value) (C : List Value) : Prop where
  len : C.length = ys.length * e.size
  rep : ∀ i, i < ys.length → Rep w F e (rd ys i) ((C.drop (i * e.size)).take e.size)
  one : ∀ v ∈ C, one v
  lenOf : ∀ W, (Builtin.lenOf y).run P W = .ok ys.length W
  cells : ∀ W, (∀ b o, W.cell? (mkA b o) = w.cell? (mkA b o)) → (Builtin.firstCells e.size ys.length y).run P W = .ok C.toArray W
theorem all_one {F : Cells} {e : Sh} {ys : List Eng.P} {C : List Value} (len : C.length = ys.length * e.size) (rep : ∀ i, i < ys.length → Rep w F e (rd ys i) ((C.drop (i * e.size)).take e.size)) : ∀ v ∈ C, one v := by
  intro v hv
  have : Rep w F (.arr ys.length e) (.list false ys) C := ⟨ys, rfl, rfl, len, rep⟩
  exact Rep.one _ _ _ this v hv
theorem appArg_ok {P : Program} {e : Sh} {v : V} {y : Value} {ys : List Eng.P} (h : R0 X S0 w0 N m s tm w) (hv : Rel1 m w (Fb X m s.h) v y) (hg : appArg s e v = some ys) :
    ∃ C, ArgIs P w (Fb X m s.h) e ys y C := by
  unfold appArg at hg
  split at hg
  · rename_i q
    split at hg
    · rename_i he
      obtain rfl := Option.some.inj hg
      have := Sh.beq_eq he; subst this
      obtain ⟨_, rfl⟩ := rel_str.1 hv
      have hl : (ofBytes q.toStr).length = q.toStr.size := by simp [ofBytes]
      refine ⟨q.toStr.data.toList.map fun b => Value.int .u8 b.toNat, ?_, ?_, ?_, fun W => by simp [Builtin.lenOf, hl], fun W hW => ?_⟩
      · simp [ofBytes, Sh.size]
      · intro i hi
        have hi' : i < q.toStr.data.size := by simpa [ofBytes] using hi
        refine ⟨((q.toStr.data[i]).toNat : Int), ?_, ?_⟩
        · have e1 : q.toStr.data[i]? = some q.toStr.data[i] := Array.getElem?_eq_getElem hi'
          simp [ofBytes, rd, List.getD_eq_getElem?_getD, e1]
        · have e1 : (q.toStr.data.toList.map fun b => Value.int .u8 b.toNat).drop i = Value.int .u8 (q.toStr.data[i]).toNat :: (q.toStr.data.toList.map fun b => Value.int .u8 b.toNat).drop (i + 1) := by
            rw [List.drop_eq_getElem_cons (by simpa using hi')]; simp
          simp only [Sh.size, Nat.mul_one, e1]
          rfl
      · intro v hv
        obtain ⟨b, _, rfl⟩ := List.mem_map.1 hv
        simp [Eng.one, Value.oneCell']
      · simp only [Builtin.firstCells, Sem.run_pure]
        congr 1
        apply Array.ext'
        have : q.toStr.extract 0 (ofBytes q.toStr).length = q.toStr := by
          rw [hl]; exact ByteArray.extract_zero_size ..
        rw [this]; simp
    · cases hg
  · split at hg
    · rename_i e' ys' hl
      split at hg
      · rename_i he
        obtain rfl := Option.some.inj hg
        have := Sh.beq_eq he; subst this
        obtain ⟨al, cap, rfl, h1, h2⟩ := lst_ok h hv hl
        by_cases hn : ys' = []
        · subst hn
          exact ⟨[], by simp, fun i hi => absurd hi (by simp), by simp, fun W => by simp [Builtin.lenOf], fun W _ => by cases al <;> simp [Builtin.firstCells, loadCells, loadCellsFrom]⟩
        · obtain ⟨b, o', hal⟩ : ∃ b o', al = some (mkA b o') := by
            obtain ⟨b, o', c', e1, _⟩ := h2 0 (List.length_pos_iff.2 hn); exact ⟨b, o', e1⟩
          subst hal
          have hcell : ∀ j, j < ys'.length * e.size → ∃ x, w.cell? (mkA b (o' + j)) = some x := by
            intro j hj
            have hz : 0 < e.size := by
              rcases Nat.eq_zero_or_pos e.size with q | q
              · rw [q] at hj; omega
              · exact q
            have hlt : j / e.size < ys'.length := Nat.div_lt_of_lt_mul (by rw [Nat.mul_comm]; exact hj)
            obtain ⟨b1, o1, c1, e1, g1, g2, g3⟩ := h2 _ hlt
            injection e1 with e1; injection e1 with e1 e2; subst e1; subst e2
            have hm : j % e.size < c1.length := by rw [g2]; exact Nat.mod_lt _ hz
            have hd : e.size * (j / e.size) + j % e.size = j := Nat.div_add_mod j e.size
            have := g3 (j % e.size) _ (List.getElem?_eq_getElem hm)
            rw [show o' + j / e.size * e.size + j % e.size = o' + j from by rw [Nat.mul_comm (j / e.size)]; omega] at this
            exact ⟨_, this⟩
          let C := (List.range (ys'.length * e.size)).map fun j => (w.cell? (mkA b (o' + j))).getD undef
          have hCl : C.length = ys'.length * e.size := by simp [C]
          have hC : ∀ j, j < ys'.length * e.size → w.cell? (mkA b (o' + j)) = C[j]? := by
            intro j hj
            obtain ⟨x, hx⟩ := hcell j hj
            simp [C, hj, hx]
          have hrep : ∀ i, i < ys'.length → Rep w (Fb X m s.h) e (rd ys' i) ((C.drop (i * e.size)).take e.size) := by
            intro i hi
            obtain ⟨b1, o1, c1, e1, g1, g2, g3⟩ := h2 i hi
            injection e1 with e1; injection e1 with e1 e2; subst e1; subst e2
            have : (C.drop (i * e.size)).take e.size = c1 := by
              apply List.ext_getElem?
              intro j
              have hle : (i + 1) * e.size ≤ ys'.length * e.size := Nat.mul_le_mul_right _ (by omega)
              have hs : (i + 1) * e.size = i * e.size + e.size := Nat.succ_mul _ _
              by_cases hj : j < e.size
              · rw [List.getElem?_take_of_lt hj, List.getElem?_drop, ← hC _ (by omega), ← Nat.add_assoc, g3 j _ (List.getElem?_eq_getElem (by omega))]
                exact (List.getElem?_eq_getElem (by omega)).symm
              · rw [List.getElem?_eq_none (by simp; omega), List.getElem?_eq_none (by omega)]
            rw [this]; exact g1
          refine ⟨C, hCl, hrep, all_one hCl hrep, fun W => by simp [Builtin.lenOf], fun W hW => ?_⟩
          have := run_firstCells_some (P := P) W e.size ys'.length (mkA b o') ys'.length cap C hCl (fun j v hv => by
            have hj : j < C.length := by
              rcases Nat.lt_or_ge j C.length with q | q
              · exact q
              · rw [List.getElem?_eq_none q] at hv; cases hv
            rw [mkA_add, hW, hC j (by omega)]; exact hv)
          exact this
      · cases hg
    · cases hg
/-- A box is used up, and its memory goes on as another box. -/
theorem R0.readd (h : R0 X S0 w0 N m s tm w) {id d : Nat} {bx : Box} {l : Loc} {w' : World} (hid : getBox id s.h ≠ none) (hzi : memB id s.z = false) (hfree : Free d (s.kill id).h)
    (hfr : Fr S0.dk w.heap.size (m id).has w w') (hl : ∀ b o, l.has b o → (m id).has b o) (hids : bx.ids = [])
    (hbx : Keep w (Fb X m s.h) w' (Fb X (updL m d l) ((d, bx) :: (s.kill id).h)) → BRel (updL m d l) w' (Fb X (updL m d l) ((d, bx) :: (s.kill id).h)) d bx) :
    R0 X S0 w0 N (updL m d l) { s.kill id with h := (d, bx) :: (s.kill id).h } tm w' := by
  have hd := hfree.1
  have hg : ∀ j, getBox j (s.kill id).h = (if j = id then none else getBox j s.h).map (Box.map (killLeaf id)) := fun j => getBox_drop h j
  have hp : ∀ j, getBox j (s.kill id).h ≠ none ↔ j ≠ id ∧ getBox j s.h ≠ none := fun j => by
    rw [hg]
    by_cases e : j = id
    · simp [e]
    · rw [if_neg e]; simp [e]
  have hne : ∀ j, getBox j (s.kill id).h ≠ none → j ≠ d := fun j hj e => hj (e ▸ hd)
  have hown : ∀ b o, Own (updL m d l) ((d, bx) :: (s.kill id).h) b o → Own m s.h b o ∨ w.heap.size ≤ b := by
    rintro b o ⟨j, hj, hh⟩
    by_cases e : j = d
    · subst e; rw [updL_same] at hh; exact .inl ⟨id, hid, hl b o hh⟩
    · rw [updL_other m l e] at hh
      rw [getBox_cons, if_neg (fun q => e q.symm)] at hj
      exact .inl ⟨j, ((hp j).1 hj).2, hh⟩
  have hk := h.keep hfr (fun b o q => ⟨id, hid, q⟩) hown
  have hL : LeafOk m w (Fb X m s.h) (Fb X m s.h) (killLeaf id) := killLeaf_ok (Keep.refl _ _)
  have hpres : ∀ j, getBox j (s.kill id).h ≠ none → getBox j ((d, bx) :: (s.kill id).h) ≠ none := fun j hj => by rw [getBox_cons, if_neg (fun q => hne j hj q.symm)]; exact hj
  have htmp : ∀ i, (s.kill id).tmp i = (s.tmp i).map (killLeaf id) := fun i => St.tmp_map _ _ rfl i
  have hwt : ∀ i, ∀ j ∈ ((s.kill id).tmp i).ids, getBox j (s.kill id).h ≠ none := fun i j hj => by
    rw [htmp] at hj
    obtain ⟨g1, g2⟩ := killLeaf_ids id _ j hj
    exact (hp j).2 ⟨g2, h.wft i j g1⟩
  have hwh : ∀ j b, getBox j (s.kill id).h = some b → ∀ k ∈ b.ids, getBox k (s.kill id).h ≠ none := (h.kill hid hzi).wfh
  have hz0 : memB id S0.z = false := by rw [← h.hz]; exact hzi
  have hdz : memB d S0.z = false := by
    cases hb : memB d S0.z with
    | false => rfl
    | true => exact absurd hd ((hp d).2 ⟨fun e => (by subst e; rw [hz0] at hb; cases hb), h.zk d hb⟩)
  have hownZ : ∀ b o, OwnZ (updL m d l) ((d, bx) :: (s.kill id).h) S0.z b o → OwnZ m s.h S0.z b o ∨ w.heap.size ≤ b := by
    rintro b o ⟨j, hj, hz, hh⟩
    by_cases e : j = d
    · subst e; rw [updL_same] at hh; exact .inl ⟨id, hid, hz0, hl b o hh⟩
    · rw [updL_other m l e] at hh
      rw [getBox_cons, if_neg (fun q => e q.symm)] at hj
      exact .inl ⟨j, ((hp j).1 hj).2, hz, hh⟩
  refine h.upd hfr (fun b o q => ⟨id, hid, hz0, q⟩) hownZ rfl (fun j hj => hpres j ((hp j).2 ⟨fun e => (by subst e; rw [hz0] at hj; cases hj), h.zk j hj⟩)) ?_ ?_ ?_ ?_ ?_ ?_ ?_
  · simp only [keys, List.map_cons, List.nodup_cons]; exact ⟨getBox_none.1 hd, (h.kill hid hzi).nd⟩
  · intro i
    refine Rel1.maps (m := m) (fun j hj => updL_other m l (hne j (hwt i j hj))) ?_
    show Rel1 m w' _ ((s.kill id).tmp i) _
    rw [htmp]
    exact ((h.tmps i).map hL (killLeaf_imm id) (killLeaf_tup id)).mono hk
  · exact fun i j hj => hpres j (hwt i j hj)
  · intro j b hj k hk'
    rw [getBox_cons] at hj
    by_cases e : d = j
    · rw [if_pos e] at hj; obtain rfl := Option.some.inj hj; rw [hids] at hk'; cases hk'
    · rw [if_neg e] at hj; exact hpres k (hwh j b hj k hk')
  · intro j b hj
    rw [getBox_cons] at hj
    by_cases e : d = j
    · subst e; rw [if_pos rfl] at hj; obtain rfl := Option.some.inj hj; exact hbx hk
    · rw [if_neg e] at hj
      have hj0 : getBox j (s.kill id).h ≠ none := by rw [hj]; simp
      obtain ⟨hji, hj1⟩ := (hp j).1 hj0
      have hwk := hwh j b hj
      rw [hg, if_neg hji] at hj
      simp only [Option.map_eq_some_iff] at hj
      obtain ⟨b0, hb0, rfl⟩ := hj
      refine BRel.keep ((h.box j b0 hb0).map hL (killLeaf_fits id) (Keep.refl _ _)) hk (updL_other m l (hne j hj0)) (fun k hk' => updL_other m l (hne k (hwk k hk'))) (fun c' o' hh => ?_) fun c' q' hc => hfr.block c' (h.own_lt ⟨j, hj1, (by rw [hc]; exact .inl rfl : (m j).has c' 0)⟩) fun o' => h.disj j id hji hj1 hid c' o' (by rw [hc]; exact .inl rfl)
      have hlt := h.own_lt ⟨j, hj1, hh⟩
      exact ⟨hfr.cell c' o' hlt (h.disj j id hji hj1 hid c' o' hh), hfr.frozen c' o' hlt⟩
  · intro i j hij hi hj b o' hh hh'
    rw [getBox_cons] at hi hj
    by_cases e : i = d
    · subst e
      have hji : j ≠ i := fun q => hij q.symm
      rw [updL_same] at hh
      rw [updL_other m l hji] at hh'
      rw [if_neg hij] at hj
      obtain ⟨q1, q2⟩ := (hp j).1 hj
      exact h.disj id j (fun q => q1 q.symm) hid q2 b o' (hl b o' hh) hh'
    · rw [updL_other m l e] at hh
      rw [if_neg (fun q => e q.symm)] at hi
      obtain ⟨q1, q2⟩ := (hp i).1 hi
      by_cases e' : j = d
      · subst e'
        rw [updL_same] at hh'
        exact h.disj i id q1 q2 hid b o' hh (hl b o' hh')
      · rw [updL_other m l e'] at hh'
        rw [if_neg (fun q => e' q.symm)] at hj
        obtain ⟨q3, q4⟩ := (hp j).1 hj
        exact h.disj i j hij q2 q4 b o' hh hh'
  · intro j hj hn
    have e : j ≠ d := fun e => by subst e; rw [hfree.2, hdz] at hn; cases hn
    rw [getBox_cons, if_neg (fun q => e q.symm)] at hj
    exact ⟨((hp j).1 hj).2, by rw [updL_other m l e], fun _ => updL_other m l e⟩
theorem appTo_ok {e : Sh} {v : V} {x : Value} {b : Bool} {xs : List Eng.P} {id : Option Nat} {mp : Bool} (h : R0 X S0 w0 N m s tm w) (hv : Rel1 m w (Fb X m s.h) v x) (hg : appTo s e v = some (b, xs, id, mp)) :
    ∃ (A : Option Addr) (cap : Nat), x = .slice A xs.length cap ∧ b = A.isNone ∧
      ((id = none ∧ xs = [] ∧ cap = 0 ∧ (mp = false → A = none)) ∨ ∃ i al, A = adr al ∧ mp = false ∧ id = some i ∧ memB i s.z = false ∧ getBox i s.h ≠ none ∧ m i = .arr al xs.length cap e ∧ xs.length ≤ cap ∧ (al = none → cap = 0) ∧ ∀ bb o, al = some (bb, o) → ArrRel w (Fb X m s.h) e xs bb o cap) := by
  unfold appTo at hg
  split at hg
  · split at hg
    · obtain ⟨rfl, rfl, rfl, rfl⟩ : true = b ∧ ([] : List Eng.P) = xs ∧ none = id ∧ false = mp := by simpa using hg
      obtain ⟨al, ys, cap, e1, h2, h3, h4, _⟩ := (rel_imm rfl).1 hv
      injection e1 with e1 e2
      subst e2
      injection h2 with h2
      have hal : al = none := by cases al <;> simp at e1 ⊢
      subst hal
      exact ⟨none, cap, h2, rfl, .inl ⟨rfl, rfl, h4 rfl, fun _ => rfl⟩⟩
    · cases hg
  · obtain ⟨rfl, rfl, rfl, rfl⟩ : true = b ∧ ([] : List Eng.P) = xs ∧ none = id ∧ false = mp := by simpa using hg
    have := (rel_sc (by simp) (by simp) rfl).1 hv
    simp only [RelV, List.cons.injEq, and_true] at this
    exact ⟨none, 0, this, rfl, .inl ⟨rfl, rfl, rfl, fun _ => rfl⟩⟩
  · rename_i e' b'
    split at hg
    · obtain ⟨rfl, rfl, rfl, rfl⟩ : b' = b ∧ ([] : List Eng.P) = xs ∧ none = id ∧ true = mp := by simpa using hg
      obtain ⟨al, e1, e2⟩ := (rel_sc (by simp) (by simp) rfl).1 hv
      injection e1 with e1
      exact ⟨al, 0, e1, e2, .inl ⟨rfl, rfl, rfl, fun h0 => by cases h0⟩⟩
    · cases hg
  · rename_i i e'
    split at hg
    · rename_i hb
      rw [Bool.and_eq_true] at hb
      obtain ⟨hb, hzi⟩ := hb
      have hzi : memB i s.z = false := by simpa using hzi
      have := Sh.beq_eq hb; subst this
      split at hg
      · rename_i e0 b0 xs0 hbx
        obtain ⟨rfl, rfl, rfl, rfl⟩ : b0 = b ∧ xs0 = xs ∧ some i = id ∧ false = mp := by simpa using hg
        obtain ⟨al, len, cap, g1, rfl⟩ := rel_slf.1 hv
        obtain ⟨a1, c1, q1, q2, q3, q4, q5⟩ := h.box _ _ hbx
        rw [g1] at q1
        injection q1 with z1 z2 z3 z4
        subst z1; subst z2; subst z3; subst z4
        exact ⟨adr al, cap, rfl, by rw [adr_none]; exact q2, .inr ⟨i, al, rfl, rfl, rfl, hzi, by rw [hbx]; simp, g1, q3, q4, q5⟩⟩
      · cases hg
    · cases hg
  · cases hg
theorem two_blocks {F : Cells} {e : Sh} {xs ys : List Eng.P} {A B Z : List Value} (hA : A.length = xs.length * e.size) (hB : B.length = ys.length * e.size)
    (rA : ∀ i, i < xs.length → Rep w F e (rd xs i) ((A.drop (i * e.size)).take e.size)) (rB : ∀ i, i < ys.length → Rep w F e (rd ys i) ((B.drop (i * e.size)).take e.size)) :
    ∀ i, i < (xs ++ ys).length → Rep w F e (rd (xs ++ ys) i) (((A ++ B ++ Z).drop (i * e.size)).take e.size) := by
  intro i hi
  rw [List.length_append] at hi
  rcases Nat.lt_or_ge i xs.length with q | q
  · have hle : (i + 1) * e.size ≤ xs.length * e.size := Nat.mul_le_mul_right _ (by omega)
    have hs : (i + 1) * e.size = i * e.size + e.size := Nat.succ_mul _ _
    rw [List.append_assoc, List.drop_append_of_le_length (by omega), List.take_append_of_le_length (by rw [List.length_drop]; omega)]
    have : rd (xs ++ ys) i = rd xs i := by simp only [rd, List.getD_eq_getElem?_getD, List.getElem?_append_left q]
    rw [this]; exact rA i q
  · have hj : i - xs.length < ys.length := by omega
    have hle : (i - xs.length + 1) * e.size ≤ ys.length * e.size := Nat.mul_le_mul_right _ (by omega)
    have hs : (i - xs.length + 1) * e.size = (i - xs.length) * e.size + e.size := Nat.succ_mul _ _
    have hi' : i * e.size = A.length + (i - xs.length) * e.size := by rw [hA, ← Nat.add_mul]; congr 1; omega
    rw [List.append_assoc, hi', ← List.drop_drop, List.drop_left, List.drop_append_of_le_length (by omega), List.take_append_of_le_length (by rw [List.length_drop]; omega)]
    have : rd (xs ++ ys) i = rd ys (i - xs.length) := by simp only [rd, List.getD_eq_getElem?_getD, List.getElem?_append_right q]
    rw [this]; exact rB _ hj
theorem size_zeroCells' (z : Array Value) (n : Nat) : (Builtin.zeroCells z n).size = n * z.size := by simp [Builtin.zeroCells]
theorem grownCap_ge' (w : World) (need : Nat) (old : Nat) (e : TypeId) : need ≤ grownCap w need old e := by simp [grownCap, Question.cut]
theorem grownCap_cells {z : Value} {A C : List Value} {n cap es : Nat} (hz : z.cells.size = es) (hA : A.length + C.length = n * es) (hc : n ≤ cap) : (A.toArray ++ C.toArray ++ Builtin.zeroCells z.cells (cap - n)).size = cap * es := by
  simp only [Array.size_append, List.size_toArray, size_zeroCells', hz]
  have : cap = n + (cap - n) := by omega
  calc A.length + C.length + (cap - n) * es = n * es + (cap - n) * es := by rw [hA]
    _ = (n + (cap - n)) * es := (Nat.add_mul _ _ _).symm
    _ = cap * es := by rw [← this]
theorem op_append {cl : Call} {x y : Operand} {t t' : TypeId} {ts : List TypeId} {d : Nat} {dd : TypeDesc} (ho : o.op = .call cl) (h1 : cl.callee = .builtin .append) (h2 : cl.args.toList = [x, y]) (h3 : cl.argTypes.toList = t :: t' :: ts)
    (hu' : c.p.underlying t' = some dd) (hdd : (∃ e, dd = .slice e) ∨ dd = .string)
    (he : evAppend c s d t (s.ev x) (s.ev y) k = some r) (h : R0 X S0 w0 c.n m s a.tmps w)
    (hK : HK X S0 w0 c.n a.tmps k r (fun v w' => K (a.put o.dst v) w')) : o.wp c.p a w K Q := by
  have ha : cl.args = #[x, y] := by apply Array.ext'; simpa using h2
  have ht0 : cl.argTypes[0]? = some t := by rw [← Array.getElem?_toList, h3]; rfl
  have ht1 : cl.argTypes[1]? = some t' := by rw [← Array.getElem?_toList, h3]; rfl
  have fin : ∀ (v : Value) (w' : World), (Builtin.append_ cl.argTypes o.type #[a.eval x, a.eval y]).run c.p w = .ok v w' → (execOp a.eval o).run c.p w = .ok (.value v) w' := by
    intro v w' hr
    simp [execOp, ho, resolve, h1, ha, invoke, builtin, hr]
  unfold evAppend at he
  split at he
  · rename_i e bytes hsh hby
    split at he
    · rename_i ys b xs id mp hys hto
      obtain ⟨te, n', hu, hte⟩ := shOf_slice hsh
      obtain ⟨i, z, i1, i2, i3, i4, i5, i6⟩ := bytes_ty hu hby hte
      obtain ⟨C, hC⟩ := appArg_ok (P := c.p) h (ev_rel h y) hys
      obtain ⟨al0, cap, hvx, hb, hcase⟩ := appTo_ok h (ev_rel h x) hto
      cases hme : (mp && ys.isEmpty) with
      | true =>
        rw [hme, cond_true] at he
        simp only [Bool.and_eq_true, List.isEmpty_iff] at hme
        obtain ⟨rfl, rfl⟩ := hme
        rcases hcase with ⟨rfl, rfl, rfl, _⟩ | ⟨_, _, _, hf, _⟩
        · have hC0 : C = [] := List.eq_nil_of_length_eq_zero (by rw [hC.len]; simp)
          subst hC0
          have hrun := run_app_room (P := c.p) (w := w) (w' := w) (ty := o.type) (base := al0) (sLen := 0) (sCap := 0) (n := 0) (y := a.eval y) (news := []) ht0 ht1 hu hu' hdd i1 (fun W => by simpa using hC.lenOf W) (by rw [i3]; simpa using hC.cells w (fun _ _ => rfl)) (Nat.le_refl _) (fun ad _ => rfl) (fun _ => rfl)
          refine wp_val (v := .slice al0 0 0) (w' := w) (fin _ _ (by rw [hvx]; simpa using hrun)) (hK _ s m _ w he h ((rel_imm rfl).2 ⟨al0, [], 0, by rw [hb], rfl, Nat.le_refl _, fun _ => rfl, fun i hi => absurd hi (by simp)⟩) (fun i hi => by cases hi))
        · cases hf
      | false =>
      rw [hme, cond_false] at he
      replace he := cond_some he
      obtain ⟨hc, he⟩ := he
      simp only [Bool.and_eq_true, Nat.blt_eq] at hc
      obtain ⟨hc1, hc2⟩ := hc
      have hc2 := of_decide_eq_true hc2
      split at he
      · rename_i s' hs'
        obtain ⟨hid, rfl⟩ := add_some hs'
        have hzl : z.cells.size = e.size := by have := (i6 w (fun _ _ => False)).len; simpa using this
        have hfitG : ∀ old, old < xs.length + ys.length → Builtin.nextslicecap (xs.length + ys.length) old * i.bytes ≤ 281474976710656 := fun old ho' => growslice_fits ho' (by rw [i2]; exact hc2)
        have hdr : ∀ b o, w.drew.cell? (mkA b o) = w.cell? (mkA b o) := fun b o => rfl
        have hgc := grownCap_ge' w (xs.length + ys.length)
        rcases hcase with ⟨rfl, rfl, rfl, hmp⟩ | ⟨id', al, rfl, hmp, rfl, hzi, hpres, hm, hle, hnn, harr⟩
        · -- nothing used up
          simp only [killO] at he hid
          by_cases hn : ys.length = 0
          · have hys0 : ys = [] := List.eq_nil_of_length_eq_zero hn
            subst hys0
            have hC0 : C = [] := List.eq_nil_of_length_eq_zero (by rw [hC.len]; simp)
            subst hC0
            have hal0 : al0 = none := hmp (by simpa using hme)
            subst hal0
            obtain ⟨g1, g2⟩ := add_nil (e := e) h hid none
            have hrun := run_app_room (P := c.p) (w := w) (w' := w) (ty := o.type) (base := adr none) (sLen := 0) (sCap := 0) (n := 0) (y := a.eval y) (news := []) ht0 ht1 hu hu' hdd i1 (fun W => by simpa using hC.lenOf W) (by rw [i3]; simpa using hC.cells w (fun _ _ => rfl)) (Nat.le_refl _) (fun ad _ => rfl) (fun _ => rfl)
            refine wp_val (v := .slice (adr none) 0 0) (w' := w) (fin _ _ (by rw [hvx]; simpa [adr] using hrun)) (hK _ _ _ _ _ (by simpa [hb] using he) g1 (g2 _) (fun i hi => by simp [V.ids] at hi; subst hi; simp [getBox_cons]))
          · obtain ⟨g1, g2⟩ := add_arr (te := te) (cs := ([] : List Value).toArray ++ C.toArray ++ Builtin.zeroCells z.cells (grownCap w (0 + ys.length) 0 te - (0 + ys.length))) (xs := [] ++ ys) (cap := grownCap w (0 + ys.length) 0 te) (w1 := w.drew) h hid ((Below.refl _ w).drew) (Nat.le_succ _) rfl
              (by have := hgc 0 te; simpa using this) (grownCap_cells hzl (by simp [hC.len]) (by have := hgc 0 te; simpa using this)) (by
                have := two_blocks (w := w) (F := Fb X m s.h) (e := e) (xs := []) (ys := ys) (A := []) (B := C) (Z := (Builtin.zeroCells z.cells (grownCap w (0 + ys.length) 0 te - (0 + ys.length))).toList) (by simp) hC.len (fun i hi => absurd hi (by simp)) hC.rep
                simpa using this)
            have hrun := run_app_grow (P := c.p) (w := w) (ty := o.type) (base := al0) (sLen := 0) (sCap := 0) (n := ys.length) (y := a.eval y) (news := C) (olds := []) ht0 ht1 hu hu' hdd i1 i4 hC.lenOf (by rw [i3]; exact hC.cells w.drew hdr)
              (by cases al0 <;> simp [Builtin.firstCells, loadCells, loadCellsFrom]) (by omega) (by omega) (by have := hfitG 0 (by simp; omega); simpa using this)
            have hemp : (b && ys.isEmpty) = false := by cases ys with | nil => simp at hn | cons _ _ => simp
            rw [hemp] at he
            refine wp_val (fin _ _ (by rw [hvx]; exact hrun)) (hK _ _ _ _ _ he g1 (by have := g2 (Fb X (updL m d (.arr (some (w.heap.size, 0)) ([] ++ ys).length (grownCap w (0 + ys.length) 0 te) e)) ((d, .arr e false ([] ++ ys)) :: s.h)); simpa using this) (fun i hi => by simp [V.ids] at hi; subst hi; simp [getBox_cons]))
        · -- a box is used up
          simp only [killO] at he hid
          have hk1 := h.kill hpres hzi
          by_cases hroom : xs.length + ys.length ≤ cap
          · cases al with
            | none =>
              have hcap := hnn rfl
              have hx0 : xs = [] := List.eq_nil_of_length_eq_zero (by omega)
              have hy0 : ys = [] := List.eq_nil_of_length_eq_zero (by omega)
              subst hx0; subst hy0; subst hcap
              have hC0 : C = [] := List.eq_nil_of_length_eq_zero (by rw [hC.len]; simp)
              subst hC0
              obtain ⟨g1, g2⟩ := add_nil (e := e) hk1 hid none
              have hrun := run_app_room (P := c.p) (w := w) (w' := w) (ty := o.type) (base := adr none) (sLen := 0) (sCap := 0) (n := 0) (y := a.eval y) (news := []) ht0 ht1 hu hu' hdd i1 (fun W => by simpa using hC.lenOf W) (by rw [i3]; simpa using hC.cells w (fun _ _ => rfl)) (Nat.le_refl _) (fun ad e1 => by cases e1) (fun _ => rfl)
              refine wp_val (v := .slice (adr none) 0 0) (w' := w) (fin _ _ (by rw [hvx]; simpa using hrun)) (hK _ _ _ _ _ (by simpa [hb, adr] using he) g1 (g2 _) (fun i hi => by simp [V.ids] at hi; subst hi; simp [getBox_cons]))
            | some zz =>
              obtain ⟨bb, o'⟩ := zz
              obtain ⟨r1, r2⟩ := harr bb o' rfl
              have hfit : xs.length * e.size + C.length ≤ cap * e.size := by rw [hC.len, ← Nat.add_mul]; exact Nat.mul_le_mul_right _ hroom
              have hcells : ∀ j, j < C.length → ∃ u1, w.cell? (mkA bb (o' + xs.length * e.size + j)) = some u1 ∧ w.frozen? (mkA bb (o' + xs.length * e.size + j)) = false := by
                intro j hj
                obtain ⟨u1, q1, q2⟩ := r2 (xs.length * e.size + j) (by omega)
                rw [← Nat.add_assoc] at q1 q2
                exact ⟨u1, q1, q2⟩
              have hst := run_storeCells_cells (P := c.p) bb (o' + xs.length * e.size) C 0 w (fun j hj => by obtain ⟨u1, q1, _⟩ := hcells j hj; rw [Nat.add_zero]; exact Option.isSome_iff_exists.2 ⟨u1, q1⟩) (fun j hj => by obtain ⟨u1, _, q1⟩ := hcells j hj; rw [Nat.add_zero]; exact q1) hC.one
              rw [Nat.add_zero] at hst
              have hrun := run_app_room (P := c.p) (w := w) (w' := w.setCells bb (o' + xs.length * e.size) C) (ty := o.type) (base := adr (some (bb, o'))) (sLen := xs.length) (sCap := cap) (n := ys.length) (y := a.eval y) (news := C) ht0 ht1 hu hu' hdd i1 hC.lenOf (by rw [i3]; exact hC.cells w (fun _ _ => rfl)) hroom
                (fun ad e1 => by
                  have : ad = mkA bb o' := by simpa [adr] using e1.symm
                  subst this
                  rw [mkA_add, i3]; exact hst) (fun e1 => by simp [adr] at e1)
              have hfr := setCells_fr (K0 := S0.dk) (w := w) (b := bb) (o := o' + xs.length * e.size) (vs := C) (fun j hj => by obtain ⟨u1, hu1, _⟩ := hcells j hj; exact Option.isSome_iff_exists.2 ⟨u1, hu1⟩)
              have hsto := setCells_sto hcells
              have hbf : (b && ys.isEmpty) = false := by rw [hb]; rfl
              rw [hbf] at he
              have hR := R0.readd (l := .arr (some (bb, o')) (xs ++ ys).length cap e) (bx := .arr e false (xs ++ ys)) h hpres hzi hid (hfr.mono fun b' j _ hh => by rw [hm]; obtain ⟨rfl, q1, q2⟩ := hh; exact ⟨rfl, by omega, by omega⟩) (fun b' j hh => by rw [hm]; exact hh) rfl (fun hk => by
                refine ⟨some (bb, o'), cap, updL_same _ _ _, rfl, by rw [List.length_append]; exact hroom, fun e1 => (by cases e1), fun b' o2 hbo => ?_⟩
                injection hbo with hbo; injection hbo with e1 e2; subst e1; subst e2
                refine ⟨fun j hj => ?_, fun j hj => ?_⟩
                · rw [List.length_append] at hj
                  rcases Nat.lt_or_ge j xs.length with q | q
                  · obtain ⟨c1, p1, p2⟩ := r1 j q
                    have : rd (xs ++ ys) j = rd xs j := by simp only [rd, List.getD_eq_getElem?_getD, List.getElem?_append_left q]
                    rw [this]
                    refine ⟨c1, p1.mono hk, fun l u1 hl => ?_⟩
                    obtain ⟨z1, z2⟩ := p2 l u1 hl
                    have hlt := cell_lt z1
                    have hll : l < e.size := by
                      have := p1.len
                      rcases Nat.lt_or_ge l c1.length with q' | q'
                      · omega
                      · rw [List.getElem?_eq_none q'] at hl; cases hl
                    have hle1 : (j + 1) * e.size ≤ xs.length * e.size := Nat.mul_le_mul_right _ (by omega)
                    have hs1 : (j + 1) * e.size = j * e.size + e.size := Nat.succ_mul _ _
                    exact ⟨(hfr.cell bb _ hlt (by rintro ⟨_, t1, _⟩; omega)).trans z1, (hfr.frozen bb _ hlt).trans z2⟩
                  · have : rd (xs ++ ys) j = rd ys (j - xs.length) := by simp only [rd, List.getD_eq_getElem?_getD, List.getElem?_append_right q]
                    rw [this]
                    refine ⟨_, (hC.rep (j - xs.length) (by omega)).mono hk, fun l u1 hl => ?_⟩
                    have hll : l < e.size := by
                      rcases Nat.lt_or_ge l e.size with q' | q'
                      · exact q'
                      · rw [List.getElem?_eq_none (by simp; omega)] at hl; cases hl
                    rw [List.getElem?_take_of_lt hll, List.getElem?_drop] at hl
                    have := hsto _ _ hl
                    have e3 : o' + xs.length * e.size + ((j - xs.length) * e.size + l) = o' + j * e.size + l := by
                      have : j * e.size = xs.length * e.size + (j - xs.length) * e.size := by rw [← Nat.add_mul]; congr 1; omega
                      omega
                    rw [e3] at this
                    exact this
                · obtain ⟨u1, z1, z2⟩ := r2 j hj
                  have hlt := cell_lt z1
                  have := hfr.there bb (o' + j) hlt
                  rw [z1] at this
                  obtain ⟨u2, hu2⟩ := Option.isSome_iff_exists.1 (by simpa using this)
                  exact ⟨u2, hu2, (hfr.frozen bb _ hlt).trans z2⟩)
              refine wp_val (fin _ _ (by rw [hvx]; exact hrun)) (hK _ _ _ _ _ he hR (rel_slf.2 ⟨some (bb, o'), _, cap, updL_same _ _ _, by rw [List.length_append]⟩) (fun i hi => by simp [V.ids] at hi; subst hi; simp [getBox_cons]))
          · -- a new block
            obtain ⟨A, hA⟩ := appArg_ok (P := c.p) (e := e) (v := s.ev x) (y := a.eval x) (ys := xs) h (ev_rel h x) (by
              unfold appTo at hto
              split at hto
              · split at hto <;> simp at hto
              · simp at hto
              · split at hto <;> simp at hto
              · rename_i i0 e0 hev
                split at hto
                · rename_i hbq
                  split at hto
                  · rename_i e1 b1 xs1 hbx
                    obtain ⟨_, rfl, rfl, _⟩ : b1 = b ∧ xs1 = xs ∧ i0 = id' ∧ mp = false := by simpa using hto
                    rw [hev]
                    rw [Bool.and_eq_true] at hbq
                    simp [appArg, lst, hbx, hbq.1]
                  · cases hto
                · cases hto
              · cases hto)
            have hF1 : Fb X m (s.kill id').h = Fb X m (delBox id' s.h) := Fb_drop h _
            have hkd := keep_drop h id'
            rw [← hF1] at hkd
            obtain ⟨g1, g2⟩ := add_arr (te := te) (cs := A.toArray ++ C.toArray ++ Builtin.zeroCells z.cells (grownCap w (xs.length + ys.length) cap te - (xs.length + ys.length))) (xs := xs ++ ys) (cap := grownCap w (xs.length + ys.length) cap te) (w1 := w.drew) hk1 hid ((Below.refl _ w).drew) (Nat.le_succ _) rfl
              (by rw [List.length_append]; exact hgc cap te) (grownCap_cells hzl (by rw [hA.len, hC.len, Nat.add_mul]) (hgc cap te)) (by
                have := two_blocks (w := w) (F := Fb X m (s.kill id').h) (e := e) (xs := xs) (ys := ys) (A := A) (B := C) (Z := (Builtin.zeroCells z.cells (grownCap w (xs.length + ys.length) cap te - (xs.length + ys.length))).toList) hA.len hC.len (fun i hi => (hA.rep i hi).mono hkd) (fun i hi => (hC.rep i hi).mono hkd)
                simpa using this)
            have hrun := run_app_grow (P := c.p) (w := w) (ty := o.type) (base := adr al) (sLen := xs.length) (sCap := cap) (n := ys.length) (y := a.eval y) (news := C) (olds := A) ht0 ht1 hu hu' hdd i1 i4 hC.lenOf (by rw [i3]; exact hC.cells w.drew hdr)
              (by rw [i3, ← hvx]; exact hA.cells w.drew hdr) (by omega) (by omega) (hfitG cap (by omega))
            have hbf : (b && ys.isEmpty) = false := by
              cases ys with
              | nil => simp at hroom; omega
              | cons _ _ => simp
            rw [hbf] at he
            refine wp_val (fin _ _ (by rw [hvx]; exact hrun)) (hK _ _ _ _ _ he g1 (by have := g2 (Fb X (updL m d (.arr (some (w.heap.size, 0)) (xs ++ ys).length (grownCap w (xs.length + ys.length) cap te) e)) ((d, .arr e false (xs ++ ys)) :: (s.kill id').h)); simpa using this) (fun i hi => by simp [V.ids] at hi; subst hi; simp [getBox_cons]))
      · cases he
    · cases he
  · cases he
end
end Go.Eng
end
/-! A call's border: what is told there, and what it says of memory. Conditions: none. -/
section
set_option linter.unusedVariables false
set_option linter.unusedSimpArgs false
namespace Go.Eng
open Go.RowKit

/-- Cells that go together. -/
abbrev Rng := Cells
def Rng.has (r : Rng) (b o : Nat) : Prop := r b o
/-- Some cells of a block. -/
def rgN (b o n : Nat) : Rng := fun c i => c = b ∧ o ≤ i ∧ i < o + n
def inRs (R : List Rng) : Cells := fun b o => ∃ r ∈ R, r.has b o
def Loc.rng : Loc → List Rng
  | .obj b o s => [rgN b o s.size]
  | .arr (some (b, o)) _ cap e => [rgN b o (cap * e.size)]
  | .arr none _ _ _ => []
  | .blk b q => [fun c i => c = b ∨ ∃ n, q.T n c i]
theorem has_rng (l : Loc) (b o : Nat) : l.has b o ↔ inRs l.rng b o := by
  cases l with
  | obj b' o' s => simp [Loc.has, Loc.rng, inRs, Rng.has, rgN]
  | arr a l c e => cases a <;> simp [Loc.has, Loc.rng, inRs, Rng.has, rgN]
  | blk b' q => simp [Loc.has, Loc.rng, inRs, Rng.has]
def Dj (R : List Rng) : Prop := R.Pairwise fun r q => ∀ b o, r.has b o → ¬ q.has b o
theorem inRs_append {R Q : List Rng} {b o : Nat} : inRs (R ++ Q) b o ↔ inRs R b o ∨ inRs Q b o := by
  simp only [inRs, List.mem_append]
  constructor
  · rintro ⟨r, h | h, g⟩
    · exact .inl ⟨r, h, g⟩
    · exact .inr ⟨r, h, g⟩
  · rintro (⟨r, h, g⟩ | ⟨r, h, g⟩)
    · exact ⟨r, .inl h, g⟩
    · exact ⟨r, .inr h, g⟩

def T.isAgg : T → Bool
  | .imm s _ => s.isAgg
  | .pair _ _ => true
  | _ => false
def T.fits : T → Sh → Bool
  | .imm s _, t => s.beq t
  | .pair a b, .pair s t => a.fits s && b.fits t
  | .own _ e _ _, .slice t => e.beq t
  | .ali _, .slice _ | .alw _ _ _, .slice _ => true
  | .blk _ (.mp _ _) _, .map | .abk _ (.mp _ _), .map => true
  | .blk _ (.mt _ _) _, .map | .abk _ (.mt _ _), .map => true
  | .blk _ (.at e) _, .slice t | .abk _ (.at e), .slice t => e.beq t
  | .pel _ _ _ _, .ptr | .box _ _ _, .ptr | .iptr _ _, .ptr | .ref _ _ _, .ptr => true
  | .fn _ _, .fn => true
  | .u, s => !s.isAgg
  | _, _ => false
/-- The cells hold what is told; `R`: the ranges that go with it; `ml`: the places of the boxes that have names. -/
def TRel (ml : Lm) (w : World) (F : Cells) : T → List Value → List Rng → Prop
  | .u, cs, R => (∃ v, cs = [v]) ∧ R = []
  | .imm s p, cs, R => Rep w F s p cs ∧ R = []
  | .iptr s p, cs, R => (∃ b o c, cs = [.pointer (some (mkA b o))] ∧ Rep w F s p c ∧ Seg w F b o c) ∧ R = []
  | .own l e nil xs, cs, R => ∃ a cap, cs = [.slice (adr a) xs.length cap] ∧ (l ≠ 0 → ml l = .arr a xs.length cap e) ∧ nil = a.isNone ∧ xs.length ≤ cap ∧ (a = none → cap = 0) ∧
      (∀ b o, a = some (b, o) → ArrRel w F e xs b o cap) ∧ R = (Loc.arr a xs.length cap e).rng
  | .box l s t, cs, R => ∃ b o ds Q, cs = [.pointer (some (mkA b o))] ∧ (l ≠ 0 → ml l = .obj b o s) ∧ TRel ml w F t ds Q ∧ ds.length = s.size ∧ Sto w b o ds ∧ R = rgN b o s.size :: Q
  | .ref l path sh, cs, R => (∃ v, cs = [v] ∧ (l ≠ 0 → addrOf (ml l) path sh v)) ∧ R = []
  | .ali l, cs, R => (∃ v, cs = [v] ∧ (l ≠ 0 → ∃ a len cap e, ml l = .arr a len cap e ∧ v = .slice (adr a) len cap)) ∧ R = []
  | .alw l lo n, cs, R => (∃ v, cs = [v] ∧ (l ≠ 0 → ∃ (a : Option (Nat × Nat)) (len cap : Nat) (e : Sh) (a' : Option (Nat × Nat)) (cap' : Nat), ml l = .arr a len cap e ∧ lo + n ≤ len ∧ n ≤ cap' ∧ lo + cap' ≤ cap ∧ v = .slice (adr a') n cap' ∧ a'.isNone = a.isNone ∧
      (0 < cap' → a' = a.map fun x => (x.1, x.2 + lo * e.size)))) ∧ R = []
  | .blk l k p, cs, R => ∃ b q, cs = [k.val b q] ∧ (l ≠ 0 → (ml l).fix = (Loc.blk b q).fix) ∧ b < w.heap.size ∧ BkRel w F k p b q ∧ k.okL q ∧ R = (Loc.blk b q).rng
  | .abk l k, cs, R => (∃ v, cs = [v] ∧ (l ≠ 0 → ∃ b q, ml l = .blk b q ∧ v = k.val b q ∧ k.okL q)) ∧ R = []
  | .pel l e j p, cs, R => ∃ b q v, cs = [v] ∧ addrOf (.blk b q) [.i j] e v ∧ (l ≠ 0 → (ml l).fix = (Loc.blk b q).fix) ∧ b < w.heap.size ∧ BkRel w F (.at e) p b q ∧ (Bk.at e).okL q ∧ R = (Loc.blk b q).rng
  | .fn f t, cs, R => ∃ caps, cs = [.func (.func f) #[] caps] ∧ TRel ml w F t caps.toList R
  | .pair a b, cs, R => ∃ c d Q S, cs = c ++ d ∧ R = Q ++ S ∧ TRel ml w F a c Q ∧ TRel ml w F b d S
/-- The same of a whole value. -/
def TRel1 (ml : Lm) (w : World) (F : Cells) (t : T) (v : Value) (R : List Rng) : Prop :=
  match t with
  | .u => R = []
  | t => if t.isAgg then ∃ cs, v = .agg cs ∧ TRel ml w F t cs.toList R else TRel ml w F t [v] R
def TRelL (ml : Lm) (w : World) (F : Cells) : List T → List Value → List Rng → Prop
  | [], vs, R => vs = [] ∧ R = []
  | t :: r, vs, R => ∃ v q Q S, vs = v :: q ∧ R = Q ++ S ∧ TRel1 ml w F t v Q ∧ TRelL ml w F r q S
/-- The result of a call out of the results. -/
def retV (vs : List Value) : Value := match vs with | [v] => v | vs => .tuple vs.toArray

/-- A call of f: it enters a function, or is reckoned here and now. -/
def CallsV (P : Program) (f : FuncId) (args : Array Value) (w : World) (R : Ending → World → Prop) : Prop :=
  (∃ g, (callFunc f args).run P w = .ok (.enter g args) w ∧ Calls P g args w R) ∨ ∃ v w', (callFunc f args).run P w = .ok (.value v) w' ∧ R (.returned v) w'
/-- WHAT A CALL DOES: told `args`, it tells `ret`, and of the arguments afterwards `args'`. -/
def Sim (K : Par) (P : Program) (f : FuncId) (args ret args' : List T) : Prop :=
  ∀ (X : Cells) (ml : Lm) (w : World) (cargs : List Value) (R : List Rng),
    TRelL ml w (fun b o => X b o ∨ inRs R b o) args cargs R → Dj R → (∀ b o, inRs R b o → ¬ X b o) → (∀ b o, X b o → b < w.heap.size) → TabOk K X w →
    CallsV P f cargs.toArray w fun e w' => ∃ vs R', e = .returned (retV vs) ∧ Fr K w.heap.size (inRs R) w w' ∧
      TRelL ml w' (fun b o => X b o ∨ inRs R' b o) (ret ++ args') (vs ++ cargs) R' ∧ Dj R' ∧ (∀ b o, inRs R' b o → inRs R b o ∨ w.heap.size ≤ b) ∧ vs.length = ret.length
def Good (K : Par) (P : Program) (E : Env) : Prop :=
  ∀ f args e, E f args = some e → ∀ x, e.val = some x → ∀ g, e.res[x.1]? = some g → Sim K P f args (g x.2).ret (g x.2).args
theorem altR_some {R : Type} : ∀ (l : List (List P → Res)) (i : Nat) {y : Nat × List P} {k : Res → Option R} {r : R}, altR l i y k = some r → ∃ g, i ≤ y.1 ∧ l[y.1 - i]? = some g ∧ k (g y.2) = some r
  | [], i, y, k, r, h => by cases h
  | f :: q, i, y, k, r, h => by
    simp only [altR] at h
    cases hb : Nat.beq y.1 i with
    | true =>
      rw [hb, cond_true] at h
      have e := beq_iff.1 hb
      exact ⟨f, by omega, by rw [e]; simp, h⟩
    | false =>
      rw [hb, cond_false] at h
      obtain ⟨g, h1, h2, h3⟩ := altR_some q (i + 1) h
      refine ⟨g, by omega, ?_, h3⟩
      rw [show y.1 - i = (y.1 - (i + 1)) + 1 by omega]; simpa using h2

theorem TRel.mono {ml : Lm} {w w' : World} {F F' : Cells} (hk : Keep w F w' F') : ∀ (t : T) (cs : List Value) (R : List Rng), TRel ml w F t cs R → (∀ b o, inRs R b o → w'.cell? (mkA b o) = w.cell? (mkA b o) ∧ w'.frozen? (mkA b o) = w.frozen? (mkA b o)) → (∀ b, (∀ o, inRs R b o) → w'.heap[b]? = w.heap[b]?) → TRel ml w' F' t cs R
  | .u, _, _, h, _, _ => h
  | .imm s p, _, _, ⟨h, e⟩, _, _ => ⟨h.mono hk, e⟩
  | .iptr s p, _, _, ⟨⟨b, o, c, h1, h2, h3⟩, e⟩, _, _ => ⟨⟨b, o, c, h1, h2.mono hk, h3.mono hk⟩, e⟩
  | .ref _ _ _, _, _, h, _, _ => h
  | .ali _, _, _, h, _, _ => h
  | .alw _ _ _, _, _, h, _, _ => h
  | .abk _ _, _, _, h, _, _ => h
  | .blk l k p, _, _, ⟨b, q, h1, h2, hlt, h3, hq, h4⟩, hc, hb => by
    have hin : ∀ c o, (Loc.blk b q).has c o → inRs _ c o := fun c o hh => (has_rng _ c o).1 hh
    rw [← h4] at hin
    have hbk := hb b fun o => hin b o (.inl rfl)
    refine ⟨b, q, h1, h2, ?_, h3.keep hk hbk (fun c o hh => hc c o (hin c o hh)), hq, h4⟩
    rw [Array.getElem?_eq_getElem hlt] at hbk
    exact (Array.getElem?_eq_some_iff.1 hbk).1
  | .pel l e j p, _, _, ⟨b, q, v, h1, hv, h2, hlt, h3, hq, h4⟩, hc, hb => by
    have hin : ∀ c o, (Loc.blk b q).has c o → inRs _ c o := fun c o hh => (has_rng _ c o).1 hh
    rw [← h4] at hin
    have hbk := hb b fun o => hin b o (.inl rfl)
    refine ⟨b, q, v, h1, hv, h2, ?_, h3.keep hk hbk (fun c o hh => hc c o (hin c o hh)), hq, h4⟩
    rw [Array.getElem?_eq_getElem hlt] at hbk
    exact (Array.getElem?_eq_some_iff.1 hbk).1
  | .fn f t, _, _, ⟨caps, h1, h2⟩, hc, hb => ⟨caps, h1, TRel.mono hk t _ _ h2 hc hb⟩
  | .pair a b, _, _, ⟨c, d, Q, S, h1, h2, h3, h4⟩, hc, hb => ⟨c, d, Q, S, h1, h2, TRel.mono hk a _ _ h3 (fun b o h => hc b o (by rw [h2]; exact inRs_append.2 (.inl h))) (fun b h => hb b fun o => by rw [h2]; exact inRs_append.2 (.inl (h o))), TRel.mono hk b _ _ h4 (fun b o h => hc b o (by rw [h2]; exact inRs_append.2 (.inr h))) (fun b h => hb b fun o => by rw [h2]; exact inRs_append.2 (.inr (h o)))⟩
  | .box l s t, _, _, ⟨b, o, ds, Q, h1, h2, h3, h4, h5, h6⟩, hc, hb => by
    refine ⟨b, o, ds, Q, h1, h2, TRel.mono hk t _ _ h3 (fun b' o' h => hc b' o' ?_) (fun b' h => hb b' fun o' => by obtain ⟨r, hr, g⟩ := h o'; exact ⟨r, by rw [h6]; exact List.mem_cons_of_mem _ hr, g⟩), h4, fun j v hv => ?_, h6⟩
    · obtain ⟨r, hr, g⟩ := h; exact ⟨r, by rw [h6]; exact List.mem_cons_of_mem _ hr, g⟩
    · have hj : j < ds.length := by
        rcases Nat.lt_or_ge j ds.length with q | q
        · exact q
        · rw [List.getElem?_eq_none q] at hv; cases hv
      obtain ⟨g1, g2⟩ := h5 j v hv
      obtain ⟨c1, c2⟩ := hc b (o + j) ⟨rgN b o s.size, by rw [h6]; simp, rfl, by omega, by omega⟩
      exact ⟨c1.trans g1, c2.trans g2⟩
  | .own l e nil xs, _, _, ⟨a, cap, h1, h2, h3, h4, h5, h6, h7⟩, hc, _ => by
    refine ⟨a, cap, h1, h2, h3, h4, h5, fun b o ha => ?_, h7⟩
    obtain ⟨k1, k2⟩ := h6 b o ha
    subst ha
    have hin : ∀ j, j < cap * e.size → w'.cell? (mkA b (o + j)) = w.cell? (mkA b (o + j)) ∧ w'.frozen? (mkA b (o + j)) = w.frozen? (mkA b (o + j)) :=
      fun j hj => hc b (o + j) ⟨rgN b o (cap * e.size), by rw [h7]; simp [Loc.rng], rfl, by omega, by omega⟩
    refine ⟨fun i hi => ?_, fun j hj => ?_⟩
    · obtain ⟨c, g1, g2⟩ := k1 i hi
      refine ⟨c, g1.mono hk, fun j x hx => ?_⟩
      obtain ⟨q1, q2⟩ := g2 j x hx
      have hj : j < e.size := by
        have := g1.len
        rcases Nat.lt_or_ge j c.length with q | q
        · omega
        · rw [List.getElem?_eq_none q] at hx; cases hx
      have hle : (i + 1) * e.size ≤ cap * e.size := Nat.mul_le_mul_right _ (by omega)
      have hs : (i + 1) * e.size = i * e.size + e.size := Nat.succ_mul _ _
      obtain ⟨c1, c2⟩ := hin (i * e.size + j) (by omega)
      rw [← Nat.add_assoc] at c1 c2
      exact ⟨c1.trans q1, c2.trans q2⟩
    · obtain ⟨v, g1, g2⟩ := k2 j hj
      obtain ⟨c1, c2⟩ := hin j hj
      exact ⟨v, c1.trans g1, c2.trans g2⟩
end Go.Eng
end
