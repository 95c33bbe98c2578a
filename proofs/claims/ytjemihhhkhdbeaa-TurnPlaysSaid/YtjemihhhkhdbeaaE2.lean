/- The engine, part 2: what it reckons of the code is what the code does. Conditions: none but those each theorem states. -/
import Derived.Test.YtjemihhhkhdbeaaE1
import Derived.Tactics
/-! Telling a call's arguments. Conditions: none. -/
section
set_option linter.unusedVariables false
set_option linter.unusedSimpArgs false
namespace Go.Eng
open Go.RowKit
def rngV (m : Lm) (v : V) : List Rng := match slotV v with | some id => (m id).rng | none => []
/-- What is moved is a box of the frame. -/
def Tok (m : Lm) (h : Heap) (x : V) : Prop := (∃ id, slotV x = some id ∧ getBox id h ≠ none) ∧ ∀ id e, x = .slf id e → ∃ a len cap, m id = .arr a len cap e
section
variable {X : Cells} {S0 : Base} {w0 : World} {N : Nat} {m ml : Lm} {s : St} {tm : Array Value} {w : World}
theorem isAgg_mkT (a b : T) : (a.mkPair b).isAgg = true := by unfold T.mkPair; split <;> rfl
theorem trel_mk {F : Cells} {a b : T} {cs : List Value} {R : List Rng} (h : TRel ml w F (.pair a b) cs R) : TRel ml w F (a.mkPair b) cs R := by
  unfold T.mkPair
  split
  · obtain ⟨c, d, Q, S, rfl, rfl, ⟨h1, rfl⟩, ⟨h2, rfl⟩⟩ := h
    exact ⟨⟨_, _, c, d, rfl, rfl, h1, h2⟩, rfl⟩
  · exact h
theorem ser_ok (h : R0 X S0 w0 N m s tm w) {L : Nat → Prop} {F' : Cells} (hsub : ∀ b o, F' b o → Fb X m s.h b o) (hL : ∀ id, L id → ∀ b o, (m id).has b o → ¬ F' b o) (hLp : ∀ id, L id → getBox id s.h ≠ none)
    (cfin : List V) (hml : ∀ l v id, cfin[l]? = some v → slotV v = some id → ml (l + 1) = m id) :
    ∀ (n : Nat) (own : Bool) (v : V) (c : List V) (t : T) (c' : List V) (cs : List Value), ser s.h none n own v c = some (t, c') → c' <+: cfin → RelV m w (Fb X m s.h) v cs →
      (own = false → ∀ id ∈ lentIds v, L id) →
      ∃ new, c' = c ++ new ∧ TRel ml w F' t cs (new.flatMap (rngV m)) ∧ t.isAgg = v.isAgg ∧ (∀ x ∈ new, Tok m s.h x) := by
  have hk : Keep w (Fb X m s.h) w F' := fun b o v hc hf => ⟨hc, fun hf' => hf (hsub b o hf')⟩
  have nil : ∀ (t : T) (c : List V), ∃ new : List V, c = c ++ new ∧ new = [] := fun t c => ⟨[], by simp, rfl⟩
  intro n
  induction n with
  | zero => intro own v c t c' cs hg; simp [ser] at hg
  | succ n ih =>
    intro own v c t c' cs hg hpre hv hlent
    cases v with
    | u => simp [ser] at hg
    | nils => simp [ser] at hg
    | tup v => simp [ser] at hg
    | imm sh p =>
      simp only [ser, Option.some.injEq, Prod.mk.injEq] at hg
      obtain ⟨rfl, rfl⟩ := hg
      exact ⟨[], by simp, ⟨hv.mono hk, rfl⟩, rfl, by simp⟩
    | iptr sh p =>
      simp only [ser, Option.some.injEq, Prod.mk.injEq] at hg
      obtain ⟨rfl, rfl⟩ := hg
      obtain ⟨b, o, d, h1, h2, h3⟩ := hv
      exact ⟨[], by simp, ⟨⟨b, o, d, h1, h2.mono hk, h3.mono hk⟩, rfl⟩, rfl, by simp⟩
    | emp e b =>
      simp only [ser, Option.some.injEq, Prod.mk.injEq] at hg
      obtain ⟨rfl, rfl⟩ := hg
      obtain ⟨a, rfl, rfl⟩ := hv
      exact ⟨[], by simp, ⟨⟨a, [], 0, rfl, rfl, Nat.le_refl _, fun _ => rfl, fun i hi => absurd hi (by simp)⟩, rfl⟩, rfl, by simp⟩
    | blk id k =>
      simp only [ser] at hg
      split at hg
      · rename_i k' p hb
        split at hg
        · rename_i hc
          rw [Bool.and_eq_true] at hc
          have := Bk.beq_eq hc.2; subst this
          simp only [Option.some.injEq, Prod.mk.injEq] at hg
          obtain ⟨rfl, rfl⟩ := hg
          obtain ⟨b, q, h1, rfl, hq⟩ := hv
          obtain ⟨b', q', g1, hlt, g2⟩ := h.box _ _ hb
          rw [h1] at g1; injection g1 with g1 g3; subst g1; subst g3
          have hc : cfin[c.length]? = some (.blk id k) := by
            obtain ⟨z, rfl⟩ := hpre; simp
          refine ⟨[.blk id k], rfl, ⟨b, q, rfl, fun _ => by rw [hml _ _ id hc rfl, h1], hlt, g2.mono hk, hq, by simp [rngV, slotV, h1, Loc.rng]⟩, rfl, fun x hx => ?_⟩
          obtain rfl := List.mem_singleton.1 hx
          exact ⟨⟨id, rfl, by rw [hb]; simp⟩, fun i e' ee => by cases ee⟩
        · split at hg
          · rename_i e _
            split at hg
            · rename_i e' _
              split at hg
              · rename_i hbe
                have := Sh.beq_eq hbe; subst this
                simp only [Option.some.injEq, Prod.mk.injEq] at hg
                obtain ⟨rfl, rfl⟩ := hg
                obtain ⟨b, q, h1, rfl, hq⟩ := hv
                obtain ⟨b', q', g1, hlt, xs, rfl, g3, g4, g5, g6, _⟩ := h.box _ _ hb
                rw [h1] at g1; injection g1 with g1 g2; subst g1; subst g2
                have hl := hL id (hlent rfl id (by simp [lentIds]))
                refine ⟨[], by simp, ⟨?_, rfl⟩, rfl, by simp⟩
                show Rep w F' (.slice e) (.list false xs) [.slice (some (mkA b 0)) q.len q.cap]
                rw [g3]
                refine Rep.of_arr (a := some (b, 0)) g5 (fun e => by cases e) fun b' o ha i hi => ?_
                injection ha with ha; injection ha with ha1 ha2; subst ha1; subst ha2
                obtain ⟨c2, p1, p2⟩ := g6.1 i hi
                exact ⟨c2, p1.mono hk, fun j y hy => ⟨(p2 j y hy).1, hl _ _ (by rw [h1]; exact .inl rfl)⟩⟩
              · cases hg
            · cases hg
          · cases hg
      · cases hg
    | tv id k e p =>
      simp only [ser, Option.some.injEq, Prod.mk.injEq] at hg
      obtain ⟨rfl, rfl⟩ := hg
      obtain ⟨b, q, v, _, rfl, h3, _⟩ := hv
      exact ⟨[], by simp, ⟨h3.mono hk, rfl⟩, rfl, by simp⟩
    | slf id e =>
      simp only [ser] at hg
      split at hg
      · rename_i e0 nl xs hb
        obtain ⟨a, len, cap, h1, rfl⟩ := hv
        obtain ⟨a1, c1, g1, g2, g3, g4, g5⟩ := h.box _ _ hb
        rw [h1] at g1
        injection g1 with q1 q2 q3 q4
        subst q1; subst q2; subst q3; subst q4
        cases own with
        | true =>
          simp only [if_true, Option.some.injEq, Prod.mk.injEq] at hg
          obtain ⟨rfl, rfl⟩ := hg
          have hc : cfin[c.length]? = some (.slf id e) := by
            obtain ⟨z, rfl⟩ := hpre; simp
          refine ⟨[.slf id e], rfl, ⟨a, cap, rfl, fun _ => by rw [hml _ _ id hc rfl, h1], g2, g3, g4, fun b o ha => ?_, by simp [rngV, slotV, h1]⟩, rfl, fun x hx => ?_⟩
          · exact ⟨fun i hi => let ⟨c2, p1, p2⟩ := (g5 b o ha).1 i hi; ⟨c2, p1.mono hk, p2⟩, (g5 b o ha).2⟩
          · obtain rfl := List.mem_singleton.1 hx
            exact ⟨⟨id, rfl, by rw [hb]; simp⟩, fun i e' ee => by cases ee; exact ⟨_, _, _, h1⟩⟩
        | false =>
          simp only [Bool.false_eq_true, if_false, Option.some.injEq, Prod.mk.injEq] at hg
          obtain ⟨rfl, rfl⟩ := hg
          have hl := hL id (hlent rfl id (by simp [lentIds]))
          refine ⟨[], by simp, ⟨?_, rfl⟩, rfl, by simp⟩
          rw [g2]
          refine Rep.of_arr g3 g4 fun b o ha i hi => ?_
          obtain ⟨c2, p1, p2⟩ := (g5 b o ha).1 i hi
          refine ⟨c2, p1.mono hk, fun j y hy => ⟨(p2 j y hy).1, hl _ _ ?_⟩⟩
          have hj : j < e.size := by
            have := p1.len
            rcases Nat.lt_or_ge j c2.length with q | q
            · omega
            · rw [List.getElem?_eq_none q] at hy; cases hy
          have hle : (i + 1) * e.size ≤ cap * e.size := Nat.mul_le_mul_right _ (by omega)
          have hs : (i + 1) * e.size = i * e.size + e.size := Nat.succ_mul _ _
          rw [h1, ha]; exact ⟨rfl, by omega, by omega⟩
      · cases hg
    | slw id e lo k =>
      simp only [ser] at hg
      split at hg
      · rename_i e0 nl xs hb
        obtain ⟨a1, len, cap, a', cap', h1, h2, h3, h4, rfl, h6, h7⟩ := hv
        obtain ⟨a2, c1, g1, g2, g3, g4, g5⟩ := h.box _ _ hb
        rw [h1] at g1
        injection g1 with q1 q2 q3 q4
        subst q1; subst q2; subst q3; subst q4
        cases own with
        | true => simp at hg
        | false =>
          simp only [Bool.false_eq_true, if_false, Option.some.injEq, Prod.mk.injEq] at hg
          obtain ⟨rfl, rfl⟩ := hg
          have hl := hL id (hlent rfl id (by simp [lentIds]))
          refine ⟨[], by simp, ⟨?_, rfl⟩, rfl, by simp⟩
          rw [g2]
          refine Rep.of_win h2 h3 h6 h7 (fun b o ha i hi => ?_) (fun e1 => by have := g4 e1; omega)
          obtain ⟨c2, p1, p2⟩ := (g5 b o ha).1 i hi
          refine ⟨c2, p1.mono hk, fun j y hy => ⟨(p2 j y hy).1, hl _ _ ?_⟩⟩
          have hj : j < e.size := by
            have := p1.len
            rcases Nat.lt_or_ge j c2.length with q | q
            · omega
            · rw [List.getElem?_eq_none q] at hy; cases hy
          have hle : (i + 1) * e.size ≤ cap * e.size := Nat.mul_le_mul_right _ (by omega)
          have hs : (i + 1) * e.size = i * e.size + e.size := Nat.succ_mul _ _
          rw [h1, ha]; exact ⟨rfl, by omega, by omega⟩
      · cases hg
    | ref id path sh =>
      simp only [ser] at hg
      split at hg
      · rename_i sh' x hb
        split at hg
        · rename_i hbe
          have := Sh.beq_eq hbe; subst this
          split at hg
          · rename_i t1 c1 hs1
            simp only [Option.some.injEq, Prod.mk.injEq] at hg
            obtain ⟨rfl, rfl⟩ := hg
            obtain ⟨y, rfl, hy⟩ := hv
            obtain ⟨b, o, ds, g1, g2, g3, g4, g5⟩ := h.box _ _ hb
            rw [g1] at hy
            obtain ⟨off, z1, rfl⟩ := hy
            simp [shAt] at z1
            subst z1
            obtain ⟨new, rfl, n2, n3, n4⟩ := ih true x _ t1 c1 ds hs1 hpre g3 (fun e => by cases e)
            have hc : cfin[c.length]? = some (.ref id [] sh) := by
              obtain ⟨z, rfl⟩ := hpre; simp
            refine ⟨.ref id [] sh :: new, by simp, ⟨b, o, ds, new.flatMap (rngV m), rfl, fun _ => by rw [hml _ _ id hc rfl, g1], n2, g4, g5, by simp [rngV, slotV, g1, Loc.rng]⟩, rfl, ?_⟩
            intro z hz
            rcases List.mem_cons.1 hz with rfl | hz
            · exact ⟨⟨id, rfl, by rw [hb]; simp⟩, fun _ _ ee => by cases ee⟩
            · exact n4 z hz
          · cases hg
        · cases hg
      · rename_i j e p hb
        split at hg
        · rename_i hbe
          have := Sh.beq_eq hbe; subst this
          simp only [Option.some.injEq, Prod.mk.injEq] at hg
          obtain ⟨rfl, rfl⟩ := hg
          obtain ⟨y, rfl, hy⟩ := hv
          obtain ⟨b, q, g1, hlt, g2⟩ := h.box _ _ hb
          rw [g1] at hy
          have hqe : q.e = e := by
            obtain ⟨n', r', off, e1, _, e2, _⟩ := hy
            simp only [List.cons.injEq] at e1
            obtain ⟨_, rfl⟩ := e1
            simp only [shAt, Option.some.injEq, Prod.mk.injEq] at e2
            exact e2.2
          have hc : cfin[c.length]? = some (.blk id (.at e)) := by
            obtain ⟨z, rfl⟩ := hpre; simp
          refine ⟨[.blk id (.at e)], rfl, ⟨b, q, y, rfl, hy, fun _ => by rw [hml _ _ id hc rfl, g1], hlt, g2.mono hk, hqe, by simp [rngV, slotV, g1, Loc.rng]⟩, rfl, fun x hx => ?_⟩
          obtain rfl := List.mem_singleton.1 hx
          exact ⟨⟨id, rfl, by rw [hb]; simp⟩, fun i e' ee => by cases ee⟩
        · cases hg
      · cases hg
    | fn f x =>
      simp only [ser] at hg
      split at hg
      · rename_i t1 c1 hs1
        simp only [Option.some.injEq, Prod.mk.injEq] at hg
        obtain ⟨rfl, rfl⟩ := hg
        obtain ⟨caps, rfl, hc⟩ := hv
        obtain ⟨new, n1, n2, n3, n4⟩ := ih own x c t1 c1 _ hs1 hpre hc (fun e id hi => hlent e id (by simpa [lentIds] using hi))
        exact ⟨new, n1, ⟨caps, rfl, n2⟩, rfl, n4⟩
      · cases hg
    | pair a b =>
      simp only [ser] at hg
      split at hg
      · rename_i t1 c1 hs1
        split at hg
        · rename_i t2 c2 hs2
          simp only [Option.some.injEq, Prod.mk.injEq] at hg
          obtain ⟨rfl, rfl⟩ := hg
          obtain ⟨d1, d2, rfl, p1, p2⟩ := hv
          obtain ⟨new2, rfl, m2, m3, m4⟩ := ih own b c1 t2 c2 d2 hs2 hpre p2 (fun e id hi => hlent e id (by simp [lentIds, hi]))
          obtain ⟨new1, rfl, n2, n3, n4⟩ := ih own a c t1 c1 d1 hs1 (List.IsPrefix.trans (List.prefix_append _ _) hpre) p1 (fun e id hi => hlent e id (by simp [lentIds, hi]))
          refine ⟨new1 ++ new2, by simp, trel_mk ⟨d1, d2, _, _, rfl, by simp, n2, m2⟩, isAgg_mkT _ _, ?_⟩
          intro z hz
          rcases List.mem_append.1 hz with hz | hz
          · exact n4 z hz
          · exact m4 z hz
        · cases hg
      · cases hg
theorem trel1_of {F : Cells} {t : T} {v : V} {x : Value} {cs : List Value} {R : List Rng} (hv : valOf v.isAgg cs x) (ha : t.isAgg = v.isAgg) (hnu : t ≠ .u) (h : TRel ml w F t cs R) : TRel1 ml w F t x R := by
  have key : (if t.isAgg then ∃ cs, x = .agg cs ∧ TRel ml w F t cs.toList R else TRel ml w F t [x] R) := by
    cases hg : v.isAgg with
    | true =>
      rw [hg] at hv ha
      rw [if_pos ha]
      exact ⟨cs.toArray, hv, by simpa using h⟩
    | false =>
      rw [hg] at hv ha
      rw [if_neg (by simp [ha])]
      simp [valOf] at hv; subst hv; exact h
  cases t <;> first | exact absurd rfl hnu | exact key
theorem ser_nu {hp : Heap} {n : Nat} {own : Bool} {v : V} {c c' : List V} {t : T} (hg : ser hp none n own v c = some (t, c')) : v ≠ .u ∧ (∀ y, v ≠ .tup y) := by
  cases n with
  | zero => simp [ser] at hg
  | succ n => exact ⟨fun e => by subst e; simp [ser] at hg, fun y e => by subst e; simp [ser] at hg⟩
theorem ser_tu : ∀ {hp : Heap} {n : Nat} {own : Bool} {v : V} {c c' : List V} {t : T}, ser hp none n own v c = some (t, c') → t ≠ .u := by
  intro hp n
  cases n with
  | zero => intro own v c c' t hg; simp [ser] at hg
  | succ n =>
    intro own v c c' t hg e
    subst e
    cases v <;> simp only [ser] at hg <;> (try cases own) <;> (repeat' split at hg) <;> first | (simp at hg; done) | skip
    all_goals (simp only [Option.some.injEq, Prod.mk.injEq] at hg; obtain ⟨hg, _⟩ := hg; unfold T.mkPair at hg; split at hg <;> cases hg)
theorem serL_ok (h : R0 X S0 w0 N m s tm w) {L : Nat → Prop} {F' : Cells} (hsub : ∀ b o, F' b o → Fb X m s.h b o) (hL : ∀ id, L id → ∀ b o, (m id).has b o → ¬ F' b o) (hLp : ∀ id, L id → getBox id s.h ≠ none)
    (cfin : List V) (hml : ∀ l v id, cfin[l]? = some v → slotV v = some id → ml (l + 1) = m id) (own : Bool) :
    ∀ (vs : List V) (c : List V) (ts : List T) (c' : List V) (xs : List Value), serL s.h none own vs c = some (ts, c') → c' <+: cfin → vs.length = xs.length → (∀ j (h1 : j < vs.length) (h2 : j < xs.length), Rel1 m w (Fb X m s.h) vs[j] xs[j]) →
      (own = false → ∀ id ∈ vs.flatMap lentIds, L id) →
      ∃ new, c' = c ++ new ∧ TRelL ml w F' ts xs (new.flatMap (rngV m)) ∧ (∀ x ∈ new, Tok m s.h x)
  | [], c, ts, c', xs, hg, hpre, hl, hr, hlent => by
    simp only [serL, Option.some.injEq, Prod.mk.injEq] at hg
    obtain ⟨rfl, rfl⟩ := hg
    cases xs with
    | nil => exact ⟨[], by simp, ⟨rfl, rfl⟩, by simp⟩
    | cons _ _ => simp at hl
  | v :: vs, c, ts, c', xs, hg, hpre, hl, hr, hlent => by
    cases xs with
    | nil => simp at hl
    | cons x xs =>
      simp only [serL] at hg
      split at hg
      · rename_i t1 c1 hs1
        split at hg
        · rename_i ts2 c2 hs2
          simp only [Option.some.injEq, Prod.mk.injEq] at hg
          obtain ⟨rfl, rfl⟩ := hg
          obtain ⟨new2, rfl, m2, m4⟩ := serL_ok h hsub hL hLp cfin hml own vs c1 ts2 c2 xs hs2 hpre (by simpa using hl) (fun j h1 h2 => by have := hr (j + 1) (by simp; omega) (by simp; omega); simpa using this) (fun e id hi => hlent e id (by simp only [List.flatMap_cons, List.mem_append]; exact .inr hi))
          obtain ⟨hu, ht⟩ := ser_nu hs1
          have hv := hr 0 (by simp) (by simp)
          simp only [List.getElem_cons_zero] at hv
          obtain ⟨cs, hcs, hval⟩ := rel_cells0 hu ht hv
          obtain ⟨new1, rfl, n2, n3, n4⟩ := ser_ok h hsub hL hLp cfin hml deep own v c t1 c1 cs hs1 (List.IsPrefix.trans (List.prefix_append _ _) hpre) hcs (fun e id hi => hlent e id (by simp only [List.flatMap_cons, List.mem_append]; exact .inl hi))
          refine ⟨new1 ++ new2, by simp, ⟨x, xs, _, _, rfl, by simp, trel1_of hval n3 (ser_tu hs1) n2, m2⟩, ?_⟩
          intro z hz
          rcases List.mem_append.1 hz with hz | hz
          · exact n4 z hz
          · exact m4 z hz
        · cases hg
      · cases hg
end
end Go.Eng
end
/-! Laying in what a call tells. Conditions: none. -/
section
set_option linter.unusedVariables false
set_option linter.unusedSimpArgs false
namespace Go.Eng
open Go.RowKit

def idAt (tb : List V) : Nat → Option Nat
  | 0 => none
  | l + 1 => tb[l]?.bind slotV
def Box.ntv : Box → Bool
  | .obj _ v => v.ntv
  | _ => true
structure Tb (ml m : Lm) (tb : List V) (h : Heap) : Prop where
  at_ : ∀ l id, idAt tb l = some id → (ml l).fix = (m id).fix ∧ getBox id h ≠ none
  slf : ∀ (l : Nat) id e, tb[l]? = some (.slf id e) → ∃ a len cap, m id = .arr a len cap e
  inj : ∀ l l' id, idAt tb l = some id → idAt tb l' = some id → l = l'
/-- What one step of laying in does: `new` are the boxes laid, R their ranges. -/
structure Laid (w : World) (F : Cells) (tb : List V) (labs : List Nat) (m : Lm) (h : Heap) (m' : Lm) (h' : Heap) (new : List Nat) (R : List Rng) : Prop where
  ext : ∀ id, getBox id h ≠ none → (m' id).fix = (m id).fix ∧ getBox id h' ≠ none
  rest : ∀ id, id ∉ new → getBox id h' = getBox id h
  old : ∀ id, getBox id h ≠ none → id ∉ new → m' id = m id
  box : ∀ id ∈ new, ∃ bx, getBox id h' = some bx ∧ BRel m' w F id bx ∧ (∀ j ∈ bx.ids, getBox j h' ≠ none) ∧ bx.ntv = true
  rng : (new.flatMap fun id => (m' id).rng).Perm R
  which : ∀ id ∈ new, getBox id h = none ∨ ∃ l ∈ labs, idAt tb l = some id
  labs : ∀ l ∈ labs, l ≠ 0 → ∃ id, idAt tb l = some id ∧ id ∈ new
  keys : (keys h).Nodup → (keys h').Nodup
section
variable {ml : Lm} {w : World} {F : Cells} {tb : List V}
theorem Tb.ext {m m' : Lm} {h h' : Heap} (t : Tb ml m tb h) (e : ∀ id, getBox id h ≠ none → (m' id).fix = (m id).fix ∧ getBox id h' ≠ none) : Tb ml m' tb h' where
  at_ := fun l id hi => by obtain ⟨h1, h2⟩ := t.at_ l id hi; exact ⟨h1.trans (e id h2).1.symm, (e id h2).2⟩
  slf := fun l id ee hi => by
    obtain ⟨a, len, cap, h1⟩ := t.slf l id ee hi
    have hp := (t.at_ (l + 1) id (by simp [idAt, hi, slotV])).2
    exact ⟨a, len, cap, fix_arr (((e id hp).1).trans (congrArg Loc.fix h1))⟩
  inj := t.inj
theorem Laid.nil (m : Lm) (h : Heap) : Laid w F tb [] m h m h [] [] :=
  ⟨fun _ hi => ⟨rfl, hi⟩, fun _ _ => rfl, fun _ _ _ => rfl, fun _ hi => (nomatch hi), List.Perm.refl _, fun _ hi => (nomatch hi), fun _ hi => (nomatch hi), fun h => h⟩
theorem BRel.ext {m m' : Lm} {id : Nat} {bx : Box} (h : BRel m w F id bx) (hm : m' id = m id) (hms : ∀ j ∈ bx.ids, m' j = m j) : BRel m' w F id bx :=
  h.keep (Keep.refl w F) hm hms (fun _ _ _ => ⟨rfl, rfl⟩) fun _ _ _ => rfl
theorem BRel.exts {m m' : Lm} {id : Nat} {bx : Box} (h : BRel m w F id bx) (hm : m' id = m id) (hms : ∀ j ∈ bx.ids, (m' j).fix = (m j).fix) (hn : bx.ntv = true) : BRel m' w F id bx := by
  cases bx with
  | obj s v => obtain ⟨b, o, cs, h1, h2, h3, h4, h5⟩ := h; exact ⟨b, o, cs, hm.trans h1, h2, h3.fixs _ _ hms hn, h4, h5⟩
  | arr e n xs => exact h.ext hm (by intro j hj; cases hj)
  | blk k p => exact h.ext hm (by intro j hj; cases hj)
theorem mem_nz {l : Nat} {ls : List Nat} : l ∈ nz ls ↔ l ∈ ls ∧ l ≠ 0 := by
  simp only [nz, List.mem_filter]
  refine ⟨fun h => ⟨h.1, fun e => by have := h.2; rw [e] at this; simp at this⟩, fun h => ⟨h.1, ?_⟩⟩
  have h2 := h.2
  cases hb : Nat.beq l 0 with
  | false => rfl
  | true => exact absurd (beq_iff.1 hb) h2
theorem nz_append {a b : List Nat} : nz (a ++ b) = nz a ++ nz b := by simp [nz]
theorem Laid.trans {l1 l2 : List Nat} {m m1 m2 : Lm} {h h1 h2 : Heap} {n1 n2 : List Nat} {R1 R2 : List Rng} (t : Tb ml m tb h) (nd : (nz (l1 ++ l2)).Nodup)
    (a : Laid w F tb l1 m h m1 h1 n1 R1) (b : Laid w F tb l2 m1 h1 m2 h2 n2 R2) : Laid w F tb (l1 ++ l2) m h m2 h2 (n1 ++ n2) (R1 ++ R2) := by
  have hdj : ∀ id ∈ n1, id ∉ n2 := by
    intro id h1' h2'
    obtain ⟨bx, hb, _⟩ := a.box id h1'
    rcases b.which id h2' with q | ⟨k2, q, q'⟩
    · rw [hb] at q; cases q
    · rcases a.which id h1' with p | ⟨k1, p, p'⟩
      · exact (t.at_ k2 id q').2 p
      · have := t.inj k1 k2 id p' q'
        subst this
        have h0 : k1 ≠ 0 := fun e => by subst e; simp [idAt] at p'
        rw [nz_append] at nd
        exact (List.nodup_append.1 nd).2.2 k1 (mem_nz.2 ⟨p, h0⟩) k1 (mem_nz.2 ⟨q, h0⟩) rfl
  refine ⟨?_, ?_, ?_, ?_, ?_, ?_, ?_, fun hn => b.keys (a.keys hn)⟩
  · intro id hi
    obtain ⟨p1, p2⟩ := a.ext id hi
    obtain ⟨q1, q2⟩ := b.ext id p2
    exact ⟨q1.trans p1, q2⟩
  · intro id hi
    rw [List.mem_append, not_or] at hi
    rw [b.rest id hi.2, a.rest id hi.1]
  · intro id h0 hi
    rw [List.mem_append, not_or] at hi
    rw [b.old id (a.ext id h0).2 hi.2, a.old id h0 hi.1]
  · intro id hi
    rcases List.mem_append.1 hi with hi | hi
    · obtain ⟨bx, hb, h3, h4, h5⟩ := a.box id hi
      exact ⟨bx, by rw [b.rest id (hdj id hi), hb], h3.exts (b.old id (by rw [hb]; simp) (hdj id hi)) (fun j hj => (b.ext j (h4 j hj)).1) h5, fun j hj => (b.ext j (h4 j hj)).2, h5⟩
    · exact b.box id hi
  · rw [List.flatMap_append]
    refine List.Perm.append ?_ b.rng
    have : (n1.flatMap fun id => (m2 id).rng) = n1.flatMap fun id => (m1 id).rng := by
      simp only [List.flatMap]
      congr 1
      refine List.map_congr_left fun id hi => ?_
      obtain ⟨bx, hb, _⟩ := a.box id hi
      rw [b.old id (by rw [hb]; simp) (hdj id hi)]
    rw [this]; exact a.rng
  · intro id hi
    rcases List.mem_append.1 hi with hi | hi
    · rcases a.which id hi with q | ⟨l, q, q'⟩
      · exact .inl q
      · exact .inr ⟨l, List.mem_append_left _ q, q'⟩
    · rcases b.which id hi with q | ⟨l, q, q'⟩
      · refine .inl ?_
        cases hg : getBox id h with
        | none => rfl
        | some bx => exact absurd q (a.ext id (by rw [hg]; simp)).2
      · exact .inr ⟨l, List.mem_append_right _ q, q'⟩
  · intro l hl h0
    rcases List.mem_append.1 hl with hl | hl
    · obtain ⟨id, p, q⟩ := a.labs l hl h0; exact ⟨id, p, List.mem_append_left _ q⟩
    · obtain ⟨id, p, q⟩ := b.labs l hl h0; exact ⟨id, p, List.mem_append_right _ q⟩
theorem Laid.cast {l1 l2 : List Nat} {m m1 : Lm} {h h1 : Heap} {n1 : List Nat} {R1 R2 : List Rng} (a : Laid w F tb l1 m h m1 h1 n1 R1) (hl : ∀ l, l ∈ l1 ↔ l ∈ l2) (hR : R1.Perm R2) : Laid w F tb l2 m h m1 h1 n1 R2 :=
  ⟨a.ext, a.rest, a.old, a.box, a.rng.trans hR, fun id hi => (a.which id hi).imp (fun x => x) fun ⟨l, p, q⟩ => ⟨l, (hl l).1 p, q⟩, fun l p => a.labs l ((hl l).2 p), a.keys⟩
theorem newBox_some {h h' : Heap} {b : Nat} {bx : Box} (hg : newBox h b bx = some h') : Free b h ∧ h' = (b, bx) :: h := by
  unfold newBox at hg
  split at hg
  · rename_i hn
    split at hg
    · cases hg
    · rename_i hb; exact ⟨⟨hn, by simpa using hb⟩, (Option.some.inj hg).symm⟩
  · cases hg
theorem laid_new {m : Lm} {h : Heap} {b : Nat} {bx : Box} {l : Loc} (hb : getBox b h = none) (hids : ∀ j ∈ bx.ids, getBox j h ≠ none) (hnt : bx.ntv = true) (hr : BRel (updL m b l) w F b bx) :
    Laid w F tb [0] m h (updL m b l) ((b, bx) :: h) [b] l.rng := by
  have hne : ∀ j, getBox j h ≠ none → j ≠ b := fun j hj e => hj (e ▸ hb)
  refine ⟨fun id hi => ⟨by rw [updL_other m l (hne id hi)], by rw [getBox_cons, if_neg (fun e => hne id hi e.symm)]; exact hi⟩, fun id hi => ?_, fun id hi _ => updL_other m l (hne id hi), fun id hi => ?_, by simp [updL_same], fun id hi => ?_, fun k hk h0 => ?_, fun hn => ?_⟩
  · rw [getBox_cons, if_neg (fun e => hi (by simp [e]))]
  · obtain rfl := List.mem_singleton.1 hi
    exact ⟨bx, by rw [getBox_cons, if_pos rfl], hr, fun j hj => by rw [getBox_cons, if_neg (fun e => hne j (hids j hj) e.symm)]; exact hids j hj, hnt⟩
  · obtain rfl := List.mem_singleton.1 hi; exact .inl hb
  · exact absurd (List.mem_singleton.1 hk) h0
  · simp only [Eng.keys, List.map_cons, List.nodup_cons]; exact ⟨getBox_none.1 hb, hn⟩
theorem laid_back {m : Lm} {h : Heap} {id k : Nat} {bx : Box} (hb : getBox id h ≠ none) (hat : idAt tb (k + 1) = some id) (hids : ∀ j ∈ bx.ids, getBox j h ≠ none) (hnt : bx.ntv = true) {l : Loc} (hl : l.fix = (m id).fix) (hr : BRel (updL m id l) w F id bx) :
    Laid w F tb [k + 1] m h (updL m id l) (setBox id bx h) [id] l.rng := by
  have hp : ∀ j, getBox j h ≠ none → getBox j (setBox id bx h) ≠ none := fun j hj => by
    rw [getBox_set hb]; split
    · simp
    · exact hj
  refine ⟨fun j hj => ⟨?_, hp j hj⟩, fun j hj => ?_, fun j _ hj => updL_other m l (by simpa using hj), fun j hj => ?_, by simp [updL_same], fun j hj => ?_, fun l hl h0 => ?_, fun hn => ?_⟩
  · by_cases e : j = id
    · subst e; rw [updL_same]; exact hl
    · rw [updL_other m l e]
  · rw [getBox_set hb, if_neg (fun e => hj (by simp [e]))]
  · obtain rfl := List.mem_singleton.1 hj
    exact ⟨bx, by rw [getBox_set hb, if_pos rfl], hr, fun i hi => hp i (hids i hi), hnt⟩
  · obtain rfl := List.mem_singleton.1 hj; exact .inr ⟨k + 1, by simp, hat⟩
  · obtain rfl := List.mem_singleton.1 hl; exact ⟨id, hat, by simp⟩
  · rw [keys_set]; exact hn

theorem des_ntv : ∀ (t : T) {b b' : Nat} {h h' : Heap} {v : V}, des tb t b h = some (v, b', h') → v.ntv = true := by
  intro t
  induction t with
  | fn f t ih =>
    intro b b' h h' v hd
    simp only [des] at hd
    split at hd
    · rename_i v1 b1 h1 hd1; simp only [Option.some.injEq, Prod.mk.injEq] at hd; obtain ⟨rfl, _, _⟩ := hd; exact (ih hd1 : _)
    · cases hd
  | pair x y ihx ihy =>
    intro b b' h h' v hd
    simp only [des] at hd
    split at hd
    · rename_i hd1
      split at hd
      · rename_i hd2
        simp only [Option.some.injEq, Prod.mk.injEq] at hd; obtain ⟨rfl, _, _⟩ := hd
        simp [V.ntv, ihx hd1, ihy hd2]
      · cases hd
    · cases hd
  | box l sh t ih =>
    intro b b' h h' v hd
    simp only [des] at hd
    cases l <;> simp only at hd <;> (repeat' split at hd) <;> first | (cases hd; done) | (simp only [Option.some.injEq, Prod.mk.injEq] at hd; obtain ⟨rfl, _, _⟩ := hd; rfl)
  | u => intro b b' h h' v hd; simp only [des, Option.some.injEq, Prod.mk.injEq] at hd; obtain ⟨rfl, _, _⟩ := hd; rfl
  | imm s p => intro b b' h h' v hd; simp only [des, Option.some.injEq, Prod.mk.injEq] at hd; obtain ⟨rfl, _, _⟩ := hd; rfl
  | iptr s p => intro b b' h h' v hd; simp only [des, Option.some.injEq, Prod.mk.injEq] at hd; obtain ⟨rfl, _, _⟩ := hd; rfl
  | ref l _ _ => intro b b' h h' v hd; cases l <;> simp only [des] at hd <;> (repeat' split at hd) <;> first | (cases hd; done) | (simp only [Option.some.injEq, Prod.mk.injEq] at hd; obtain ⟨rfl, _, _⟩ := hd; rfl)
  | ali l => intro b b' h h' v hd; cases l <;> simp only [des] at hd <;> (repeat' split at hd) <;> first | (cases hd; done) | (simp only [Option.some.injEq, Prod.mk.injEq] at hd; obtain ⟨rfl, _, _⟩ := hd; rfl)
  | alw l _ _ => intro b b' h h' v hd; cases l <;> simp only [des] at hd <;> (repeat' split at hd) <;> first | (cases hd; done) | (simp only [Option.some.injEq, Prod.mk.injEq] at hd; obtain ⟨rfl, _, _⟩ := hd; rfl)
  | abk l _ => intro b b' h h' v hd; cases l <;> simp only [des] at hd <;> (repeat' split at hd) <;> first | (cases hd; done) | (simp only [Option.some.injEq, Prod.mk.injEq] at hd; obtain ⟨rfl, _, _⟩ := hd; rfl)
  | pel l _ _ _ => intro b b' h h' v hd; cases l <;> simp only [des] at hd <;> (repeat' split at hd) <;> first | (cases hd; done) | (simp only [Option.some.injEq, Prod.mk.injEq] at hd; obtain ⟨rfl, _, _⟩ := hd; rfl)
  | blk l _ _ => intro b b' h h' v hd; cases l <;> simp only [des] at hd <;> (repeat' split at hd) <;> first | (cases hd; done) | (simp only [Option.some.injEq, Prod.mk.injEq] at hd; obtain ⟨rfl, _, _⟩ := hd; rfl)
  | own l _ _ _ => intro b b' h h' v hd; cases l <;> simp only [des] at hd <;> (repeat' split at hd) <;> first | (cases hd; done) | (simp only [Option.some.injEq, Prod.mk.injEq] at hd; obtain ⟨rfl, _, _⟩ := hd; rfl)
theorem des_ok : ∀ (t : T) {cs : List Value} {R : List Rng} {b b' : Nat} {h h' : Heap} {v : V} {m : Lm}, Tb ml m tb h → (nz t.labs).Nodup → TRel ml w F t cs R → des tb t b h = some (v, b', h') →
    ∃ m' new, Laid w F tb t.labs m h m' h' new R ∧ RelV m' w F v cs ∧ v.isAgg = t.isAgg ∧ (∀ id ∈ v.ids, getBox id h' ≠ none) ∧ ∀ y, v ≠ .tup y := by
  intro t
  induction t with
  | u =>
    intro cs R b b' h h' v m ht hn hr hd
    simp only [des, Option.some.injEq, Prod.mk.injEq] at hd
    obtain ⟨rfl, rfl, rfl⟩ := hd
    obtain ⟨hr, rfl⟩ := hr
    exact ⟨m, [], Laid.nil m h, hr, rfl, by simp [V.ids], by simp⟩
  | imm s p =>
    intro cs R b b' h h' v m ht hn hr hd
    simp only [des, Option.some.injEq, Prod.mk.injEq] at hd
    obtain ⟨rfl, rfl, rfl⟩ := hd
    obtain ⟨hr, rfl⟩ := hr
    exact ⟨m, [], Laid.nil m h, hr, rfl, by simp [V.ids], by simp⟩
  | iptr s p =>
    intro cs R b b' h h' v m ht hn hr hd
    simp only [des, Option.some.injEq, Prod.mk.injEq] at hd
    obtain ⟨rfl, rfl, rfl⟩ := hd
    obtain ⟨hr, rfl⟩ := hr
    exact ⟨m, [], Laid.nil m h, hr, rfl, by simp [V.ids], by simp⟩
  | ref l path sh =>
    intro cs R b b' h h' v m ht hn hr hd
    obtain ⟨⟨y, rfl, hy⟩, rfl⟩ := hr
    cases l with
    | zero => simp [des] at hd
    | succ l =>
      simp only [des] at hd
      split at hd
      · rename_i id sh' hx
        simp only [Option.some.injEq, Prod.mk.injEq] at hd
        obtain ⟨rfl, rfl, rfl⟩ := hd
        obtain ⟨q1, q2⟩ := ht.at_ (l + 1) id (by simp [idAt, hx, slotV])
        refine ⟨m, [], Laid.nil m h, ⟨y, rfl, ?_⟩, rfl, by simpa [V.ids] using q2, by simp⟩
        exact addr_fix q1.symm (hy (by simp))
      · rename_i id sh' hx
        simp only [Option.some.injEq, Prod.mk.injEq] at hd
        obtain ⟨rfl, rfl, rfl⟩ := hd
        obtain ⟨q1, q2⟩ := ht.at_ (l + 1) id (by simp [idAt, hx, slotV])
        refine ⟨m, [], Laid.nil m h, ⟨y, rfl, ?_⟩, rfl, by simpa [V.ids] using q2, by simp⟩
        exact addr_fix q1.symm (hy (by simp))
      · cases hd
  | ali l =>
    intro cs R b b' h h' v m ht hn hr hd
    obtain ⟨⟨y, rfl, hy⟩, rfl⟩ := hr
    cases l with
    | zero => simp [des] at hd
    | succ l =>
      simp only [des] at hd
      split at hd
      · rename_i id e hx
        simp only [Option.some.injEq, Prod.mk.injEq] at hd
        obtain ⟨rfl, rfl, rfl⟩ := hd
        obtain ⟨q1, q2⟩ := ht.at_ (l + 1) id (by simp [idAt, hx, slotV])
        obtain ⟨a, len, cap, e', z1, rfl⟩ := hy (by simp)
        obtain ⟨a2, len2, cap2, z2⟩ := ht.slf l id e hx
        rw [z1, z2] at q1
        have z1 := fix_arr q1
        injection z1 with p1 p2 p3 p4
        subst p1; subst p2; subst p3; subst p4
        exact ⟨m, [], Laid.nil m h, ⟨_, _, _, z2, rfl⟩, rfl, by simpa [V.ids] using q2, by simp⟩
      · cases hd
  | alw l lo n =>
    intro cs R b b' h h' v m ht hn hr hd
    obtain ⟨⟨y, rfl, hy⟩, rfl⟩ := hr
    cases l with
    | zero => simp [des] at hd
    | succ l =>
      simp only [des] at hd
      split at hd
      · rename_i id e hx
        simp only [Option.some.injEq, Prod.mk.injEq] at hd
        obtain ⟨rfl, rfl, rfl⟩ := hd
        obtain ⟨q1, q2⟩ := ht.at_ (l + 1) id (by simp [idAt, hx, slotV])
        obtain ⟨a, len, cap, e', a', cap', z1, z3, z4, z5, rfl, z6, z7⟩ := hy (by simp)
        obtain ⟨a2, len2, cap2, z2⟩ := ht.slf l id e hx
        rw [z1, z2] at q1
        have z1 := fix_arr q1
        injection z1 with p1 p2 p3 p4
        subst p1; subst p2; subst p3; subst p4
        exact ⟨m, [], Laid.nil m h, ⟨_, _, _, a', cap', z2, z3, z4, z5, rfl, z6, z7⟩, rfl, by simpa [V.ids] using q2, by simp⟩
      · cases hd
  | abk l k =>
    intro cs R b b' h h' v m ht hn hr hd
    obtain ⟨⟨y, rfl, hy⟩, rfl⟩ := hr
    cases l with
    | zero => simp [des] at hd
    | succ l =>
      simp only [des] at hd
      split at hd
      · rename_i id k' hx
        split at hd
        · rename_i hbe
          have := Bk.beq_eq hbe; subst this
          simp only [Option.some.injEq, Prod.mk.injEq] at hd
          obtain ⟨rfl, rfl, rfl⟩ := hd
          obtain ⟨q1, q2⟩ := ht.at_ (l + 1) id (by simp [idAt, hx, slotV])
          obtain ⟨bb, qq, z1, rfl, z3⟩ := hy (by simp)
          rw [z1] at q1
          obtain ⟨T, hT⟩ := fix_blk q1.symm
          exact ⟨m, [], Laid.nil m h, ⟨bb, _, hT, by cases k <;> rfl, by cases k <;> exact z3⟩, rfl, by simpa [V.ids] using q2, by simp⟩
        · cases hd
      · cases hd
  | blk l k p =>
    intro cs R b b' h h' v m ht hn hr hd
    obtain ⟨bb, qq, rfl, h2, hlt, h3, hokl, rfl⟩ := hr
    cases l with
    | zero =>
      simp only [des] at hd
      split at hd
      · rename_i h1 hnb
        simp only [Option.some.injEq, Prod.mk.injEq] at hd
        obtain ⟨rfl, rfl, rfl⟩ := hd
        obtain ⟨hb, rfl⟩ := newBox_some hnb
        refine ⟨updL m b (.blk bb qq), [b], laid_new hb.1 (by simp [Box.ids]) rfl ⟨bb, qq, updL_same _ _ _, hlt, h3⟩, ⟨bb, qq, updL_same _ _ _, rfl, hokl⟩, rfl, ?_, by simp⟩
        intro id hi; simp [V.ids] at hi; subst hi; simp [getBox_cons]
      · cases hd
    | succ l =>
      simp only [des] at hd
      split at hd
      · rename_i id k' hx
        split at hd
        · rename_i hbe
          have := Bk.beq_eq hbe; subst this
          simp only [Option.some.injEq, Prod.mk.injEq] at hd
          obtain ⟨rfl, rfl, rfl⟩ := hd
          have hat : idAt tb (l + 1) = some id := by simp [idAt, hx, slotV]
          obtain ⟨q1, q2⟩ := ht.at_ (l + 1) id hat
          have hm : (Loc.blk bb qq).fix = (m id).fix := by rw [← q1]; exact (h2 (by simp)).symm
          refine ⟨updL m id (.blk bb qq), [id], ?_, ⟨bb, qq, updL_same _ _ _, rfl, hokl⟩, rfl, ?_, by simp⟩
          · exact laid_back (w := w) (F := F) (bx := .blk k p) q2 hat (by simp [Box.ids]) rfl hm ⟨bb, qq, updL_same _ _ _, hlt, h3⟩
          · intro i hi; simp [V.ids] at hi; subst hi; rw [getBox_set q2, if_pos rfl]; simp
        · cases hd
      · cases hd
  | pel l e j p =>
    intro cs R b b' h h' v m ht hn hr hd
    obtain ⟨bb, qq, y, rfl, hy, h2, hlt, h3, hokl, rfl⟩ := hr
    cases l with
    | zero => simp [des] at hd
    | succ l =>
      simp only [des] at hd
      split at hd
      · rename_i id k' hx
        split at hd
        · rename_i hbe
          have := Bk.beq_eq hbe; subst this
          simp only [Option.some.injEq, Prod.mk.injEq] at hd
          obtain ⟨rfl, rfl, rfl⟩ := hd
          have hat : idAt tb (l + 1) = some id := by simp [idAt, hx, slotV]
          obtain ⟨q1, q2⟩ := ht.at_ (l + 1) id hat
          have hm : (Loc.blk bb qq).fix = (m id).fix := by rw [← q1]; exact (h2 (by simp)).symm
          refine ⟨updL m id (.blk bb qq), [id], ?_, ⟨y, rfl, by rw [updL_same]; exact hy⟩, rfl, ?_, by simp⟩
          · exact laid_back (w := w) (F := F) (bx := .blk (.at e) p) q2 hat (by simp [Box.ids]) rfl hm ⟨bb, qq, updL_same _ _ _, hlt, h3⟩
          · intro i hi; simp [V.ids] at hi; subst hi; rw [getBox_set q2, if_pos rfl]; simp
        · cases hd
      · cases hd
  | own l e nl xs =>
    intro cs R b b' h h' v m ht hn hr hd
    obtain ⟨a, cap, rfl, h2, h3, h4, h5, h6, rfl⟩ := hr
    cases l with
    | zero =>
      simp only [des] at hd
      split at hd
      · rename_i h1 hnb
        simp only [Option.some.injEq, Prod.mk.injEq] at hd
        obtain ⟨rfl, rfl, rfl⟩ := hd
        obtain ⟨hb, rfl⟩ := newBox_some hnb
        refine ⟨updL m b (.arr a xs.length cap e), [b], laid_new hb.1 (by simp [Box.ids]) rfl ⟨a, cap, updL_same _ _ _, h3, h4, h5, h6⟩, ⟨_, _, _, updL_same _ _ _, rfl⟩, rfl, ?_, by simp⟩
        intro id hi; simp [V.ids] at hi; subst hi; simp [getBox_cons]
      · cases hd
    | succ l =>
      simp only [des] at hd
      split at hd
      · rename_i id e' hx
        split at hd
        · rename_i hbe
          have := Sh.beq_eq hbe; subst this
          simp only [Option.some.injEq, Prod.mk.injEq] at hd
          obtain ⟨rfl, rfl, rfl⟩ := hd
          have hat : idAt tb (l + 1) = some id := by simp [idAt, hx, slotV]
          obtain ⟨q1, q2⟩ := ht.at_ (l + 1) id hat
          have hm : m id = .arr a xs.length cap e := by rw [h2 (by simp)] at q1; exact fix_arr q1.symm
          refine ⟨updL m id (.arr a xs.length cap e), [id], ?_, ⟨_, _, _, updL_same _ _ _, rfl⟩, rfl, ?_, by simp⟩
          · exact laid_back q2 hat (by simp [Box.ids]) rfl (by rw [hm]) ⟨a, cap, updL_same _ _ _, h3, h4, h5, h6⟩
          · intro i hi; simp [V.ids] at hi; subst hi; rw [getBox_set q2, if_pos rfl]; simp
        · cases hd
      · cases hd
  | box l sh t ih =>
    intro cs R b b' h h' v m ht hn hr hd
    obtain ⟨bb, o, ds, Q, rfl, h2, h3, h4, h5, rfl⟩ := hr
    have hn2 : (nz (t.labs ++ [l])).Nodup := by
      have : (nz (l :: t.labs)).Perm (nz (t.labs ++ [l])) := (List.perm_append_comm (l₁ := [l]) (l₂ := t.labs)).filter _
      exact this.nodup_iff.1 hn
    have hn1 : (nz t.labs).Nodup := by rw [nz_append] at hn2; exact (List.nodup_append.1 hn2).1
    simp only [des] at hd
    split at hd
    · rename_i v1 b1 h1 hd1
      obtain ⟨m1, n1, g1, g2, g3, g4, g5⟩ := ih ht hn1 h3 hd1
      have ht1 := ht.ext g1.ext
      split at hd
      · rename_i hfit
        have key : ∀ {m2 : Lm} {h2' : Heap} {n2 : List Nat}, Laid w F tb [l] m1 h1 m2 h2' n2 [rgN bb o sh.size] → Laid w F tb (l :: t.labs) m h m2 h2' (n1 ++ n2) (rgN bb o sh.size :: Q) := fun hl =>
          (g1.trans ht hn2 hl).cast (fun k => by simp [or_comm]) (List.perm_append_comm (l₁ := Q) (l₂ := [rgN bb o sh.size]))
        cases l with
        | zero =>
          simp only at hd
          split at hd
          · rename_i h2' hnb
            simp only [Option.some.injEq, Prod.mk.injEq] at hd
            obtain ⟨rfl, rfl, rfl⟩ := hd
            obtain ⟨hb, rfl⟩ := newBox_some hnb
            have hne : ∀ j ∈ v1.ids, j ≠ b1 := fun j hj e => g4 j hj (e ▸ hb.1)
            refine ⟨updL m1 b1 (.obj bb o sh), n1 ++ [b1], key ?_, ⟨_, rfl, ?_⟩, rfl, ?_, by simp⟩
            · exact laid_new (l := .obj bb o sh) hb.1 (fun j hj => g4 j hj) (des_ntv _ hd1) ⟨bb, o, ds, updL_same _ _ _, hfit, g2.maps _ _ (fun j hj => updL_other _ _ (hne j hj)), h4, h5⟩
            · rw [updL_same]; exact ⟨0, by simp [shAt], rfl⟩
            · intro id hi; simp [V.ids] at hi; subst hi; simp [getBox_cons]
          · cases hd
        | succ l =>
          simp only at hd
          split at hd
          · rename_i id sh' hx
            split at hd
            · rename_i hbe
              have := Sh.beq_eq hbe; subst this
              simp only [Option.some.injEq, Prod.mk.injEq] at hd
              obtain ⟨rfl, rfl, rfl⟩ := hd
              have hat : idAt tb (l + 1) = some id := by simp [idAt, hx, slotV]
              obtain ⟨q1, q2⟩ := ht1.at_ (l + 1) id hat
              have hm : m1 id = .obj bb o sh := by rw [h2 (by simp)] at q1; exact fix_obj q1.symm
              have hu : updL m1 id (.obj bb o sh) = m1 := by
                funext j; unfold updL; split
                · rename_i e; rw [e, hm]
                · rfl
              refine ⟨m1, n1 ++ [id], key ?_, ⟨_, rfl, ?_⟩, rfl, ?_, by simp⟩
              · have := laid_back (F := F) (w := w) (bx := .obj sh v1) (m := m1) (l := .obj bb o sh) q2 hat (fun j hj => g4 j hj) (des_ntv _ hd1) (by rw [hm]) (by rw [hu]; exact ⟨bb, o, ds, hm, hfit, g2, h4, h5⟩)
                rw [hu] at this; exact this
              · rw [hm]; exact ⟨0, by simp [shAt], rfl⟩
              · intro i hi; simp [V.ids] at hi; subst hi; rw [getBox_set q2, if_pos rfl]; simp
            · cases hd
          · cases hd
      · cases hd
    · cases hd
  | fn f t ih =>
    intro cs R b b' h h' v m ht hn hr hd
    obtain ⟨caps, rfl, h2⟩ := hr
    simp only [des] at hd
    split at hd
    · rename_i v1 b1 h1 hd1
      simp only [Option.some.injEq, Prod.mk.injEq] at hd
      obtain ⟨rfl, rfl, rfl⟩ := hd
      obtain ⟨m1, n1, g1, g2, g3, g4, g5⟩ := ih ht hn h2 hd1
      exact ⟨m1, n1, g1, ⟨caps, rfl, g2⟩, rfl, fun id hi => g4 id (by simpa [V.ids] using hi), by simp⟩
    · cases hd
  | pair x y ihx ihy =>
    intro cs R b b' h h' v m ht hn hr hd
    obtain ⟨c1, c2, Q, S, rfl, rfl, h3, h4⟩ := hr
    simp only [des] at hd
    split at hd
    · rename_i v1 b1 h1 hd1
      split at hd
      · rename_i v2 b2 h2 hd2
        simp only [Option.some.injEq, Prod.mk.injEq] at hd
        obtain ⟨rfl, rfl, rfl⟩ := hd
        have hn' := hn
        simp only [T.labs] at hn'
        rw [nz_append] at hn'
        obtain ⟨n1, n2, _⟩ := List.nodup_append.1 hn'
        obtain ⟨m1, w1, g1, g2, g3, g4, g5⟩ := ihx ht n1 h3 hd1
        obtain ⟨m2, w2, k1, k2, k3, k4, k5⟩ := ihy (ht.ext g1.ext) n2 h4 hd2
        refine ⟨m2, w1 ++ w2, g1.trans ht hn k1, ⟨c1, c2, rfl, g2.fixs _ _ (fun j hj => (k1.ext j (g4 j hj)).1) (des_ntv _ hd1), k2⟩, rfl, ?_, by simp⟩
        intro id hi
        simp only [V.ids, List.mem_append] at hi
        rcases hi with hi | hi
        · exact (k1.ext id (g4 id hi)).2
        · exact k4 id hi
      · cases hd
    · cases hd
theorem set_pres {id jd : Nat} {bx : Box} {h : Heap} (hp : getBox id (setBox jd bx h) ≠ none) : getBox id h ≠ none := by
  intro hn
  rw [getBox_none] at hn
  exact hp (getBox_none.2 (by rw [keys_set]; exact hn))
theorem new_nm {h h' : Heap} {b id : Nat} {bx : Box} (hg : newBox h b bx = some h') (hn : namedB id = true) (hp : getBox id h' ≠ none) : getBox id h ≠ none := by
  obtain ⟨hf, rfl⟩ := newBox_some hg
  rw [getBox_cons] at hp
  split at hp
  · rename_i e; subst e; rw [hf.2] at hn; cases hn
  · exact hp
theorem des_nm {id : Nat} (hn : namedB id = true) : ∀ (t : T) {b b' : Nat} {h h' : Heap} {v : V}, des tb t b h = some (v, b', h') → getBox id h' ≠ none → getBox id h ≠ none := by
  intro t
  induction t with
  | u => intro b b' h h' v hd hp; simp only [des, Option.some.injEq, Prod.mk.injEq] at hd; obtain ⟨_, _, rfl⟩ := hd; exact hp
  | imm s p => intro b b' h h' v hd hp; simp only [des, Option.some.injEq, Prod.mk.injEq] at hd; obtain ⟨_, _, rfl⟩ := hd; exact hp
  | iptr s p => intro b b' h h' v hd hp; simp only [des, Option.some.injEq, Prod.mk.injEq] at hd; obtain ⟨_, _, rfl⟩ := hd; exact hp
  | ref l path sh =>
    intro b b' h h' v hd hp
    cases l with
    | zero => simp [des] at hd
    | succ l =>
      simp only [des] at hd
      split at hd
      · simp only [Option.some.injEq, Prod.mk.injEq] at hd; obtain ⟨_, _, rfl⟩ := hd; exact hp
      · simp only [Option.some.injEq, Prod.mk.injEq] at hd; obtain ⟨_, _, rfl⟩ := hd; exact hp
      · cases hd
  | pel l e j p =>
    intro b b' h h' v hd hp
    cases l with
    | zero => simp [des] at hd
    | succ l =>
      simp only [des] at hd
      split at hd
      · split at hd
        · simp only [Option.some.injEq, Prod.mk.injEq] at hd; obtain ⟨_, _, rfl⟩ := hd; exact set_pres hp
        · cases hd
      · cases hd
  | ali l =>
    intro b b' h h' v hd hp
    cases l with
    | zero => simp [des] at hd
    | succ l =>
      simp only [des] at hd
      split at hd
      · simp only [Option.some.injEq, Prod.mk.injEq] at hd; obtain ⟨_, _, rfl⟩ := hd; exact hp
      · cases hd
  | alw l lo n =>
    intro b b' h h' v hd hp
    cases l with
    | zero => simp [des] at hd
    | succ l =>
      simp only [des] at hd
      split at hd
      · simp only [Option.some.injEq, Prod.mk.injEq] at hd; obtain ⟨_, _, rfl⟩ := hd; exact hp
      · cases hd
  | abk l k =>
    intro b b' h h' v hd hp
    cases l with
    | zero => simp [des] at hd
    | succ l =>
      simp only [des] at hd
      split at hd
      · split at hd
        · simp only [Option.some.injEq, Prod.mk.injEq] at hd; obtain ⟨_, _, rfl⟩ := hd; exact hp
        · cases hd
      · cases hd
  | blk l k p =>
    intro b b' h h' v hd hp
    cases l with
    | zero =>
      simp only [des] at hd
      split at hd
      · rename_i h1 hnb
        simp only [Option.some.injEq, Prod.mk.injEq] at hd; obtain ⟨_, _, rfl⟩ := hd; exact new_nm hnb hn hp
      · cases hd
    | succ l =>
      simp only [des] at hd
      split at hd
      · split at hd
        · simp only [Option.some.injEq, Prod.mk.injEq] at hd; obtain ⟨_, _, rfl⟩ := hd; exact set_pres hp
        · cases hd
      · cases hd
  | own l e nl xs =>
    intro b b' h h' v hd hp
    cases l with
    | zero =>
      simp only [des] at hd
      split at hd
      · rename_i h1 hnb
        simp only [Option.some.injEq, Prod.mk.injEq] at hd; obtain ⟨_, _, rfl⟩ := hd; exact new_nm hnb hn hp
      · cases hd
    | succ l =>
      simp only [des] at hd
      split at hd
      · split at hd
        · simp only [Option.some.injEq, Prod.mk.injEq] at hd; obtain ⟨_, _, rfl⟩ := hd; exact set_pres hp
        · cases hd
      · cases hd
  | box l sh t ih =>
    intro b b' h h' v hd hp
    simp only [des] at hd
    split at hd
    · rename_i v1 b1 h1 hd1
      split at hd
      · cases l with
        | zero =>
          simp only at hd
          split at hd
          · rename_i h2' hnb
            simp only [Option.some.injEq, Prod.mk.injEq] at hd; obtain ⟨_, _, rfl⟩ := hd; exact ih hd1 (new_nm hnb hn hp)
          · cases hd
        | succ l =>
          simp only at hd
          split at hd
          · split at hd
            · simp only [Option.some.injEq, Prod.mk.injEq] at hd; obtain ⟨_, _, rfl⟩ := hd; exact ih hd1 (set_pres hp)
            · cases hd
          · cases hd
      · cases hd
    · cases hd
  | fn f t ih =>
    intro b b' h h' v hd hp
    simp only [des] at hd
    split at hd
    · rename_i v1 b1 h1 hd1
      simp only [Option.some.injEq, Prod.mk.injEq] at hd; obtain ⟨_, _, rfl⟩ := hd; exact ih hd1 hp
    · cases hd
  | pair x y ihx ihy =>
    intro b b' h h' v hd hp
    simp only [des] at hd
    split at hd
    · rename_i v1 b1 h1 hd1
      split at hd
      · rename_i v2 b2 h2 hd2
        simp only [Option.some.injEq, Prod.mk.injEq] at hd; obtain ⟨_, _, rfl⟩ := hd; exact ihx hd1 (ihy hd2 hp)
      · cases hd
    · cases hd
theorem desL_nm {id : Nat} (hn : namedB id = true) : ∀ (ts : List T) {b b' : Nat} {h h' : Heap} {vs : List V}, desL tb ts b h = some (vs, b', h') → getBox id h' ≠ none → getBox id h ≠ none
  | [], b, b', h, h', vs, hd, hp => by simp only [desL, Option.some.injEq, Prod.mk.injEq] at hd; obtain ⟨_, _, rfl⟩ := hd; exact hp
  | t :: ts, b, b', h, h', vs, hd, hp => by
    simp only [desL] at hd
    split at hd
    · rename_i v1 b1 h1' hd1
      split at hd
      · rename_i vs2 b2 h2' hd2
        simp only [Option.some.injEq, Prod.mk.injEq] at hd
        obtain ⟨_, _, rfl⟩ := hd
        exact des_nm hn t hd1 (desL_nm hn ts hd2 hp)
      · cases hd
    · cases hd
end
end Go.Eng
end
/-! What follows a call. Conditions: none. -/
section
set_option linter.unusedVariables false
set_option linter.unusedSimpArgs false
namespace Go.Eng
open Go.RowKit
section
variable {ml : Lm} {w : World} {F : Cells} {tb : List V}
theorem relS_of {m : Lm} {v : V} {x : Value} {t : T} {Q : List Rng} (ha : v.isAgg = t.isAgg) (hnu : t ≠ .u) (h : TRel1 ml w F t x Q) (hr : ∀ cs, TRel ml w F t cs Q → RelV m w F v cs) : RelS m w F v x := by
  by_cases hu : v = .u
  · subst hu; trivial
  · have key : if t.isAgg then ∃ cs, x = .agg cs ∧ TRel ml w F t cs.toList Q else TRel ml w F t [x] Q := by
      cases t <;> first | exact absurd rfl hnu | exact h
    rw [relS_def hu, ha]
    split
    · rename_i hg; rw [if_pos hg] at key; obtain ⟨cs, e, h1⟩ := key; exact ⟨cs, e, hr _ h1⟩
    · rename_i hg; rw [if_neg hg] at key; exact hr _ key
theorem trel1_cells {t : T} {x : Value} {Q : List Rng} (hnu : t ≠ .u) (h : TRel1 ml w F t x Q) : ∃ cs, TRel ml w F t cs Q ∧ valOf t.isAgg cs x := by
  have key : if t.isAgg then ∃ cs, x = .agg cs ∧ TRel ml w F t cs.toList Q else TRel ml w F t [x] Q := by
    cases t <;> first | exact absurd rfl hnu | exact h
  cases hg : t.isAgg with
  | true => rw [if_pos hg] at key; obtain ⟨cs, e, h1⟩ := key; exact ⟨_, h1, by simpa [valOf] using e⟩
  | false => rw [if_neg (by simp [hg])] at key; exact ⟨_, key, by simp [valOf]⟩
theorem relS_val {m : Lm} {v : V} {x : Value} {cs : List Value} (hv : valOf v.isAgg cs x) (h : RelV m w F v cs) : RelS m w F v x := by
  by_cases hu : v = .u
  · subst hu; trivial
  · rw [relS_def hu]
    cases hg : v.isAgg with
    | true => rw [hg] at hv; simp only [valOf, if_true] at hv; rw [if_pos rfl]; exact ⟨_, hv, by simpa using h⟩
    | false => rw [hg] at hv; simp only [valOf, Bool.false_eq_true, if_false] at hv; subst hv; rw [if_neg (by simp)]; exact h
theorem relS_maps {m m' : Lm} {v : V} {x : Value} (hm : ∀ id ∈ v.ids, m' id = m id) (h : RelS m w F v x) : RelS m' w F v x := by
  by_cases hu : v = .u
  · subst hu; trivial
  · rw [relS_def hu] at *
    by_cases ha : v.isAgg
    · rw [if_pos ha] at *; obtain ⟨cs, h1, h2⟩ := h; exact ⟨cs, h1, h2.maps _ _ hm⟩
    · rw [if_neg ha] at *; exact RelV.maps _ _ hm h
/-- The results' abstract values, each by itself. -/
def RelL (m : Lm) (w : World) (F : Cells) : List V → List Value → Prop
  | [], [] => True
  | v :: r, x :: q => RelS m w F v x ∧ (∀ y, v ≠ .tup y) ∧ RelL m w F r q
  | _, _ => False
theorem desL_ok : ∀ (ts : List T) {xs : List Value} {R : List Rng} {b b' : Nat} {h h' : Heap} {vs : List V} {m : Lm}, Tb ml m tb h → (nz (ts.flatMap T.labs)).Nodup → TRelL ml w F ts xs R → desL tb ts b h = some (vs, b', h') →
    ∃ m' new, Laid w F tb (ts.flatMap T.labs) m h m' h' new R ∧ RelL m' w F vs xs ∧ (∀ v ∈ vs, ∀ id ∈ v.ids, getBox id h' ≠ none)
  | [], xs, R, b, b', h, h', vs, m, ht, hn, hr, hd => by
    simp only [desL, Option.some.injEq, Prod.mk.injEq] at hd
    obtain ⟨rfl, rfl, rfl⟩ := hd
    obtain ⟨rfl, rfl⟩ := hr
    exact ⟨m, [], Laid.nil m h, trivial, by simp⟩
  | t :: ts, xs, R, b, b', h, h', vs, m, ht, hn, hr, hd => by
    obtain ⟨x, q, Q, S, rfl, rfl, h1, h2⟩ := hr
    simp only [desL] at hd
    split at hd
    · rename_i v1 b1 h1' hd1
      split at hd
      · rename_i vs2 b2 h2' hd2
        simp only [Option.some.injEq, Prod.mk.injEq] at hd
        obtain ⟨rfl, rfl, rfl⟩ := hd
        have hn' := hn
        simp only [List.flatMap_cons] at hn'
        have hn'' := hn'
        rw [nz_append] at hn''
        obtain ⟨n1, n2, _⟩ := List.nodup_append.1 hn''
        have step : ∃ m1 w1, Laid w F tb t.labs m h m1 h1' w1 Q ∧ RelS m1 w F v1 x ∧ (∀ id ∈ v1.ids, getBox id h1' ≠ none) ∧ ∀ y, v1 ≠ .tup y := by
          by_cases hu : t = .u
          · subst hu
            simp only [des, Option.some.injEq, Prod.mk.injEq] at hd1
            obtain ⟨rfl, rfl, rfl⟩ := hd1
            have : Q = [] := h1
            subst this
            exact ⟨m, [], Laid.nil m h, trivial, by simp [V.ids], by simp⟩
          · obtain ⟨cs, k1, k2⟩ := trel1_cells hu h1
            obtain ⟨m1, w1, g1, g2, g3, g4, g5⟩ := des_ok t ht n1 k1 hd1
            exact ⟨m1, w1, g1, relS_val (by rw [g3]; exact k2) g2, g4, g5⟩
        obtain ⟨m1, w1, g1, g2, g4, g5⟩ := step
        obtain ⟨m2, w2, k1, k2, k3⟩ := desL_ok ts (ht.ext g1.ext) n2 h2 hd2
        refine ⟨m2, w1 ++ w2, g1.trans ht hn' k1, ⟨?_, g5, k2⟩, ?_⟩
        · exact g2.fixs (fun j hj => (k1.ext j (g4 j hj)).1) (des_ntv _ hd1)
        · intro v hv id hi
          rcases List.mem_cons.1 hv with rfl | hv
          · exact (k1.ext id (g4 id hi)).2
          · exact k3 v hv id hi
      · cases hd
    · cases hd
/-! ### values in which no slice stands -/
theorem Rep.flat {w' : World} {F' : Cells} : ∀ (s : Sh) {p : P} {cs : List Value}, s.flat = true → Rep w F s p cs → Rep w' F' s p cs
  | .int _, _, _, _, h => h
  | .bool, _, _, _, h => h
  | .str, _, _, _, h => h
  | .fn, _, _, _, h => h
  | .ptr, _, _, _, h => h
  | .map, _, _, _, h => h
  | .unit, _, _, _, h => h
  | .slice e, _, _, hf, _ => by simp [Sh.flat] at hf
  | .pair a b, _, _, hf, ⟨x, y, c, d, h1, h2, h3, h4⟩ => by
    simp only [Sh.flat, Bool.and_eq_true] at hf
    exact ⟨x, y, c, d, h1, h2, Rep.flat a hf.1 h3, Rep.flat b hf.2 h4⟩
  | .arr n e, _, _, hf, ⟨xs, h1, h2, h3, h4⟩ => ⟨xs, h1, h2, h3, fun i hi => Rep.flat e (by simpa [Sh.flat] using hf) (h4 i hi)⟩
theorem OneRel.flat {F' : Cells} {s : Sh} {p : P} {x : Value} (hf : s.flat = true) (h : OneRel w F s p x) : OneRel w F' s p x := by
  unfold OneRel at *
  by_cases ha : s.isAgg
  · rw [if_pos ha] at *; obtain ⟨cs, h1, h2⟩ := h; exact ⟨cs, h1, Rep.flat s hf h2⟩
  · rw [if_neg ha] at *; exact Rep.flat s hf h
theorem EntRel.flat {F' : Cells} {k v : Sh} (hk : k.flat = true) (hv : v.flat = true) : ∀ {l : List P} {es : List MapEntry}, EntRel w F k v l es → EntRel w F' k v l es
  | [], [], _ => trivial
  | _ :: _, _ :: _, ⟨⟨kp, vp, h1, h2, h3⟩, h4⟩ => ⟨⟨kp, vp, h1, h2.flat hk, h3.flat hv⟩, EntRel.flat hk hv h4⟩
theorem BkRel.flat {F' : Cells} {k : Bk} {p : P} {b : Nat} {q : BkL} (hf : k.flat = true) (h : BkRel w F k p b q) : BkRel w F' k p b q := by
  cases k with
  | it => exact h
  | mp k v =>
    simp only [Bk.flat, Bool.and_eq_true] at hf
    obtain ⟨l, es, clock, h1, h2, h3, h4⟩ := h
    exact ⟨l, es, clock, h1, h2, h3.flat hf.1 hf.2, h4⟩
  | _ => cases hf
theorem TRel.flat {F' : Cells} : ∀ (t : T) {cs : List Value} {R : List Rng}, t.flat = true → TRel ml w F t cs R → TRel ml w F' t cs R
  | .u, _, _, _, h => h
  | .imm s p, _, _, hf, ⟨h, e⟩ => ⟨Rep.flat s hf h, e⟩
  | .iptr _ _, _, _, hf, _ => by simp [T.flat] at hf
  | .ref _ _ _, _, _, _, h => h
  | .ali _, _, _, _, h => h
  | .alw _ _ _, _, _, _, h => h
  | .abk _ _, _, _, _, h => h
  | .blk _ _ _, _, _, hf, ⟨b, q, h1, h2, hl, h3, h4⟩ => ⟨b, q, h1, h2, hl, h3.flat hf, h4⟩
  | .fn _ t, _, _, hf, ⟨caps, h1, h2⟩ => ⟨caps, h1, TRel.flat t hf h2⟩
  | .pair a b, _, _, hf, ⟨c, d, Q, S, h1, h2, h3, h4⟩ => by
    simp only [T.flat, Bool.and_eq_true] at hf
    exact ⟨c, d, Q, S, h1, h2, TRel.flat a hf.1 h3, TRel.flat b hf.2 h4⟩
  | .box l s t, _, _, hf, ⟨b, o, ds, Q, h1, h2, h3, h4, h5, h6⟩ => ⟨b, o, ds, Q, h1, h2, TRel.flat t hf h3, h4, h5, h6⟩
  | .own l e nl xs, _, _, hf, ⟨a, cap, h1, h2, h3, h4, h5, h6, h7⟩ => ⟨a, cap, h1, h2, h3, h4, h5, fun b o ha => ⟨fun i hi => let ⟨c, p, q⟩ := (h6 b o ha).1 i hi; ⟨c, Rep.flat e hf p, q⟩, (h6 b o ha).2⟩, h7⟩
theorem TRelL.flat {F' : Cells} : ∀ (ts : List T) {xs : List Value} {R : List Rng}, ts.all T.flat = true → TRelL ml w F ts xs R → TRelL ml w F' ts xs R
  | [], _, _, _, h => h
  | t :: r, _, _, hf, ⟨x, q, Q, S, h1, h2, h3, h4⟩ => by
    simp only [List.all_cons, Bool.and_eq_true] at hf
    refine ⟨x, q, Q, S, h1, h2, ?_, TRelL.flat r hf.2 h4⟩
    have hf1 := hf.1
    cases t <;> simp only [TRel1] at h3 ⊢ <;> first | exact h3 | (split at h3 <;> first | (rename_i hg; rw [if_pos hg]; obtain ⟨cs, e, p⟩ := h3; exact ⟨cs, e, TRel.flat _ hf1 p⟩) | (rename_i hg; rw [if_neg hg]; exact TRel.flat _ hf1 h3))
theorem TRelL.append : ∀ (ts : List T) {us : List T} {xs ys : List Value} {R : List Rng}, xs.length = ts.length → TRelL ml w F (ts ++ us) (xs ++ ys) R → ∃ Q S, R = Q ++ S ∧ TRelL ml w F ts xs Q ∧ TRelL ml w F us ys S
  | [], us, xs, ys, R, hl, h => by
    cases xs with
    | nil => exact ⟨[], R, rfl, ⟨rfl, rfl⟩, h⟩
    | cons _ _ => simp at hl
  | t :: r, us, xs, ys, R, hl, h => by
    cases xs with
    | nil => simp at hl
    | cons x xs =>
      obtain ⟨x', q, Q, S, h1, h2, h3, h4⟩ := h
      simp only [List.cons_append, List.cons.injEq] at h1
      obtain ⟨rfl, rfl⟩ := h1
      obtain ⟨Q2, S2, rfl, h5, h6⟩ := TRelL.append r (by simpa using hl) h4
      exact ⟨Q ++ Q2, S2, by simp [h2], ⟨x, xs, Q, Q2, rfl, rfl, h3, h5⟩, h6⟩

theorem TRelL.app : ∀ {ts : List T} {us : List T} {xs ys : List Value} {Q S : List Rng}, TRelL ml w F ts xs Q → TRelL ml w F us ys S → TRelL ml w F (ts ++ us) (xs ++ ys) (Q ++ S)
  | [], us, xs, ys, Q, S, ⟨h1, h2⟩, g => by subst h1; subst h2; exact g
  | t :: ts, us, xs, ys, Q, S, ⟨v, q, Q1, S1, h1, h2, h3, h4⟩, g => by
    subst h1; subst h2
    exact ⟨v, q ++ ys, Q1, S1 ++ S, rfl, by simp, h3, TRelL.app h4 g⟩
theorem TRelL.mono {F' : Cells} (hk : Keep w F w F') : ∀ {ts : List T} {xs : List Value} {R : List Rng}, TRelL ml w F ts xs R → TRelL ml w F' ts xs R
  | [], _, _, h => h
  | t :: r, _, _, ⟨x, q, Q, S, h1, h2, h3, h4⟩ => by
    refine ⟨x, q, Q, S, h1, h2, ?_, h4.mono hk⟩
    cases t <;> simp only [TRel1] at h3 ⊢ <;> first | exact h3 | (split at h3 <;> first | (rename_i hg; rw [if_pos hg]; obtain ⟨cs, e, p⟩ := h3; exact ⟨cs, e, p.mono hk _ _ _ (fun _ _ _ => ⟨rfl, rfl⟩) (fun _ _ => rfl)⟩) | (rename_i hg; rw [if_neg hg]; exact h3.mono hk _ _ _ (fun _ _ _ => ⟨rfl, rfl⟩) (fun _ _ => rfl)))
/-! ### boxes that are gone -/
theorem killAll_ok : ∀ (dead : List Nat) (s : St), (keys s.h).Nodup →
    (keys (killAll dead s).h).Nodup ∧ (∀ j, getBox j (killAll dead s).h ≠ none ↔ j ∉ dead ∧ getBox j s.h ≠ none) ∧
    (∀ j bx, getBox j (killAll dead s).h = some bx → ∃ bx0, getBox j s.h = some bx0 ∧ (∀ m w F, BRel m w F j bx0 → BRel m w F j bx) ∧ ∀ i ∈ bx.ids, i ∈ bx0.ids ∧ i ∉ dead) ∧
    (∀ i, (∀ m w F x, Rel1 m w F (s.tmp i) x → Rel1 m w F ((killAll dead s).tmp i) x) ∧ ∀ j ∈ ((killAll dead s).tmp i).ids, j ∈ (s.tmp i).ids ∧ j ∉ dead)
  | [], s, hn => ⟨hn, fun j => by simp [killAll], fun j bx hj => ⟨bx, hj, fun _ _ _ h => h, fun i hi => ⟨hi, by simp⟩⟩, fun i => ⟨fun _ _ _ _ h => h, fun j hj => ⟨hj, by simp⟩⟩⟩
  | id :: r, s, hn => by
    have hk : keys (s.kill id).h = keys (delBox id s.h) := keys_map
    have hn1 : (keys (s.kill id).h).Nodup := by rw [hk]; exact keys_del_nd hn
    have hg : ∀ j, getBox j (s.kill id).h = (if j = id then none else getBox j s.h).map (Box.map (killLeaf id)) := fun j => by
      show getBox j ((delBox id s.h).map fun (j, b) => (j, b.map (killLeaf id))) = _
      rw [getBox_map, getBox_del hn]
    have ht : ∀ i, (s.kill id).tmp i = (s.tmp i).map (killLeaf id) := fun i => by
      show (({ s with h := delBox id s.h } : St).map (killLeaf id)).tmp i = _
      rw [St.tmp_map _ _ rfl]; rfl
    obtain ⟨h1, h2, h3, h4⟩ := killAll_ok r (s.kill id) hn1
    refine ⟨h1, fun j => ?_, fun j bx hj => ?_, fun i => ⟨fun m w F x hx => ?_, fun j hj => ?_⟩⟩
    · show getBox j (killAll r (s.kill id)).h ≠ none ↔ _
      rw [h2 j, hg j]
      by_cases e : j = id
      · simp [e]
      · rw [if_neg e]; simp [e]
    · obtain ⟨bx1, g1, g2, g3⟩ := h3 j bx hj
      rw [hg] at g1
      by_cases e : j = id
      · rw [if_pos e] at g1; cases g1
      · rw [if_neg e] at g1
        simp only [Option.map_eq_some_iff] at g1
        obtain ⟨bx0, hb0, rfl⟩ := g1
        refine ⟨bx0, hb0, fun m w F hb => g2 m w F (hb.map (killLeaf_ok (Keep.refl w F)) (killLeaf_fits id) (Keep.refl w F)), fun i hi => ?_⟩
        obtain ⟨p1, p2⟩ := g3 i hi
        cases bx0 with
        | obj sh v => obtain ⟨q1, q2⟩ := killLeaf_ids id v i p1; exact ⟨q1, by simp [q2, p2]⟩
        | arr e' n xs => simp [Box.map, Box.ids] at p1
        | blk k p => simp [Box.map, Box.ids] at p1
    · refine (h4 i).1 m w F x ?_
      rw [ht]; exact hx.map (killLeaf_ok (Keep.refl w F)) (killLeaf_imm id) (killLeaf_tup id)
    · obtain ⟨p1, p2⟩ := (h4 i).2 j hj
      rw [ht] at p1
      obtain ⟨q1, q2⟩ := killLeaf_ids id _ j p1
      exact ⟨q1, by simp [q2, p2]⟩
theorem killV_ok : ∀ (dead : List Nat) (v : V), (∀ m w F x, RelS m w F v x → RelS m w F (dead.foldl (fun v id => v.map (killLeaf id)) v) x) ∧ (∀ j ∈ (dead.foldl (fun v id => v.map (killLeaf id)) v).ids, j ∈ v.ids ∧ j ∉ dead) ∧
    ((∀ y, v ≠ .tup y) → ∀ y, dead.foldl (fun v id => v.map (killLeaf id)) v ≠ .tup y)
  | [], v => ⟨fun _ _ _ _ h => h, fun j hj => ⟨hj, by simp⟩, fun h => h⟩
  | id :: r, v => by
    obtain ⟨h1, h2, h3⟩ := killV_ok r (v.map (killLeaf id))
    refine ⟨fun m w F x hx => h1 m w F x (hx.map (killLeaf_ok (Keep.refl w F))), fun j hj => ?_, fun ht => h3 fun y e => ?_⟩
    · obtain ⟨p1, p2⟩ := h2 j hj
      obtain ⟨q1, q2⟩ := killLeaf_ids id _ j p1
      exact ⟨q1, by simp [q2, p2]⟩
    · cases v <;> first | exact absurd rfl (ht _) | (simp only [V.map] at e; cases killLeaf_tup _ _ _ e) | (simp only [V.map] at e; cases e)
end
end Go.Eng
end
/-! What follows a call: the frame's state behind it. Conditions: none. -/
section
set_option linter.unusedVariables false
set_option linter.unusedSimpArgs false
namespace Go.Eng
open Go.RowKit
theorem memB_iff {a : Nat} : ∀ {l : List Nat}, memB a l = true ↔ a ∈ l
  | [] => by simp [memB]
  | b :: r => by
    simp only [memB, Bool.or_eq_true, List.mem_cons, memB_iff (l := r)]
    rw [beq_iff]
theorem nodupB_iff : ∀ {l : List Nat}, nodupB l = true ↔ l.Nodup
  | [] => by simp [nodupB]
  | a :: r => by
    simp only [nodupB, Bool.and_eq_true, Bool.not_eq_true', List.nodup_cons, nodupB_iff (l := r)]
    refine and_congr ⟨fun h hm => ?_, fun h => ?_⟩ Iff.rfl
    · have : r.any (Nat.beq a) = true := List.any_eq_true.2 ⟨a, hm, beq_iff.2 rfl⟩
      rw [h] at this; cases this
    · cases hb : r.any (Nat.beq a) with
      | false => rfl
      | true => obtain ⟨x, hx, e⟩ := List.any_eq_true.1 hb; exact absurd (beq_iff.1 e ▸ hx) h
theorem fm_inj {f : V → Option Nat} : ∀ {l : List V} {i j : Nat} {x y : V} {a : Nat}, (l.filterMap f).Nodup → l[i]? = some x → l[j]? = some y → f x = some a → f y = some a → i = j
  | [], i, j, x, y, a, _, h, _, _, _ => by simp at h
  | z :: r, i, j, x, y, a, hn, hi, hj, hx, hy => by
    have mem : ∀ {k : Nat} {q : V}, r[k]? = some q → f q = some a → a ∈ r.filterMap f := fun hk hu => List.mem_filterMap.2 ⟨_, List.mem_of_getElem? hk, hu⟩
    cases i with
    | zero =>
      simp at hi; subst hi
      cases j with
      | zero => rfl
      | succ j =>
        simp at hj
        rw [List.filterMap_cons_some hx] at hn
        exact absurd (mem hj hy) (List.nodup_cons.1 hn).1
    | succ i =>
      simp at hi
      have hn' : (r.filterMap f).Nodup := by
        cases hz : f z with
        | none => rw [List.filterMap_cons_none hz] at hn; exact hn
        | some q => rw [List.filterMap_cons_some hz] at hn; exact (List.nodup_cons.1 hn).2
      cases j with
      | zero =>
        simp at hj; subst hj
        rw [List.filterMap_cons_some hy] at hn
        exact absurd (mem hi hx) (List.nodup_cons.1 hn).1
      | succ j => simp at hj; rw [fm_inj hn' hi hj hx hy]
theorem gone_ok {labs : List Nat} : ∀ (tb : List V) (n l : Nat) {x : V} {id : Nat}, tb[l]? = some x → slotV x = some id → n + l ∈ labs ∨ id ∈ gone tb n labs
  | [], n, l, x, id, h, _ => by simp at h
  | v :: r, n, l, x, id, h, hs => by
    cases l with
    | zero =>
      simp at h; subst h
      simp only [gone]
      split
      · rename_i hm; exact .inl (memB_iff.1 hm)
      · rw [hs]; exact .inr (by simp)
    | succ l =>
      simp at h
      have := gone_ok (labs := labs) r (n + 1) l h hs
      rw [show n + 1 + l = n + (l + 1) from by omega] at this
      refine this.imp (fun q => q) fun q => ?_
      simp only [gone]
      split
      · exact q
      · split
        · exact List.mem_cons_of_mem _ q
        · exact q
theorem dj_of {m : Lm} : ∀ {l : List Nat}, Dj (l.flatMap fun id => (m id).rng) → ∀ i ∈ l, ∀ j ∈ l, i ≠ j → ∀ b o, (m i).has b o → ¬ (m j).has b o := by
  intro l h
  have h2 := (List.pairwise_flatMap.1 h).2
  clear h
  have key : ∀ i j, (∀ x ∈ (m i).rng, ∀ y ∈ (m j).rng, ∀ b o, x.has b o → ¬ y.has b o) → ∀ b o, (m i).has b o → ¬ (m j).has b o := by
    intro i j hx b o h1 h2
    obtain ⟨r, hr, h3⟩ := (has_rng _ b o).1 h1
    obtain ⟨q, hq, h4⟩ := (has_rng _ b o).1 h2
    exact hx r hr q hq b o h3 h4
  induction l with
  | nil => intro i hi; cases hi
  | cons a r ih =>
    obtain ⟨g1, g2⟩ := List.pairwise_cons.1 h2
    intro i hi j hj hij b o h3 h4
    rcases List.mem_cons.1 hi with e | hi'
    · rcases List.mem_cons.1 hj with e' | hj'
      · exact hij (e.trans e'.symm)
      · subst e; exact key _ _ (g1 j hj') b o h3 h4
    · rcases List.mem_cons.1 hj with e' | hj'
      · subst e'; exact key _ _ (g1 i hi') b o h4 h3
      · exact ih g2 i hi' j hj' hij b o h3 h4
theorem Dj.perm {R Q : List Rng} (h : Dj R) (p : R.Perm Q) : Dj Q := by
  refine (p.pairwise_iff ?_).1 h
  intro x y hxy b o h1 h2; exact hxy b o h2 h1
theorem inRs_perm {R Q : List Rng} (p : R.Perm Q) {b o : Nat} : inRs R b o ↔ inRs Q b o :=
  ⟨fun ⟨r, hr, h⟩ => ⟨r, p.mem_iff.1 hr, h⟩, fun ⟨r, hr, h⟩ => ⟨r, p.mem_iff.2 hr, h⟩⟩
theorem inRs_tb {m : Lm} {tb : List V} {b o : Nat} : inRs (tb.flatMap (rngV m)) b o ↔ ∃ x ∈ tb, ∃ id, slotV x = some id ∧ (m id).has b o := by
  constructor
  · rintro ⟨r, hr, h⟩
    obtain ⟨x, hx, hr⟩ := List.mem_flatMap.1 hr
    unfold rngV at hr
    split at hr
    · rename_i id hs; exact ⟨x, hx, id, hs, (has_rng _ b o).2 ⟨r, hr, h⟩⟩
    · cases hr
  · rintro ⟨x, hx, id, hs, h⟩
    obtain ⟨r, hr, h⟩ := (has_rng _ b o).1 h
    exact ⟨r, List.mem_flatMap.2 ⟨x, hx, by unfold rngV; rw [hs]; exact hr⟩, h⟩
theorem ofList_rel {m : Lm} {w : World} {F : Cells} (dead : List Nat) : ∀ {vs : List V} {xs : List Value}, RelL m w F vs xs → RelT m w F (ofList (vs.map fun v => dead.foldl (fun v id => v.map (killLeaf id)) v)) xs
  | [], [], _ => trivial
  | v :: r, x :: q, ⟨h1, _, h3⟩ => ⟨(killV_ok dead v).1 _ _ _ _ h1, ofList_rel dead h3⟩
  | [], _ :: _, h => h.elim
  | _ :: _, [], h => h.elim
theorem relL_len {m : Lm} {w : World} {F : Cells} : ∀ {vs : List V} {xs : List Value}, RelL m w F vs xs → vs.length = xs.length
  | [], [], _ => rfl
  | _ :: _, _ :: _, ⟨_, _, h⟩ => by simp [relL_len h]
  | [], _ :: _, h => h.elim
  | _ :: _, [], h => h.elim
theorem tup_rel {m : Lm} {w : World} {F : Cells} (dead : List Nat) {vs : List V} {xs : List Value} (h : RelL m w F vs xs) :
    Rel1 m w F (tupOf (vs.map fun v => dead.foldl (fun v id => v.map (killLeaf id)) v)) (retV xs) := by
  have hl := relL_len h
  match vs, xs, h with
  | [], [], h => exact ⟨_, rfl, trivial⟩
  | [v], [x], h =>
    obtain ⟨h1, h2, _⟩ := h
    exact (rel1_def ((killV_ok dead v).2.2 h2)).2 ((killV_ok dead v).1 _ _ _ _ h1)
  | v :: v' :: r, x :: x' :: q, h =>
    refine ⟨_, rfl, ?_⟩
    have := ofList_rel dead h
    simpa using this
  | [], _ :: _, h => exact h.elim
  | _ :: _, [], h => exact h.elim
  | [_], _ :: _ :: _, h => simp at hl
  | _ :: _ :: _, [_], h => simp at hl
theorem tup_ids (dead : List Nat) {vs : List V} : ∀ id ∈ (tupOf (vs.map fun v => dead.foldl (fun v id => v.map (killLeaf id)) v)).ids, (∃ v ∈ vs, id ∈ v.ids) ∧ id ∉ dead := by
  intro id hi
  have key : ∃ v ∈ vs.map (fun v => dead.foldl (fun v id => v.map (killLeaf id)) v), id ∈ v.ids := by
    unfold tupOf at hi
    split at hi
    · rename_i v hv; rw [hv]; exact ⟨v, by simp, hi⟩
    · obtain ⟨y, hy, h2⟩ := ofList_ids _ id (by simpa [V.ids] using hi); exact ⟨y, hy, h2⟩
  obtain ⟨v, hv, h2⟩ := key
  obtain ⟨v0, hv0, rfl⟩ := List.mem_map.1 hv
  obtain ⟨p, q⟩ := (killV_ok dead v0).2.1 id h2
  exact ⟨⟨v0, hv0, p⟩, q⟩

theorem gone_sub {labs : List Nat} : ∀ (tb : List V) (n : Nat) {id : Nat}, id ∈ gone tb n labs → ∃ x ∈ tb, slotV x = some id
  | [], _, _, h => by cases h
  | v :: r, n, id, h => by
    simp only [gone] at h
    split at h
    · obtain ⟨x, h1, h2⟩ := gone_sub r (n + 1) h; exact ⟨x, List.mem_cons_of_mem _ h1, h2⟩
    · split at h
      · rename_i j hj
        rcases List.mem_cons.1 h with rfl | h
        · exact ⟨v, by simp, hj⟩
        · obtain ⟨x, h1, h2⟩ := gone_sub r (n + 1) h; exact ⟨x, List.mem_cons_of_mem _ h1, h2⟩
      · obtain ⟨x, h1, h2⟩ := gone_sub r (n + 1) h; exact ⟨x, List.mem_cons_of_mem _ h1, h2⟩
theorem killAll_z : ∀ (dead : List Nat) (s : St), (killAll dead s).z = s.z
  | [], _ => rfl
  | id :: r, s => by rw [killAll, killAll_z r]; rfl
section
variable {Rr : Type} {X X' : Cells} {S0 : Base} {w0 : World} {N : Nat} {m ml : Lm} {s : St} {tm : Array Value} {w w' : World}
theorem dv_leaf {F : Cells} : LeafOk m w F F V.dv where
  u := rfl
  rel := by
    intro v cs h
    cases v <;> simp only [V.dv] <;> try exact h
    obtain ⟨b, q, v, _, rfl, h3, _⟩ := h; exact h3
  agg := by intro v; cases v <;> rfl
theorem dv_ntv : ∀ (v : V), (v.map V.dv).ntv = true := by
  intro v
  induction v with
  | fn f c ih => exact ih
  | pair a b iha ihb => simp [V.map, V.ntv, iha, ihb]
  | tup v ih => exact ih
  | _ => rfl
theorem dv_mids : ∀ (v : V), ∀ i ∈ (v.map V.dv).ids, i ∈ v.ids := by
  intro v
  induction v with
  | fn f c ih => exact ih
  | pair a b iha ihb =>
    intro i hi
    simp only [V.map, V.ids, List.mem_append] at hi ⊢
    exact hi.imp (iha i) (ihb i)
  | tup v ih => exact ih
  | tv id n e p => intro i hi; cases hi
  | _ => intro i hi; exact hi
theorem dv_fits (v : V) (t : Sh) (h : v.fits t = true) : v.dv.fits t = true := by
  cases v <;> first | exact h | exact tv_fits h
theorem R0.mapf (h : R0 X S0 w0 N m s tm w) {f : V → V} (hL : ∀ F, LeafOk m w F F f) (hi : ∀ s p, f (.imm s p) = .imm s p) (hnt : ∀ v y, f v = .tup y → v = .tup y) (hfit : ∀ v s, V.fits v s = true → V.fits (f v) s = true)
    (hids : ∀ v : V, ∀ i ∈ (v.map f).ids, i ∈ v.ids) : R0 X S0 w0 N m (s.map f) tm w := by
  have hh : (s.map f).h = s.h.map fun (j, b) => (j, b.map f) := rfl
  have hg : ∀ j, getBox j (s.map f).h = (getBox j s.h).map (Box.map f) := fun j => by rw [hh, getBox_map]
  have hp : ∀ j, getBox j (s.map f).h ≠ none ↔ getBox j s.h ≠ none := fun j => by rw [hg]; simp
  have hO : Own m (s.map f).h = Own m s.h := by
    funext b o
    exact propext ⟨fun ⟨j, hj, q⟩ => ⟨j, (hp j).1 hj, q⟩, fun ⟨j, hj, q⟩ => ⟨j, (hp j).2 hj, q⟩⟩
  have hF : Fb X m (s.map f).h = Fb X m s.h := by funext b o; simp only [Fb, hO]
  have hu : V.map f .u = .u := (hL (fun _ _ => False)).u
  refine h.upd (Fr.refl w.heap.size (fun _ _ => False) w) (fun _ _ q => q.elim) (fun b o ⟨j, hj, hz, hh⟩ => .inl ⟨j, (hp j).1 hj, hz, hh⟩) rfl
    (fun j hj => (hp j).2 (h.zk j hj)) ?_ ?_ ?_ ?_ ?_ ?_ (fun j hj _ => ⟨(hp j).1 hj, rfl, fun _ => rfl⟩)
  · rw [hh, keys_map]; exact h.nd
  · intro i
    rw [hF, St.tmp_map _ _ hu]
    exact (h.tmps i).map (hL _) hi hnt
  · intro i j hj
    rw [St.tmp_map _ _ hu] at hj
    exact (hp j).2 (h.wft i j (hids _ j hj))
  · intro j bx hj k hk'
    rw [hg] at hj
    simp only [Option.map_eq_some_iff] at hj
    obtain ⟨b0, hb0, rfl⟩ := hj
    cases b0 with
    | obj sh v => exact (hp k).2 (h.wfh j _ hb0 k (hids v k hk'))
    | arr e' n xs => simp [Box.map, Box.ids] at hk'
    | blk k0 p0 => simp [Box.map, Box.ids] at hk'
  · intro j bx hj
    rw [hF]
    rw [hg] at hj
    simp only [Option.map_eq_some_iff] at hj
    obtain ⟨b0, hb0, rfl⟩ := hj
    exact (h.box j b0 hb0).map (hL _) hfit (Keep.refl _ _)
  · exact fun i j hij hi' hj => h.disj i j hij ((hp i).1 hi') ((hp j).1 hj)
theorem R0.dv (h : R0 X S0 w0 N m s tm w) : R0 X S0 w0 N m (s.map V.dv) tm w :=
  h.mapf (fun _ => dv_leaf) (fun _ _ => rfl) (fun v y e => by cases v <;> simp [V.dv] at e ⊢; exact e) dv_fits dv_mids
theorem Fb_mapf (s : St) (f : V → V) : Fb X m (s.map f).h = Fb X m s.h := by
  have hh : (s.map f).h = s.h.map fun (j, b) => (j, b.map f) := rfl
  have hp : ∀ j, getBox j (s.map f).h ≠ none ↔ getBox j s.h ≠ none := fun j => by rw [hh, getBox_map]; simp
  have hO : Own m (s.map f).h = Own m s.h := by
    funext b o
    exact propext ⟨fun ⟨j, hj, q⟩ => ⟨j, (hp j).1 hj, q⟩, fun ⟨j, hj, q⟩ => ⟨j, (hp j).2 hj, q⟩⟩
  funext b o; simp only [Fb, hO]
theorem afterCall_ok0 (h : R0 X S0 w0 N m s tm w) {tb : List V} {lent : List Nat} {b : Nat} {r : Res} {k : V → St → Option Rr} {rr : Rr} {vs cargs : List Value} {R' : List Rng}
    (hT : ∀ x ∈ tb, Tok m s.h x) (hTz : ∀ x ∈ tb, ∀ id, slotV x = some id → memB id s.z = false) (hnd : nodupB (tb.filterMap slotV) = true) (hml : ∀ l v id, tb[l]? = some v → slotV v = some id → ml (l + 1) = m id)
    (hX : lent = [] → ∀ b o, Fb X m s.h b o → X' b o ∨ inRs (tb.flatMap (rngV m)) b o)
    (hfr : Fr S0.dk w.heap.size (inRs (tb.flatMap (rngV m))) w w') (hrel : TRelL ml w' (fun b o => X' b o ∨ inRs R' b o) (r.ret ++ r.args) (vs ++ cargs) R')
    (hdj : Dj R') (hR' : ∀ b o, inRs R' b o → inRs (tb.flatMap (rngV m)) b o ∨ w.heap.size ≤ b) (hvl : vs.length = r.ret.length)
    (hnt : ∀ i, (s.tmp i).ntv = true) (hnb : ∀ j bx, getBox j s.h = some bx → bx.ntv = true)
    (he : afterCallN s b tb lent r k = some rr) :
    ∃ V s' m', k V s' = some rr ∧ R0 X S0 w0 N m' s' tm w' ∧ Rel1 m' w' (Fb X m' s'.h) V (retV vs) ∧ ∀ id ∈ V.ids, getBox id s'.h ≠ none := by
  unfold afterCallN at he
  obtain ⟨hc, he⟩ := cond_some he
  rw [Bool.and_eq_true] at hc
  obtain ⟨hc1, hc2⟩ := hc
  have hc1 := nodupB_iff.1 hc1
  split at he
  case h_2 => cases he
  rename_i as b1 h1 hd1
  split at he
  case h_2 => cases he
  rename_i rs b2 h2 hd2
  generalize hlabs : nz (r.args.flatMap T.labs ++ r.ret.flatMap T.labs) = labs at *
  generalize hdead : gone tb 1 labs = dead at *
  -- the set that the told things are judged by
  obtain ⟨F0, hF0, hF1⟩ : ∃ F0 : Cells, TRelL ml w' F0 (r.ret ++ r.args) (vs ++ cargs) R' ∧ ((∀ b o, F0 b o) ∨ (lent = [] ∧ ∀ b o, F0 b o ↔ (X' b o ∨ inRs R' b o))) := by
    rw [Bool.or_eq_true] at hc2
    rcases hc2 with q | q
    · exact ⟨_, hrel, .inr ⟨by simpa using q, fun b o => Iff.rfl⟩⟩
    · refine ⟨fun _ _ => True, TRelL.flat _ ?_ hrel, .inl fun _ _ => trivial⟩
      simpa [flatR, List.all_append] using q
  obtain ⟨Q, S, rfl, hr1, hr2⟩ := TRelL.append r.ret hvl hF0
  have htb : Tb ml m tb s.h := by
    refine ⟨fun l id hi => ?_, fun l id e hi => ?_, fun l l' id hi hi' => ?_⟩
    · cases l with
      | zero => simp [idAt] at hi
      | succ l =>
        simp only [idAt, Option.bind_eq_some_iff] at hi
        obtain ⟨x, hx, hs⟩ := hi
        refine ⟨by rw [hml l x id hx hs], ?_⟩
        obtain ⟨⟨id', h1', h2'⟩, _⟩ := hT x (List.mem_of_getElem? hx)
        rw [hs] at h1'; obtain rfl := Option.some.inj h1'; exact h2'
    · exact (hT _ (List.mem_of_getElem? hi)).2 id e rfl
    · cases l with
      | zero => simp [idAt] at hi
      | succ l =>
        cases l' with
        | zero => simp [idAt] at hi'
        | succ l' =>
          simp only [idAt, Option.bind_eq_some_iff] at hi hi'
          obtain ⟨x, hx, hs⟩ := hi
          obtain ⟨y, hy, hs'⟩ := hi'
          rw [fm_inj (nodupB_iff.1 hnd) hx hy hs hs']
  rw [← hlabs] at hc1
  have hc1' := hc1
  rw [nz_append] at hc1'
  obtain ⟨nd1, nd2, _⟩ := List.nodup_append.1 hc1'
  obtain ⟨m1, n1, g1, g2, g3⟩ := desL_ok r.args htb nd1 hr2 hd1
  obtain ⟨m2, n2, k1, k2, k3⟩ := desL_ok r.ret (htb.ext g1.ext) nd2 hr1 hd2
  have L := g1.trans htb hc1 k1
  have Lr : ((n1 ++ n2).flatMap fun id => (m2 id).rng).Perm (Q ++ S) := L.rng.trans List.perm_append_comm
  generalize hnew : n1 ++ n2 = new at L Lr
  have hkn : (keys h2).Nodup := L.keys h.nd
  obtain ⟨a1, a2, a3, a4⟩ := killAll_ok dead { s with h := h2 } hkn
  -- a box of the frame that was moved came back, or is gone
  have hback : ∀ x ∈ tb, ∀ id, slotV x = some id → id ∉ dead → id ∈ new := by
    intro x hx id hs hnd'
    obtain ⟨l, hl⟩ := List.mem_iff_getElem?.1 hx
    rcases gone_ok (labs := labs) tb 1 l hl hs with q | q
    · rw [← hlabs] at q
      obtain ⟨q1, q2⟩ := mem_nz.1 q
      obtain ⟨id', p1, p2⟩ := L.labs _ q1 q2
      rw [show 1 + l = l + 1 from by omega] at p1
      simp only [idAt, hl, Option.bind_some, hs, Option.some.injEq] at p1
      subst p1; exact p2
    · exact absurd (hdead ▸ q) hnd'
  have hRown : ∀ b o, inRs (tb.flatMap (rngV m)) b o → Own m s.h b o := by
    intro b o hb
    obtain ⟨x, hx, id, hs, hh⟩ := inRs_tb.1 hb
    obtain ⟨⟨id', p1, p2⟩, _⟩ := hT x hx
    rw [hs] at p1; obtain rfl := Option.some.inj p1
    exact ⟨id, p2, hh⟩
  have hRownZ : ∀ b o, inRs (tb.flatMap (rngV m)) b o → OwnZ m s.h S0.z b o := by
    intro b o hb
    obtain ⟨x, hx, id, hs, hh⟩ := inRs_tb.1 hb
    obtain ⟨⟨id', p1, p2⟩, _⟩ := hT x hx
    rw [hs] at p1; obtain rfl := Option.some.inj p1
    exact ⟨id, p2, by rw [← h.hz]; exact hTz x hx id hs, hh⟩
  have hdz : ∀ id, memB id S0.z = true → id ∉ dead := by
    intro id hz hd
    rw [← hdead] at hd
    obtain ⟨x, hx, hs⟩ := gone_sub tb 1 hd
    have := hTz x hx id hs
    rw [h.hz, hz] at this; cases this
  have hzn : ∀ id, memB id S0.z = true → id ∉ new := by
    intro id hz hn
    rcases L.which id hn with q | ⟨l, _, q⟩
    · exact h.zk id hz q
    · cases l with
      | zero => simp [idAt] at q
      | succ l =>
        simp only [idAt, Option.bind_eq_some_iff] at q
        obtain ⟨x, hx, hs⟩ := q
        have := hTz x (List.mem_of_getElem? hx) id hs
        rw [h.hz, hz] at this; cases this
  have hRlt : ∀ b o, inRs (tb.flatMap (rngV m)) b o → b < w.heap.size := fun b o hb => h.own_lt (hRown b o hb)
  have hnewR : ∀ id ∈ new, ∀ b o, (m2 id).has b o → inRs (Q ++ S) b o := by
    intro id hi b o hh
    refine (inRs_perm Lr).1 ?_
    obtain ⟨q, hq, hh⟩ := (has_rng _ b o).1 hh
    exact ⟨q, List.mem_flatMap.2 ⟨id, hi, hq⟩, hh⟩
  -- boxes that were there and were not moved
  have hold : ∀ id, id ∉ dead → getBox id h2 ≠ none → id ∉ new → getBox id s.h ≠ none ∧ m2 id = m id ∧ ∀ b o, (m id).has b o → ¬ inRs (tb.flatMap (rngV m)) b o := by
    intro id hd hp hn
    have hp' : getBox id s.h ≠ none := by rw [← L.rest id hn]; exact hp
    refine ⟨hp', L.old id hp' hn, fun b o hh hr => ?_⟩
    obtain ⟨x, hx, id', hs, hh'⟩ := inRs_tb.1 hr
    obtain ⟨⟨id'', p1, p2⟩, _⟩ := hT x hx
    rw [hs] at p1; obtain rfl := Option.some.inj p1
    by_cases e : id = id'
    · subst e; exact hn (hback x hx id hs hd)
    · exact h.disj id id' e hp' p2 b o hh hh'
  have hpres : ∀ id, getBox id (killAll dead { s with h := h2 }).h ≠ none ↔ id ∉ dead ∧ getBox id h2 ≠ none := a2
  have hown : ∀ b o, Own m2 (killAll dead { s with h := h2 }).h b o → Own m s.h b o ∨ w.heap.size ≤ b := by
    rintro b o ⟨id, hp, hh⟩
    obtain ⟨p1, p2⟩ := (hpres id).1 hp
    by_cases hn : id ∈ new
    · rcases hR' b o (hnewR id hn b o hh) with q | q
      · exact .inl (hRown b o q)
      · exact .inr q
    · obtain ⟨q1, q2, q3⟩ := hold id p1 p2 hn
      rw [q2] at hh; exact .inl ⟨id, q1, hh⟩
  have hownZ : ∀ b o, OwnZ m2 (killAll dead { s with h := h2 }).h S0.z b o → OwnZ m s.h S0.z b o ∨ w.heap.size ≤ b := by
    rintro b o ⟨id, hp, hz, hh⟩
    obtain ⟨p1, p2⟩ := (hpres id).1 hp
    by_cases hn : id ∈ new
    · rcases hR' b o (hnewR id hn b o hh) with q | q
      · exact .inl (hRownZ b o q)
      · exact .inr q
    · obtain ⟨q1, q2, q3⟩ := hold id p1 p2 hn
      rw [q2] at hh; exact .inl ⟨id, q1, hz, hh⟩
  have hk := h.keep (m' := m2) (h' := (killAll dead { s with h := h2 }).h) hfr hRown hown
  have hkF : Keep w' F0 w' (Fb X m2 (killAll dead { s with h := h2 }).h) := by
    intro b o v hv hf
    refine ⟨hv, fun hf' => hf ?_⟩
    rcases hF1 with q | ⟨q, q'⟩
    · exact q b o
    · rw [q']
      rcases hf' with hx | ⟨id, hp, hh⟩
      · rcases hX q b o (.inl hx) with z | z
        · exact .inl z
        · exact absurd hx (h.notX b o (hRown b o z))
      · obtain ⟨p1, p2⟩ := (hpres id).1 hp
        by_cases hn : id ∈ new
        · exact .inr (hnewR id hn b o hh)
        · obtain ⟨q1, q2, q3⟩ := hold id p1 p2 hn
          rw [q2] at hh
          rcases hX q b o (.inr ⟨id, q1, hh⟩) with z | z
          · exact .inl z
          · exact absurd z (q3 b o hh)
  have hfin : R0 X S0 w0 N m2 (killAll dead { s with h := h2 }) tm w' := by
    refine h.upd hfr hRownZ hownZ (killAll_z dead _) (fun id hz => (hpres id).2 ⟨hdz id hz, (L.ext id (h.zk id hz)).2⟩) a1 ?_ ?_ ?_ ?_ ?_ (fun id hp hn => by
      rw [Bool.or_eq_true] at hn
      rcases hn with hn | hn
      · have hp2 := ((hpres id).1 hp).2
        have hp3 := desL_nm hn r.args hd1 (desL_nm hn r.ret hd2 hp2)
        exact ⟨hp3, (L.ext id hp3).1, fun hz => L.old id hp3 (hzn id hz)⟩
      · exact ⟨h.zk id hn, (L.ext id (h.zk id hn)).1, fun hz => L.old id (h.zk id hz) (hzn id hz)⟩)
    · intro i
      refine (a4 i).1 _ _ _ _ ?_
      exact ((h.tmps i).mono hk).fixs (fun id hi => (L.ext id (h.wft i id hi)).1) (hnt i)
    · intro i id hi
      obtain ⟨p1, p2⟩ := (a4 i).2 id hi
      exact (hpres id).2 ⟨p2, (L.ext id (h.wft i id p1)).2⟩
    · intro j bx hj id hi
      obtain ⟨bx0, p1, _, p3⟩ := a3 j bx hj
      obtain ⟨q1, q2⟩ := p3 id hi
      refine (hpres id).2 ⟨q2, ?_⟩
      by_cases hn : j ∈ new
      · obtain ⟨bx1, z1, _, z3⟩ := L.box j hn
        have p1' : getBox j h2 = some bx0 := p1
        rw [p1'] at z1; obtain rfl := Option.some.inj z1; exact z3.1 id q1
      · have p1' : getBox j h2 = some bx0 := p1
        rw [L.rest j hn] at p1'
        exact (L.ext id (h.wfh j bx0 p1' id q1)).2
    · intro j bx hj
      obtain ⟨bx0, p1, p2, p3⟩ := a3 j bx hj
      refine p2 _ _ _ ?_
      have p1' : getBox j h2 = some bx0 := p1
      have hjd : j ∉ dead := ((hpres j).1 (by rw [hj]; simp)).1
      by_cases hn : j ∈ new
      · obtain ⟨bx1, z1, z2, z3⟩ := L.box j hn
        rw [p1'] at z1; obtain rfl := Option.some.inj z1
        exact z2.keep hkF rfl (fun _ _ => rfl) (fun _ _ _ => ⟨rfl, rfl⟩) fun _ _ _ => rfl
      · obtain ⟨q1, q2, q3⟩ := hold j hjd (by rw [p1']; simp) hn
        rw [L.rest j hn] at p1'
        refine BRel.exts ((h.box j bx0 p1').keep hk rfl (fun _ _ => rfl) (fun b o hh => ?_) fun b q hb => hfr.block b (h.own_lt ⟨j, q1, (by rw [hb]; exact .inl rfl : (m j).has b 0)⟩) fun o => q3 b o (by rw [hb]; exact .inl rfl)) q2 (fun i hi => (L.ext i (h.wfh j bx0 p1' i hi)).1) (hnb j bx0 p1')
        have hlt := h.own_lt ⟨j, q1, hh⟩
        exact ⟨hfr.cell b o hlt (q3 b o hh), hfr.frozen b o hlt⟩
    · intro i j hij hi hj b o hh hh'
      obtain ⟨i1, i2⟩ := (hpres i).1 hi
      obtain ⟨j1, j2⟩ := (hpres j).1 hj
      by_cases hni : i ∈ new
      · by_cases hnj : j ∈ new
        · exact dj_of (hdj.perm Lr.symm) i hni j hnj hij b o hh hh'
        · obtain ⟨q1, q2, q3⟩ := hold j j1 j2 hnj
          rw [q2] at hh'
          rcases hR' b o (hnewR i hni b o hh) with z | z
          · exact q3 b o hh' z
          · have := h.own_lt ⟨j, q1, hh'⟩; omega
      · obtain ⟨q1, q2, q3⟩ := hold i i1 i2 hni
        rw [q2] at hh
        by_cases hnj : j ∈ new
        · rcases hR' b o (hnewR j hnj b o hh') with z | z
          · exact q3 b o hh z
          · have := h.own_lt ⟨i, q1, hh⟩; omega
        · obtain ⟨p1, p2, p3⟩ := hold j j1 j2 hnj
          rw [p2] at hh'
          exact h.disj i j hij q1 p1 b o hh hh'
  refine ⟨_, _, m2, he, hfin, ?_, ?_⟩
  · exact (tup_rel dead k2).mono hkF
  · intro id hi
    obtain ⟨⟨v, hv, hi'⟩, hd⟩ := tup_ids dead id hi
    exact (hpres id).2 ⟨hd, k3 v hv id hi'⟩
theorem afterCall_ok (h : R0 X S0 w0 N m s tm w) {tb : List V} {lent : List Nat} {b : Nat} {r : Res} {k : V → St → Option Rr} {rr : Rr} {vs cargs : List Value} {R' : List Rng}
    (hT : ∀ x ∈ tb, Tok m s.h x) (hTz : ∀ x ∈ tb, ∀ id, slotV x = some id → memB id s.z = false) (hnd : nodupB (tb.filterMap slotV) = true) (hml : ∀ l v id, tb[l]? = some v → slotV v = some id → ml (l + 1) = m id)
    (hX : lent = [] → ∀ b o, Fb X m s.h b o → X' b o ∨ inRs (tb.flatMap (rngV m)) b o)
    (hfr : Fr S0.dk w.heap.size (inRs (tb.flatMap (rngV m))) w w') (hrel : TRelL ml w' (fun b o => X' b o ∨ inRs R' b o) (r.ret ++ r.args) (vs ++ cargs) R')
    (hdj : Dj R') (hR' : ∀ b o, inRs R' b o → inRs (tb.flatMap (rngV m)) b o ∨ w.heap.size ≤ b) (hvl : vs.length = r.ret.length)
    (he : afterCall s b tb lent r k = some rr) :
    ∃ V s' m', k V s' = some rr ∧ R0 X S0 w0 N m' s' tm w' ∧ Rel1 m' w' (Fb X m' s'.h) V (retV vs) ∧ ∀ id ∈ V.ids, getBox id s'.h ≠ none := by
  have hp : ∀ j, getBox j (s.map V.dv).h = (getBox j s.h).map (Box.map V.dv) := fun j => by
    rw [show (s.map V.dv).h = s.h.map fun (j, b) => (j, b.map V.dv) from rfl, getBox_map]
  refine afterCall_ok0 h.dv (fun x hx => ?_) (fun x hx id hs => hTz x hx id hs) hnd hml (fun hl b o hf => hX hl b o (by rw [Fb_mapf] at hf; exact hf)) hfr hrel hdj hR' hvl (fun i => by rw [St.tmp_map _ _ rfl]; exact dv_ntv _) (fun j bx hj => ?_) he
  · obtain ⟨⟨id, h1, h2⟩, h3⟩ := hT x hx
    exact ⟨⟨id, h1, by rw [hp]; simpa using h2⟩, h3⟩
  · rw [hp] at hj
    simp only [Option.map_eq_some_iff] at hj
    obtain ⟨b0, _, rfl⟩ := hj
    cases b0 <;> first | rfl | exact dv_ntv _
end
end Go.Eng
end
/-! Calls: the model carries out what the interpreter tells. Conditions: none. -/
section
set_option linter.unusedVariables false
set_option linter.unusedSimpArgs false
namespace Go.Eng
open Go.RowKit
theorem CallsV.mono {P : Program} {f : FuncId} {args : Array Value} {w : World} {R R' : Ending → World → Prop} (h : CallsV P f args w R) (hr : ∀ e w', R e w' → R' e w') : CallsV P f args w R' := by
  rcases h with ⟨g, h1, h2⟩ | ⟨v, w', h1, h2⟩
  · exact .inl ⟨g, h1, h2.mono hr⟩
  · exact .inr ⟨v, w', h1, hr _ _ h2⟩
theorem lent_ids : ∀ (v : V), ∀ id ∈ lentIds v, id ∈ v.ids := by
  intro v
  induction v with
  | fn f c ih => intro id hi; exact ih id hi
  | pair a b iha ihb =>
    intro id hi
    simp only [lentIds, V.ids, List.mem_append] at hi ⊢
    exact hi.imp (iha id) (ihb id)
  | slf id' e => intro id hi; simpa [lentIds, V.ids] using hi
  | slw id' e l n => intro id hi; simpa [lentIds, V.ids] using hi
  | blk id' k => intro id hi; cases k <;> simp [lentIds] at hi; simpa [V.ids] using hi
  | _ => intro id hi; simp [lentIds] at hi
theorem dj_tb {m : Lm} {h : Heap} (hdis : ∀ i j, i ≠ j → getBox i h ≠ none → getBox j h ≠ none → ∀ b o, (m i).has b o → ¬ (m j).has b o) : ∀ {tb : List V}, (∀ x ∈ tb, Tok m h x) → (tb.filterMap slotV).Nodup → Dj (tb.flatMap (rngV m)) := by
  intro tb
  induction tb with
  | nil => intro _ _; exact List.Pairwise.nil
  | cons x r ih =>
    intro hT hn
    obtain ⟨⟨id, hs, hp⟩, _⟩ := hT x (by simp)
    rw [List.filterMap_cons_some hs] at hn
    obtain ⟨n1, n2⟩ := List.nodup_cons.1 hn
    refine List.pairwise_append.2 ⟨?_, ih (fun y hy => hT y (by simp [hy])) n2, ?_⟩
    · have e : rngV m x = (m id).rng := by unfold rngV; rw [hs]
      rw [e]
      generalize m id = l
      match l with
      | .obj _ _ _ => exact List.pairwise_singleton _ _
      | .blk _ _ => exact List.pairwise_singleton _ _
      | .arr (some (_, _)) _ _ _ => exact List.pairwise_singleton _ _
      | .arr none _ _ _ => exact List.Pairwise.nil
    · intro p hp1 q hq b o h1 h2
      have g1 : (m id).has b o := (has_rng _ b o).2 ⟨p, by unfold rngV at hp1; rw [hs] at hp1; exact hp1, h1⟩
      obtain ⟨y, hy, id', hs', g2⟩ := inRs_tb.1 ⟨q, hq, h2⟩
      obtain ⟨⟨id'', z1, z2⟩, _⟩ := hT y (by simp [hy])
      rw [hs'] at z1; obtain rfl := Option.some.inj z1
      refine hdis id id' (fun e => ?_) hp z2 b o g1 g2
      subst e
      exact n1 (List.mem_filterMap.2 ⟨y, hy, hs'⟩)
section
variable {R : Type} {X : Cells} {S0 : Base} {w0 : World} {N : Nat} {c : Cx} {m : Lm} {s : St} {tm : Array Value} {w : World}
/-- The abstract values of the arguments. -/
structure RelA (m : Lm) (w : World) (F : Cells) (h : Heap) (vs : List V) (xs : List Value) : Prop where
  len : vs.length = xs.length
  rel : ∀ j (h1 : j < vs.length) (h2 : j < xs.length), Rel1 m w F vs[j] xs[j]
  ids : ∀ v ∈ vs, ∀ id ∈ v.ids, getBox id h ≠ none
def mlOf (m : Lm) (tb : List V) : Lm := fun l => match l with
  | 0 => .arr none 0 0 .unit
  | l + 1 => match tb[l]? with
    | some v => (match slotV v with | some id => m id | none => .arr none 0 0 .unit)
    | none => .arr none 0 0 .unit
theorem imms_rng {ml : Lm} {w : World} {F : Cells} : ∀ (t : T) {cs : List Value} {R : List Rng}, t.imms = true → TRel ml w F t cs R → R = []
  | .imm _ _, _, _, _, h => h.2
  | .iptr _ _, _, _, _, h => h.2
  | .pair a b, _, _, hi, ⟨c, d, Q, S, _, h2, h3, h4⟩ => by
    simp only [T.imms, Bool.and_eq_true] at hi
    rw [h2, imms_rng a hi.1 h3, imms_rng b hi.2 h4]; rfl
  | .u, _, _, hi, _ => by cases hi
  | .own _ _ _ _, _, _, hi, _ => by cases hi
  | .box _ _ _, _, _, hi, _ => by cases hi
  | .ref _ _ _, _, _, hi, _ => by cases hi
  | .ali _, _, _, hi, _ => by cases hi
  | .alw _ _ _, _, _, hi, _ => by cases hi
  | .blk _ _ _, _, _, hi, _ => by cases hi
  | .abk _ _, _, _, hi, _ => by cases hi
  | .fn _ _, _, _, hi, _ => by cases hi
theorem trel1_wk {ml : Lm} {w : World} {F : Cells} {t : T} {v : Value} {R : List Rng} (h : TRel1 ml w F t v R) : TRel1 ml w F t.wk v R := by
  cases t with
  | imm s p =>
    simp only [T.wk]
    cases s.flat with
    | true => exact h
    | false =>
      simp only [TRel1] at h
      split at h
      · obtain ⟨cs, _, h⟩ := h; exact h.2
      · exact h.2
  | iptr s p => exact h.2
  | fn f c =>
    simp only [T.wk]
    cases c.flat with
    | true => exact h
    | false =>
      cases hi : c.imms with
      | true =>
        have h : TRel ml w F (.fn f c) [v] R := h
        obtain ⟨caps, _, h2⟩ := h
        exact imms_rng c hi h2
      | false => exact h
  | _ => exact h
theorem trelA_wk {ml : Lm} {w : World} {F : Cells} : ∀ (ts : List T) {xs : List Value} {R : List Rng}, TRelL ml w F ts xs R → TRelL ml w F (ts.map T.wk) xs R
  | [], _, _, h => h
  | t :: r, _, _, ⟨v, q, Q, S, h1, h2, h3, h4⟩ => ⟨v, q, Q, S, h1, h2, trel1_wk h3, trelA_wk r h4⟩
theorem trelL_wk {ml : Lm} {w : World} {F : Cells} {r : Res} {xs ys : List Value} {R : List Rng} (hl : xs.length = r.ret.length) (h : TRelL ml w F (r.ret ++ r.args) (xs ++ ys) R) : TRelL ml w F ((wkR r).ret ++ (wkR r).args) (xs ++ ys) R := by
  obtain ⟨Q, S, rfl, h1, h2⟩ := TRelL.append _ hl h
  exact TRelL.app h1 (trelA_wk _ h2)
theorem try_call (h : R0 X S0 w0 N m s tm w) (hG : Good S0.dk c.p c.E) {own : Bool} {g : FuncId} {vs : List V} {xs : List Value} (hA : RelA m w (Fb X m s.h) s.h vs xs) {e : Ent} {tb : List V} {x : Nat × List P} {gr : List P → Res} {wf : Res → Res} {b : Nat} {k : V → St → Option R} {r : R}
    (ht : tryE c s own g vs = some (e, tb)) (hx : e.val = some x) (hgr : e.res[x.1]? = some gr) (hc : afterCall s b tb (if own then [] else vs.flatMap lentIds) (wf (gr x.2)) k = some r)
    (hwf : wf = id ∨ wf = wkR) :
    CallsV c.p g xs.toArray w fun en w' => ∃ v V s' m', en = .returned v ∧ k V s' = some r ∧ R0 X S0 w0 N m' s' tm w' ∧ Rel1 m' w' (Fb X m' s'.h) V v ∧ ∀ id ∈ V.ids, getBox id s'.h ≠ none := by
  unfold tryE at ht
  split at ht
  case h_2 => cases ht
  rename_i ts tb' hs
  replace ht := cond_some ht
  obtain ⟨hb, ht⟩ := ht
  split at ht
  case h_2 => cases ht
  rename_i e' he
  simp only [Option.some.injEq, Prod.mk.injEq] at ht
  obtain ⟨rfl, rfl⟩ := ht
  rw [Bool.and_eq_true, Bool.and_eq_true] at hb
  obtain ⟨hb1, hbz, hb2⟩ := hb
  have htz : ∀ x ∈ tb', ∀ id, slotV x = some id → memB id s.z = false := fun x hx id hs => by
    have := List.all_eq_true.1 hbz id (List.mem_filterMap.2 ⟨x, hx, hs⟩)
    simpa using this
  -- what is lent
  obtain ⟨lent, hlent⟩ : ∃ lent, lent = if own then [] else vs.flatMap lentIds := ⟨_, rfl⟩
  rw [← hlent] at hc
  have hlp : ∀ id ∈ lent, getBox id s.h ≠ none := by
    intro id hi
    rw [hlent] at hi
    split at hi
    · cases hi
    · obtain ⟨v, hv, hi⟩ := List.mem_flatMap.1 hi
      exact hA.ids v hv id (lent_ids v id hi)
  have hltb : ∀ id ∈ lent, id ∉ tb'.filterMap slotV := by
    intro id hi hm
    rw [hlent] at hi
    split at hi
    · cases hi
    · rename_i ho
      rw [Bool.or_eq_true] at hb2
      rcases hb2 with q | q
      · exact ho q
      · have := List.all_eq_true.1 q id hi
        rw [Bool.not_eq_true'] at this
        rw [memB_iff.2 hm] at this; cases this
  let L : Nat → Prop := fun id => id ∈ lent
  let F' : Cells := fun b o => Fb X m s.h b o ∧ ¬ ∃ id ∈ lent, (m id).has b o
  obtain ⟨new, hnew, hrel, htok⟩ := serL_ok (ml := mlOf m tb') h (L := L) (F' := F') (fun b o hf => hf.1) (fun id hl b o hh hf => hf.2 ⟨id, hl, hh⟩) hlp tb'
    (fun l v id hl hsl => by simp [mlOf, hl, hsl]) own vs [] ts tb' xs hs (List.prefix_refl _) hA.len hA.rel (fun ho id hi => by show id ∈ lent; rw [hlent, ho]; simpa using hi)
  rw [List.nil_append] at hnew; subst hnew
  have hRF : ∀ b o, inRs (tb'.flatMap (rngV m)) b o → F' b o := by
    intro b o hr
    obtain ⟨y, hy, id, hsl, hh⟩ := inRs_tb.1 hr
    obtain ⟨⟨id', z1, z2⟩, _⟩ := htok y hy
    rw [hsl] at z1; obtain rfl := Option.some.inj z1
    refine ⟨.inr ⟨id, z2, hh⟩, ?_⟩
    rintro ⟨id2, hl, hh2⟩
    have hne : id2 ≠ id := fun e => hltb id2 hl (List.mem_filterMap.2 ⟨y, hy, e ▸ hsl⟩)
    exact h.disj id2 id hne (hlp id2 hl) z2 b o hh2 hh
  let X' : Cells := fun b o => F' b o ∧ ¬ inRs (tb'.flatMap (rngV m)) b o
  have hFX : F' = fun b o => X' b o ∨ inRs (tb'.flatMap (rngV m)) b o := by
    funext b o
    refine propext ⟨fun hf => ?_, fun hf => hf.elim (fun q => q.1) (hRF b o)⟩
    by_cases hr : inRs (tb'.flatMap (rngV m)) b o
    · exact .inr hr
    · exact .inl ⟨hf, hr⟩
  rw [hFX] at hrel
  have hsim := hG g ts e' he x hx gr hgr X' (mlOf m tb') w xs _ hrel (dj_tb h.disj htok (nodupB_iff.1 hb1)) (fun b o hr hx' => hx'.2 hr) (by
    rintro b o ⟨⟨hf | hf, _⟩, _⟩
    · have := h.xold b o hf; omega
    · exact h.own_lt hf) (fun z hz => by
      obtain ⟨g1, g2⟩ := h.tab z hz
      refine ⟨fun o => ⟨⟨.inl (g1 o), ?_⟩, ?_⟩, g2⟩
      · rintro ⟨id, hl, hh⟩
        exact h.notX _ _ ⟨id, hlp id hl, hh⟩ (g1 o)
      · intro hr
        obtain ⟨y, hy, id, hsl, hh⟩ := inRs_tb.1 hr
        obtain ⟨⟨id', z1, z2⟩, _⟩ := htok y hy
        rw [hsl] at z1; obtain rfl := Option.some.inj z1
        exact h.notX _ _ ⟨id, z2, hh⟩ (g1 o))
  refine hsim.mono ?_
  rintro en w' ⟨rs, R', rfl, hfr, hrel', hdj, hR', hlen⟩
  obtain ⟨V, s', m', g1, g2, g3, g4⟩ := afterCall_ok (X' := X') (ml := mlOf m tb') h htok htz hb1 (fun l v id hl hsl => by simp [mlOf, hl, hsl]) (fun hl b o hf => by
    by_cases hr : inRs (tb'.flatMap (rngV m)) b o
    · exact .inr hr
    · exact .inl ⟨⟨hf, by rw [hl]; simp⟩, hr⟩) hfr (by
      rcases hwf with rfl | rfl
      · exact hrel'
      · exact trelL_wk hlen hrel') hdj hR' (by rcases hwf with rfl | rfl <;> exact hlen) hc
  exact ⟨_, V, s', m', rfl, g1, g2, g3, g4⟩
theorem frzAll'_ok : ∀ (ids : List Nat) {vs vs' : List V} {s s' : St} {xs : List Value}, frzAll' ids vs s = some (vs', s') → R0 X S0 w0 N m s tm w → RelA m w (Fb X m s.h) s.h vs xs →
    R0 X S0 w0 N m s' tm w ∧ RelA m w (Fb X m s'.h) s'.h vs' xs
  | [], vs, vs', s, s', xs, hg, h, hA => by
    simp only [frzAll', Option.some.injEq, Prod.mk.injEq] at hg
    obtain ⟨rfl, rfl⟩ := hg
    exact ⟨h, hA⟩
  | id :: r, vs, vs', s, s', xs, hg, h, hA => by
    simp only [frzAll'] at hg
    split at hg
    · rename_i e nl ys hb
      split at hg
      · rename_i s1 hs1
        refine frzAll'_ok r hg (h.frz hs1) ?_
        have hs1' : s1 = ({ s with h := delBox id s.h } : St).map (frzLeaf id nl ys) := frz_some hb hs1
        subst hs1'
        refine ⟨by simpa using hA.len, fun j h1 h2 => ?_, fun v hv i hi => ?_⟩
        · rw [Fb_drop h]
          simp only [List.getElem_map]
          exact (hA.rel j (by simpa using h1) h2).map (frz_leaf h hb) (fun _ _ => rfl) (frzLeaf_tup id nl ys)
        · obtain ⟨v0, hv0, rfl⟩ := List.mem_map.1 hv
          obtain ⟨p1, p2⟩ := frzLeaf_ids id nl ys v0 i hi
          rw [getBox_drop h, if_neg p2]
          have := hA.ids v0 hv0 i p1
          cases hq : getBox i s.h with
          | none => exact absurd hq this
          | some _ => simp
      · cases hg
    · exact frzAll'_ok r hg h hA
theorem asL_ok {F : Cells} {hp : Heap} : ∀ (vs : List V) (ts : List (Option Sh)) {xs : List Value}, RelA m w F hp vs xs → RelA m w F hp (asL vs ts) xs
  | [], _, xs, hA => hA
  | v :: r, ts, xs, hA => by
    cases xs with
    | nil => have := hA.len; simp at this
    | cons x q =>
      have hr : RelA m w F hp r q := ⟨by simpa using hA.len, fun j h1 h2 => by have := hA.rel (j + 1) (by simp; omega) (by simp; omega); simpa using this, fun y hy => hA.ids y (by simp [hy])⟩
      have h0 : Rel1 m w F v x := by have := hA.rel 0 (by simp) (by simp); simpa using this
      have key : ∀ (v' : V) (r' : List V), Rel1 m w F v' x → (∀ id ∈ v'.ids, getBox id hp ≠ none) → RelA m w F hp r' q → RelA m w F hp (v' :: r') (x :: q) := by
        intro v' r' k1 k2 k3
        refine ⟨by simp [k3.len], fun j h1 h2 => ?_, fun y hy => ?_⟩
        · cases j with
          | zero => simpa using k1
          | succ j => simpa using k3.rel j (by simpa using h1) (by simpa using h2)
        · rcases List.mem_cons.1 hy with rfl | hy
          · exact k2
          · exact k3.ids y hy
      cases ts with
      | nil => exact key _ _ h0 (hA.ids v (by simp)) (asL_ok r [] hr)
      | cons t ts => exact key _ _ (as_rel h0) (by rw [as_ids]; exact hA.ids v (by simp)) (asL_ok r ts hr)
theorem callE_ok (h : R0 X S0 w0 N m s tm w) (hG : Good S0.dk c.p c.E) {g : FuncId} {vs : List V} {xs : List Value} (hA : RelA m w (Fb X m s.h) s.h vs xs) {d : Nat} {k : V → St → Option R} {r : R}
    (he : callE c s d g vs k = some r) :
    CallsV c.p g xs.toArray w fun en w' => ∃ v V s' m', en = .returned v ∧ k V s' = some r ∧ R0 X S0 w0 N m' s' tm w' ∧ Rel1 m' w' (Fb X m' s'.h) V v ∧ ∀ id ∈ V.ids, getBox id s'.h ≠ none := by
  unfold callE at he
  split at he
  · cases he
  · rename_i fn hf
    replace hA := asL_ok vs (fn.params.toList.map c.sh) hA
    simp only at he
    generalize asL vs (fn.params.toList.map c.sh) = vs at *
    split at he
    · rename_i e tb ht
      obtain ⟨x, hx, he⟩ := Option.bind_eq_some_iff.1 he
      obtain ⟨gr, _, hgr, he⟩ := altR_some _ 0 he
      exact try_call (wf := id) h hG hA ht hx hgr (by simpa using he) (.inl rfl)
    · split at he
      · rename_i e tb ht
        cases hq : ((vs.flatMap lentIds).isEmpty || e.res.all (fun f => flatR (wkR (f [])))) with
        | true =>
          rw [hq, cond_true] at he
          obtain ⟨x, hx, he⟩ := Option.bind_eq_some_iff.1 he
          obtain ⟨gr, _, hgr, he⟩ := altR_some _ 0 he
          exact try_call (wf := wkR) h hG hA ht hx hgr (by simpa using he) (.inr rfl)
        | false =>
          rw [hq, cond_false] at he
          split at he
          · rename_i vs' s1 hfz
            split at he
            · rename_i e' tb' ht'
              obtain ⟨x, hx, he⟩ := Option.bind_eq_some_iff.1 he
              obtain ⟨gr, _, hgr, he⟩ := altR_some _ 0 he
              obtain ⟨h1, hA1⟩ := frzAll'_ok _ hfz h hA
              exact try_call (wf := wkR) h1 hG hA1 ht' hx hgr (by simpa using he) (.inr rfl)
            · cases he
          · cases he
      · cases he
end
end Go.Eng
end
/-! The call operation. Conditions: none. -/
section
set_option linter.unusedVariables false
set_option linter.unusedSimpArgs false
namespace Go.Eng
open Go.RowKit
section
variable {R : Type} {X : Cells} {S0 : Base} {w0 : World} {c : Cx} {m : Lm} {s : St} {a : Act} {w : World} {o : Oper} {r : R} {k : V → St → Option R} {K : Act → World → Prop} {Q : Exit → Act → World → Prop}
theorem relV_split {F : Cells} {v x y : V} {cs : List Value} (h : RelV m w F v cs) (hx : v.fst = some x) (hy : v.snd = some y) : ∃ c d, cs = c ++ d ∧ RelV m w F x c ∧ RelV m w F y d ∧ (∀ i ∈ x.ids, i ∈ v.ids) ∧ (∀ i ∈ y.ids, i ∈ v.ids) := by
  cases v with
  | imm sh p =>
    cases sh <;> simp only [V.fst, V.snd, Option.some.injEq] at hx hy <;> try cases hx
    cases hy
    obtain ⟨p1, p2, c, d, rfl, rfl, h1, h2⟩ := h
    exact ⟨c, d, rfl, h1, h2, by simp [V.ids], by simp [V.ids]⟩
  | pair p q =>
    simp only [V.fst, V.snd, Option.some.injEq] at hx hy
    subst hx; subst hy
    obtain ⟨c, d, rfl, h1, h2⟩ := h
    exact ⟨c, d, rfl, h1, h2, fun i hi => by simp [V.ids, hi], fun i hi => by simp [V.ids, hi]⟩
  | _ => simp [V.fst] at hx
theorem relV_one {F : Cells} {v : V} {cs : List Value} (h : RelV m w F v cs) (ha : v.isAgg = false) : ∃ x, cs = [x] ∧ Rel1 m w F v x := by
  have key : ∃ x, cs = [x] := by
    cases v with
    | u => exact h
    | imm sh p =>
      have := Rep.len sh p cs h
      rw [Sh.size_one ha] at this
      match cs, this with
      | [x], _ => exact ⟨x, rfl⟩
    | iptr sh p => obtain ⟨b, o, c, rfl, _⟩ := h; exact ⟨_, rfl⟩
    | nils => exact ⟨_, h⟩
    | emp e nl => obtain ⟨q, rfl, _⟩ := h; exact ⟨_, rfl⟩
    | ref id path sh => obtain ⟨q, rfl, _⟩ := h; exact ⟨_, rfl⟩
    | slf id e => obtain ⟨_, _, _, _, rfl⟩ := h; exact ⟨_, rfl⟩
    | slw id e lo n => obtain ⟨_, _, _, _, _, _, _, _, _, rfl, _⟩ := h; exact ⟨_, rfl⟩
    | blk id kk => obtain ⟨_, _, _, rfl, _⟩ := h; exact ⟨_, rfl⟩
    | tv id n e p => obtain ⟨_, _, _, _, rfl, _⟩ := h; exact ⟨_, rfl⟩
    | fn f cp => obtain ⟨_, rfl, _⟩ := h; exact ⟨_, rfl⟩
    | pair p q => simp [V.isAgg] at ha
    | tup y => exact h.elim
  obtain ⟨x, rfl⟩ := key
  refine ⟨x, rfl, ?_⟩
  have ht : ∀ y, v ≠ .tup y := fun y e => by subst e; exact h.elim
  rw [rel1_def ht]
  by_cases hu : v = .u
  · subst hu; trivial
  · rw [relS_def hu, if_neg (by simp [ha])]; exact h
theorem capL_ok {F : Cells} {hp : Heap} : ∀ (n : Nat) {v : V} {l : List V} {cs : List Value}, capL n v = some l → RelV m w F v cs → (∀ i ∈ v.ids, getBox i hp ≠ none) → RelA m w F hp l cs
  | 0, v, l, cs, hg, _, _ => by simp [capL] at hg
  | n + 1, v, l, cs, hg, hv, hi => by
    simp only [capL] at hg
    split at hg
    · obtain rfl := Option.some.inj hg
      obtain ⟨_, rfl⟩ := hv
      exact ⟨rfl, fun j h1 => by simp at h1, by simp⟩
    · split at hg
      · rename_i x y hx hy
        split at hg
        · cases hg
        · rename_i hag
          split at hg
          · rename_i l' hl'
            obtain rfl := Option.some.inj hg
            obtain ⟨c1, d1, rfl, h1, h2, h3, h4⟩ := relV_split hv hx hy
            obtain ⟨z, rfl, hz⟩ := relV_one h1 (by simpa using hag)
            have hA := capL_ok n hl' h2 (fun i hi' => hi i (h4 i hi'))
            refine ⟨by simp [hA.len], fun j h1 h2 => ?_, fun q hq => ?_⟩
            · cases j with
              | zero => simpa using hz
              | succ j => simpa using hA.rel j (by simpa using h1) (by simpa using h2)
            · rcases List.mem_cons.1 hq with rfl | hq
              · exact fun i hi' => hi i (h3 i hi')
              · exact hA.ids q hq
          · cases hg
      · cases hg
theorem RelA.append {F : Cells} {hp : Heap} {vs us : List V} {xs ys : List Value} (h : RelA m w F hp vs xs) (g : RelA m w F hp us ys) : RelA m w F hp (vs ++ us) (xs ++ ys) := by
  refine ⟨by simp [h.len, g.len], fun j h1 h2 => ?_, fun v hv => ?_⟩
  · by_cases hj : j < vs.length
    · rw [List.getElem_append_left hj, List.getElem_append_left (by rw [← h.len]; exact hj)]
      exact h.rel j hj _
    · rw [List.getElem_append_right (by omega), List.getElem_append_right (by rw [← h.len]; omega)]
      simp only [← h.len]
      exact g.rel _ _ _
  · rcases List.mem_append.1 hv with hv | hv
    · exact h.ids v hv
    · exact g.ids v hv
theorem evs_rel (h : R0 X S0 w0 c.n m s a.tmps w) (xs : List Operand) : RelA m w (Fb X m s.h) s.h (xs.map s.ev) (xs.map a.eval) := by
  refine ⟨by simp, fun j h1 h2 => ?_, fun v hv => ?_⟩
  · simp only [List.getElem_map]; exact ev_rel h _
  · obtain ⟨x, _, rfl⟩ := List.mem_map.1 hv; exact ev_ids h x
theorem op_call {cl : Call} {f : Operand} {g : FuncId} {caps : V} {l : List V} {d : Nat} (ho : o.op = .call cl) (h1 : cl.callee = .value f) (h2 : s.ev f = .fn g caps) (h3 : capL 60 caps = some l)
    (hG : Good S0.dk c.p c.E) (he : callE c s d g (cl.args.toList.map s.ev ++ l) k = some r) (h : R0 X S0 w0 c.n m s a.tmps w)
    (hK : HK X S0 w0 c.n a.tmps k r (fun v w' => K (a.put o.dst v) w')) : o.wp c.p a w K Q := by
  have hf := ev_rel h f
  rw [h2, rel_sc (by simp) (by simp) rfl] at hf
  obtain ⟨cc, hfe, hcc⟩ := hf
  have hi := ev_ids h f
  rw [h2] at hi
  have hA := (evs_rel h cl.args.toList).append (capL_ok 60 h3 hcc (by simpa [V.ids] using hi))
  have hC := callE_ok h hG hA he
  have hx : a.eval f = .func (.func g) #[] cc := by simpa using hfe
  have hargs : (cl.args.map a.eval ++ cc) = (cl.args.toList.map a.eval ++ cc.toList).toArray := by
    apply Array.ext'
    simp
  have hrun : ∀ {n w'}, (callFunc g (cl.args.map a.eval ++ cc)).run c.p w = .ok n w' → (execOp a.eval o).run c.p w = .ok n w' := by
    intro n w' hr
    simp only [execOp, ho]
    simp only [resolve, h1, hx, Deferred.ofValue]
    simpa [invoke, go_sem] using hr
  rw [← hargs] at hC
  rcases hC with ⟨g', hr, hC⟩ | ⟨v, w', hr, v', V, s', m', e, g1, g2, g3, g4⟩
  · unfold Oper.wp
    rw [hrun hr, Oper.upon_enter]
    refine hC.mono ?_
    rintro e w' ⟨v, V, s', m', rfl, g1, g2, g3, g4⟩
    exact hK V s' m' v w' g1 g2 g3 g4
  · cases e
    exact wp_val (hrun hr) (hK V s' m' v w' g1 g2 g3 g4)
end
end Go.Eng
end
/-! Lists and maps that own what their slices have room for: their state. Conditions: none. -/
section
set_option linter.unusedVariables false
set_option linter.unusedSimpArgs false
namespace Go.Eng
open Go.RowKit
/-- The boxes of which it has the room. -/
def V.tvs : V → List Nat
  | .tv id _ _ _ => [id]
  | .fn _ c => c.tvs
  | .pair a b => a.tvs ++ b.tvs
  | .tup v => v.tvs
  | _ => []
theorem RelV.fixt {m m' : Lm} {w : World} {F : Cells} : ∀ (v : V) (cs : List Value), (∀ id ∈ v.ids, (m' id).fix = (m id).fix) → (∀ id ∈ v.tvs, m' id = m id) → RelV m w F v cs → RelV m' w F v cs
  | .u, _, _, _, h => h
  | .imm _ _, _, _, _, h => h
  | .iptr _ _, _, _, _, h => h
  | .nils, _, _, _, h => h
  | .emp _ _, _, _, _, h => h
  | .ref id p s, _, hm, _, h => RelV.fixs (.ref id p s) _ hm rfl h
  | .slf id e, _, hm, _, h => RelV.fixs (.slf id e) _ hm rfl h
  | .slw id e l n, _, hm, _, h => RelV.fixs (.slw id e l n) _ hm rfl h
  | .blk id k, _, hm, _, h => RelV.fixs (.blk id k) _ hm rfl h
  | .tv id n e p, _, _, ht, ⟨b, q, v, h1, h2⟩ => ⟨b, q, v, by rw [ht id (by simp [V.tvs])]; exact h1, h2⟩
  | .fn _ c, _, hm, ht, ⟨caps, h1, h2⟩ => ⟨caps, h1, RelV.fixt c _ (fun id hi => hm id (by simpa [V.ids] using hi)) (fun id hi => ht id (by simpa [V.tvs] using hi)) h2⟩
  | .pair a b, _, hm, ht, ⟨c, d, h1, h2, h3⟩ => ⟨c, d, h1, RelV.fixt a _ (fun id hi => hm id (by simp [V.ids, hi])) (fun id hi => ht id (by simp [V.tvs, hi])) h2, RelV.fixt b _ (fun id hi => hm id (by simp [V.ids, hi])) (fun id hi => ht id (by simp [V.tvs, hi])) h3⟩
  | .tup _, _, _, _, h => h
theorem RelS.fixt {m m' : Lm} {w : World} {F : Cells} {v : V} {x : Value} (hm : ∀ id ∈ v.ids, (m' id).fix = (m id).fix) (hn : ∀ id ∈ v.tvs, m' id = m id) (h : RelS m w F v x) : RelS m' w F v x := by
  by_cases hu : v = .u
  · subst hu; trivial
  · rw [relS_def hu] at *
    by_cases ha : v.isAgg
    · rw [if_pos ha] at *; obtain ⟨cs, h1, h2⟩ := h; exact ⟨cs, h1, h2.fixt _ _ hm hn⟩
    · rw [if_neg ha] at *; exact RelV.fixt _ _ hm hn h
theorem RelT.fixt {m m' : Lm} {w : World} {F : Cells} : ∀ (v : V) (x : List Value), (∀ id ∈ v.ids, (m' id).fix = (m id).fix) → (∀ id ∈ v.tvs, m' id = m id) → RelT m w F v x → RelT m' w F v x
  | .pair a b, x :: r, hm, hn, ⟨h1, h2⟩ => ⟨h1.fixt (fun id hi => hm id (by simp [V.ids, hi])) (fun id hi => hn id (by simp [V.tvs, hi])), RelT.fixt b r (fun id hi => hm id (by simp [V.ids, hi])) (fun id hi => hn id (by simp [V.tvs, hi])) h2⟩
  | .imm .unit _, [], _, _, _ => trivial
theorem Rel1.fixt {m m' : Lm} {w : World} {F : Cells} {v : V} {x : Value} (hm : ∀ id ∈ v.ids, (m' id).fix = (m id).fix) (hn : ∀ id ∈ v.tvs, m' id = m id) (h : Rel1 m w F v x) : Rel1 m' w F v x := by
  by_cases ht : ∃ y, v = .tup y
  · obtain ⟨y, rfl⟩ := ht
    obtain ⟨vs, h1, h2⟩ := h; exact ⟨vs, h1, RelT.fixt _ _ (by simpa [V.ids] using hm) (by simpa [V.tvs] using hn) h2⟩
  · have ht' : ∀ y, v ≠ .tup y := fun y e => ht ⟨y, e⟩
    rw [rel1_def ht'] at *; exact h.fixt hm hn
theorem map_tvs {f : V → V} {id : Nat} (hf : ∀ v : V, (∀ g c, v ≠ .fn g c) → (∀ a b, v ≠ .pair a b) → (∀ y, v ≠ .tup y) → id ∉ (f v).tvs) : ∀ (v : V), id ∉ (v.map f).tvs := by
  intro v
  induction v with
  | fn g c ih => exact ih
  | pair a b iha ihb => simp only [V.map, V.tvs, List.mem_append, not_or]; exact ⟨iha, ihb⟩
  | tup v ih => exact ih
  | _ => exact hf _ (by simp) (by simp) (by simp)
section
variable {X : Cells} {S0 : Base} {w0 : World} {N : Nat} {m : Lm} {s : St} {tm : Array Value} {w : World}
theorem tvLeaf_ok {F : Cells} {id : Nat} : LeafOk m w F F (tvLeaf id) where
  u := rfl
  rel := by
    intro v cs h
    cases v <;> simp only [tvLeaf] <;> try exact h
    split
    · obtain ⟨b, q, v, _, rfl, h3, _⟩ := h; exact h3
    · exact h
  agg := by
    intro v; cases v <;> simp only [tvLeaf] <;> try rfl
    split <;> rfl
theorem tvLeaf_fits (id : Nat) (v : V) (t : Sh) (h : v.fits t = true) : (tvLeaf id v).fits t = true := by
  cases v <;> simp only [tvLeaf] <;> try exact h
  split
  · exact tv_fits h
  · exact h
theorem tvLeaf_imm (id : Nat) (s : Sh) (p : P) : tvLeaf id (.imm s p) = .imm s p := rfl
theorem tvLeaf_tup (id : Nat) (v y : V) (h : tvLeaf id v = .tup y) : v = .tup y := by
  cases v <;> simp only [tvLeaf] at h <;> first | exact h | (split at h <;> cases h) | cases h
theorem tvLeaf_ids (id : Nat) : ∀ (v : V), ∀ i ∈ (v.map (tvLeaf id)).ids, i ∈ v.ids := by
  intro v
  induction v with
  | fn f c ih => exact ih
  | pair a b iha ihb =>
    intro i hi
    simp only [V.map, V.ids, List.mem_append] at hi ⊢
    exact hi.imp (iha i) (ihb i)
  | tup v ih => exact ih
  | tv j n e p =>
    intro i hi
    simp only [V.map, tvLeaf] at hi
    split at hi
    · cases hi
    · exact hi
  | _ => intro i hi; exact hi
theorem tvLeaf_tvs (id : Nat) (v : V) : id ∉ (v.map (tvLeaf id)).tvs := by
  refine map_tvs (fun v h1 h2 h3 => ?_) v
  cases v <;> simp only [tvLeaf] <;> try (intro hi; cases hi; done)
  · split
    · intro hi; cases hi
    · rename_i hn
      intro hi
      simp only [V.tvs, List.mem_singleton] at hi
      exact hn (beq_iff.2 hi.symm)
  · exact absurd rfl (h1 _ _)
  · exact absurd rfl (h2 _ _)
  · exact absurd rfl (h3 _)
/-- One box's room changes: the general step. -/
theorem R0.remap (h : R0 X S0 w0 N m s tm w) {id : Nat} {bx : Box} {l : Loc} {w' : World} {f : V → V} {hd : Heap} {Fm : Cells}
    (hzi : memB id s.z = false) (hid : getBox id s.h ≠ none) (hnd : (keys hd).Nodup) (hg : ∀ i, getBox i hd = getBox i s.h ∨ getBox i hd = none) (hz : ∀ i, memB i S0.z = true → getBox i hd ≠ none) (hidd : getBox id hd ≠ none) (hbi : bx.ids = []) (hbm : bx.map f = bx)
    (hL : LeafOk m w (Fb X m s.h) Fm f) (hk0 : Keep w (Fb X m s.h) w Fm) (hi : ∀ s p, f (.imm s p) = .imm s p) (hnt : ∀ v y, f v = .tup y → v = .tup y) (hfit : ∀ v s, V.fits v s = true → V.fits (f v) s = true)
    (hids : ∀ v : V, ∀ i ∈ (v.map f).ids, i ∈ v.ids ∧ (getBox i s.h ≠ none → getBox i hd ≠ none)) (htv : ∀ v : V, id ∉ (v.map f).tvs)
    (hk : Keep w Fm w' (Fb X (updL m id l) (Eng.setBox id bx hd))) (hfix : l.fix = (m id).fix) (hfr : Fr S0.dk w.heap.size (m id).has w w')
    (hown : ∀ c o, l.has c o → OwnZ m s.h S0.z c o ∨ w.heap.size ≤ c) (hdis : ∀ i, i ≠ id → getBox i hd ≠ none → ∀ c o, (m i).has c o → ¬ l.has c o)
    (hbx : BRel (updL m id l) w' (Fb X (updL m id l) (Eng.setBox id bx hd)) id bx) :
    R0 X S0 w0 N (updL m id l) (({ s with h := Eng.setBox id bx hd } : St).map f) tm w' := by
  have hz0 : memB id S0.z = false := by rw [← h.hz]; exact hzi
  have hh : (({ s with h := Eng.setBox id bx hd } : St).map f).h = (Eng.setBox id bx hd).map fun (j, b) => (j, b.map f) := rfl
  have hgs : ∀ j, getBox j (Eng.setBox id bx hd) = if j = id then some bx else getBox j hd := fun j => getBox_set hidd
  have hgm : ∀ j, getBox j (({ s with h := Eng.setBox id bx hd } : St).map f).h = (if j = id then some bx else getBox j hd).map (Box.map f) := fun j => by rw [hh, getBox_map, hgs]
  have hp : ∀ j, getBox j (({ s with h := Eng.setBox id bx hd } : St).map f).h ≠ none ↔ getBox j hd ≠ none := fun j => by
    rw [hgm]
    by_cases e : j = id
    · subst e; rw [if_pos rfl]; simp only [Option.map_some, ne_eq, reduceCtorEq, not_false_eq_true, true_iff]; exact hidd
    · rw [if_neg e]; simp
  have hp0 : ∀ j, getBox j (Eng.setBox id bx hd) ≠ none ↔ getBox j hd ≠ none := fun j => by
    rw [hgs]
    by_cases e : j = id
    · subst e; rw [if_pos rfl]; simp only [ne_eq, reduceCtorEq, not_false_eq_true, true_iff]; exact hidd
    · rw [if_neg e]
  have hpo : ∀ j, getBox j hd ≠ none → getBox j s.h ≠ none := fun j hj => by
    rcases hg j with e | e
    · rw [← e]; exact hj
    · exact absurd e hj
  have hO : Own (updL m id l) (({ s with h := Eng.setBox id bx hd } : St).map f).h = Own (updL m id l) (Eng.setBox id bx hd) := by
    funext b o
    exact propext ⟨fun ⟨j, hj, q⟩ => ⟨j, (hp0 j).2 ((hp j).1 hj), q⟩, fun ⟨j, hj, q⟩ => ⟨j, (hp j).2 ((hp0 j).1 hj), q⟩⟩
  have hF : Fb X (updL m id l) (({ s with h := Eng.setBox id bx hd } : St).map f).h = Fb X (updL m id l) (Eng.setBox id bx hd) := by funext b o; simp only [Fb, hO]
  have hu : V.map f .u = .u := hL.u
  have hfx : ∀ j, (updL m id l j).fix = (m j).fix := fun j => by
    by_cases e : j = id
    · subst e; rw [updL_same]; exact hfix
    · rw [updL_other m l e]
  have hft : ∀ (v : V), ∀ j ∈ (v.map f).tvs, updL m id l j = m j := fun v j hj => updL_other m l (fun e => htv v (e ▸ hj))
  refine h.upd (D := (m id).has) hfr (fun b o q => ⟨id, hid, hz0, q⟩) (fun b o ⟨j, hj, hzj, hhj⟩ => ?_) rfl (fun j hj => (hp j).2 (hz j hj)) ?_ ?_ ?_ ?_ ?_ ?_ ?_
  · by_cases e : j = id
    · subst e; rw [updL_same] at hhj; exact hown b o hhj
    · rw [updL_other m l e] at hhj; exact .inl ⟨j, hpo j ((hp j).1 hj), hzj, hhj⟩
  · rw [hh, keys_map, keys_set]; exact hnd
  · intro i
    rw [hF, St.tmp_map _ _ hu]
    exact (((h.tmps i).map hL hi hnt).mono hk).fixt (fun j _ => hfx j) (hft _)
  · intro i j hj
    rw [St.tmp_map _ _ hu] at hj
    obtain ⟨g1, g2⟩ := hids _ j hj
    exact (hp j).2 (g2 (h.wft i j g1))
  · intro j b hj k hk'
    rw [hgm] at hj
    by_cases e : j = id
    · subst e; rw [if_pos rfl, Option.map_some, hbm] at hj; obtain rfl := Option.some.inj hj; rw [hbi] at hk'; cases hk'
    · rw [if_neg e] at hj
      simp only [Option.map_eq_some_iff] at hj
      obtain ⟨b0, hb0, rfl⟩ := hj
      have hb1 : getBox j s.h = some b0 := by
        rcases hg j with q | q
        · rw [← q]; exact hb0
        · rw [q] at hb0; cases hb0
      cases b0 with
      | obj sh v =>
        obtain ⟨g1, g2⟩ := hids v k hk'
        exact (hp k).2 (g2 (h.wfh j _ hb1 k g1))
      | arr e' n xs => simp [Box.map, Box.ids] at hk'
      | blk k0 p0 => simp [Box.map, Box.ids] at hk'
  · intro j b hj
    rw [hF]
    rw [hgm] at hj
    by_cases e : j = id
    · subst e; rw [if_pos rfl, Option.map_some, hbm] at hj; obtain rfl := Option.some.inj hj; exact hbx
    · rw [if_neg e] at hj
      simp only [Option.map_eq_some_iff] at hj
      obtain ⟨b0, hb0, rfl⟩ := hj
      have hb1 : getBox j s.h = some b0 := by
        rcases hg j with q | q
        · rw [← q]; exact hb0
        · rw [q] at hb0; cases hb0
      have hj1 : getBox j s.h ≠ none := by rw [hb1]; simp
      have k1 := ((h.box j b0 hb1).map hL hfit hk0).keep (m' := m) hk rfl (fun _ _ => rfl) (fun c o hc => ?_) (fun c q hc => hfr.block c (h.own_lt ⟨j, hj1, (by rw [hc]; exact .inl rfl : (m j).has c 0)⟩) fun o => h.disj j id e hj1 hid c o (by rw [hc]; exact .inl rfl))
      · cases b0 with
        | obj sh v =>
          obtain ⟨b, o, cs, q1, q2, q3, q4, q5⟩ := k1
          exact ⟨b, o, cs, by rw [updL_other m l e]; exact q1, q2, q3.fixt _ _ (fun j _ => hfx j) (hft v), q4, q5⟩
        | arr e' n xs => exact k1.ext (updL_other m l e) (by intro j hj; cases hj)
        | blk k0 p0 => exact k1.ext (updL_other m l e) (by intro j hj; cases hj)
      · have hlt := h.own_lt ⟨j, hj1, hc⟩
        exact ⟨hfr.cell c o hlt (h.disj j id e hj1 hid c o hc), hfr.frozen c o hlt⟩
  · intro i j hij hi' hj b o q1 q2
    have hi1 := (hp i).1 hi'
    have hj1 := (hp j).1 hj
    by_cases e : i = id
    · subst e
      rw [updL_same] at q1
      rw [updL_other m l (fun e => hij e.symm)] at q2
      exact hdis j (fun e => hij e.symm) hj1 b o q2 q1
    · rw [updL_other m l e] at q1
      by_cases e' : j = id
      · subst e'; rw [updL_same] at q2; exact hdis i e hi1 b o q1 q2
      · rw [updL_other m l e'] at q2
        exact h.disj i j hij (hpo i hi1) (hpo j hj1) b o q1 q2
  · intro j hj hn
    refine ⟨hpo j ((hp j).1 hj), hfx j, fun hzj => updL_other m l (fun e => ?_)⟩
    subst e; rw [hz0] at hzj; cases hzj
end
end Go.Eng
end
/-! A slice on its way into a list or map that owns what its slices have room for. Conditions: none. -/
section
set_option linter.unusedVariables false
set_option linter.unusedSimpArgs false
namespace Go.Eng
open Go.RowKit
def updT (T : Nat → Cells) (n : Nat) (S : Cells) : Nat → Cells := fun i => if i = n then S else T i
theorem updT_same (T : Nat → Cells) (n : Nat) (S : Cells) : updT T n S n = S := if_pos rfl
theorem updT_other (T : Nat → Cells) {n i : Nat} (S : Cells) (h : i ≠ n) : updT T n S i = T i := if_neg h
def BkL.with (q : BkL) (n : Nat) (S : Cells) : BkL := { q with T := updT q.T n S }
theorem with_has {b n : Nat} {q : BkL} {S : Cells} {c o : Nat} (h : (Loc.blk b (q.with n S)).has c o) : c = b ∨ S c o ∨ ∃ i, i ≠ n ∧ q.T i c o := by
  rcases h with h | ⟨i, hi⟩
  · exact .inl h
  · by_cases e : i = n
    · subst e; have hi : updT q.T i S i c o := hi; rw [updT_same] at hi; exact .inr (.inl hi)
    · have hi : updT q.T n S i c o := hi; rw [updT_other _ _ e] at hi; exact .inr (.inr ⟨i, e, hi⟩)
theorem TlRel.with {w w' : World} {b n : Nat} {q : BkL} {S : Cells} (h : TlRel w b q) (hc : ∀ c o, (∃ i, i ≠ n ∧ q.T i c o) → w'.cell? (mkA c o) = w.cell? (mkA c o) ∧ w'.frozen? (mkA c o) = w.frozen? (mkA c o))
    (hS : ∀ c o, S c o → c ≠ b ∧ ∃ v, w'.cell? (mkA c o) = some v ∧ w'.frozen? (mkA c o) = false) (hSd : ∀ i, i ≠ n → ∀ c o, S c o → ¬ q.T i c o) : TlRel w' b (q.with n S) := by
  refine ⟨fun i c o hi => ?_, fun i j c o hij hi hj => ?_⟩
  · by_cases e : i = n
    · subst e; have hi : updT q.T i S i c o := hi; rw [updT_same] at hi; exact hS c o hi
    · have hi : updT q.T n S i c o := hi; rw [updT_other _ _ e] at hi
      obtain ⟨g1, v, g2, g3⟩ := h.1 i c o hi
      obtain ⟨c1, c2⟩ := hc c o ⟨i, e, hi⟩
      exact ⟨g1, v, c1.trans g2, c2.trans g3⟩
  · have zi : updT q.T n S i c o := hi
    have zj : updT q.T n S j c o := hj
    clear hi hj
    by_cases e : i = n
    · rw [e, updT_same] at zi; rw [updT_other _ _ (fun e' => hij (e.trans e'.symm))] at zj
      exact hSd j (fun e' => hij (e.trans e'.symm)) c o zi zj
    · rw [updT_other _ _ e] at zi
      by_cases e' : j = n
      · rw [e', updT_same] at zj; exact hSd i e c o zj zi
      · rw [updT_other _ _ e'] at zj; exact h.2 i j c o hij zi zj
theorem rel_opn {w w' : World} {F F' : Cells} {kk kh : Bk} {p : P} {b n : Nat} {q : BkL} {S : Cells} (h : BkRel w F kk p b q) (ho : kk.opn n = some kh) (hk : Keep w F w' F') (hb : w'.heap[b]? = w.heap[b]?)
    (hc : ∀ c o, (∃ i, i ≠ n ∧ q.T i c o) → w'.cell? (mkA c o) = w.cell? (mkA c o) ∧ w'.frozen? (mkA c o) = w.frozen? (mkA c o))
    (hS : ∀ c o, S c o → c ≠ b ∧ ∃ v, w'.cell? (mkA c o) = some v ∧ w'.frozen? (mkA c o) = false) (hSd : ∀ i, i ≠ n → ∀ c o, S c o → ¬ q.T i c o) : BkRel w' F' kh p b (q.with n S) := by
  have hcb : ∀ o, w'.cell? (mkA b o) = w.cell? (mkA b o) ∧ w'.frozen? (mkA b o) = w.frozen? (mkA b o) := fun o => cell_same hb o
  cases kk <;> simp only [Bk.opn, reduceCtorEq, Option.some.injEq] at ho
  case «at» e =>
    subst ho
    obtain ⟨xs, h1, h2, h3, h4, h5, h6, pt, off, t, h7, h8⟩ := h
    refine ⟨xs, h1, h2, h3, h4, h5.mono hk h4 (fun j _ => hcb _), h6.with hc hS hSd, pt, off, t, h7, fun i hi hh => ?_⟩
    obtain ⟨v, g1, g2⟩ := h8 i hi (by simp)
    refine ⟨v, (hcb _).1.trans g1, ?_⟩
    show TOk t.size (updT q.T n S i) v
    rw [updT_other _ _ (fun e => hh (by rw [e]))]; exact g2
  case mt k v =>
    subst ho
    obtain ⟨l, es, clock, h1, h2, h3, h4, t, h5, h6⟩ := h
    refine ⟨l, es, clock, h1, hb.trans h2, h3.mono hk, h4.with hc hS hSd, t, h5, fun i en hi hh => ?_⟩
    show TOk t.size (updT q.T n S i) en.val
    rw [updT_other _ _ (fun e => hh (by rw [e]))]; exact h6 i en hi (by simp)
theorem setBox_map {f : V → V} {id : Nat} {bx : Box} (hb : bx.map f = bx) : ∀ (h : Heap), (setBox id bx h).map (fun (j, b) => (j, b.map f)) = setBox id bx (h.map fun (j, b) => (j, b.map f))
  | [] => rfl
  | (j, c) :: r => by
    simp only [setBox, List.map_cons]
    split
    · simp only [List.map_cons, hb]
    · simp only [List.map_cons, setBox_map hb r]
theorem V.map_map {f g : V → V} (hg : ∀ v : V, (∀ g c, v ≠ .fn g c) → (∀ a b, v ≠ .pair a b) → (∀ y, v ≠ .tup y) → V.map f (g v) = f (g v)) : ∀ (v : V), (v.map g).map f = v.map (fun x => f (g x)) := by
  intro v
  induction v with
  | fn a c ih => simp only [V.map, ih]
  | pair a b iha ihb => simp only [V.map, iha, ihb]
  | tup v ih => simp only [V.map, ih]
  | _ => exact hg _ (by simp) (by simp) (by simp)
theorem Tr.map_map {f g : V → V} (h : ∀ v, f (g v) = f (g v)) : ∀ (t : Tr), (t.map g).map f = t.map (fun x => f (g x))
  | .e => rfl
  | .l v => rfl
  | .n a b => by simp only [Tr.map, Tr.map_map h a, Tr.map_map h b]
theorem killLeaf_leaf (j : Nat) (f : V → V) (v : V) (h1 : ∀ g c, v ≠ .fn g c) (h2 : ∀ a b, v ≠ .pair a b) (h3 : ∀ y, v ≠ .tup y) : V.map f (killLeaf j v) = f (killLeaf j v) := by
  cases v <;> simp only [killLeaf] <;> first | rfl | (split <;> rfl) | exact absurd rfl (h1 _ _) | exact absurd rfl (h2 _ _) | exact absurd rfl (h3 _)
theorem St.map_map {s : St} {f g : V → V} (hg : ∀ v : V, (∀ g c, v ≠ .fn g c) → (∀ a b, v ≠ .pair a b) → (∀ y, v ≠ .tup y) → V.map f (g v) = f (g v)) : (s.map g).map f = s.map (fun x => f (g x)) := by
  have hv : ∀ v : V, (v.map g).map f = v.map (fun x => f (g x)) := V.map_map hg
  have ht : ∀ t : Tr, (t.map (V.map g)).map (V.map f) = t.map (V.map fun x => f (g x)) := by
    intro t
    induction t with
    | e => rfl
    | l v => simp only [Tr.map, hv]
    | n a b iha ihb => simp only [Tr.map, iha, ihb]
  simp only [St.map, ht, List.map_map]
  congr 1
  refine List.map_congr_left fun x _ => ?_
  obtain ⟨j, b⟩ := x
  cases b <;> simp [Box.map, hv]
section
variable {X : Cells} {S0 : Base} {w0 : World} {N : Nat} {m : Lm} {s : St} {tm : Array Value} {w : World}
theorem own_split {id : Nat} {l : Loc} {bx : Box} {hd : Heap} (hidd : getBox id hd ≠ none) {b o : Nat} (ho : Own (updL m id l) (setBox id bx hd) b o) : l.has b o ∨ ∃ i, i ≠ id ∧ getBox i hd ≠ none ∧ (m i).has b o := by
  obtain ⟨j, hj, hh⟩ := ho
  by_cases e : j = id
  · subst e; rw [updL_same] at hh; exact .inl hh
  · rw [updL_other m l e] at hh
    rw [getBox_set hidd, if_neg e] at hj
    exact .inr ⟨j, e, hj, hh⟩
/-- The room of element n is put by, or is another one. -/
theorem R0.hole (h : R0 X S0 w0 N m s tm w) {id n b : Nat} {q : BkL} {kk kh : Bk} {p : P} {S : Cells} {w' : World} (hb : getBox id s.h = some (.blk kk p)) (hm : m id = .blk b q) (hzi : memB id s.z = false) (ho : kk.opn n = some kh)
    (hfr : Fr S0.dk w.heap.size (fun c o => q.T n c o) w w') (hS : ∀ c o, S c o → (q.T n c o ∨ w.heap.size ≤ c) ∧ ∃ v, w'.cell? (mkA c o) = some v ∧ w'.frozen? (mkA c o) = false) :
    R0 X S0 w0 N (updL m id (.blk b (q.with n S))) (s.hole id kh p) tm w' ∧ Keep w (Fb X m s.h) w' (Fb X (updL m id (.blk b (q.with n S))) (s.hole id kh p).h) ∧ getBox id (s.hole id kh p).h = some (.blk kh p) ∧
      (∀ c o, ¬ Fb X m s.h c o ∨ (q.T n c o ∧ ¬ S c o) → c < w.heap.size → ¬ Fb X (updL m id (.blk b (q.with n S))) (s.hole id kh p).h c o) ∧
      ∀ c o, w.heap.size ≤ c → Fb X (updL m id (.blk b (q.with n S))) (s.hole id kh p).h c o → S c o := by
  have hid : getBox id s.h ≠ none := by rw [hb]; simp
  obtain ⟨b', q', g1, g2, g3⟩ := h.box id _ hb
  rw [hm] at g1; injection g1 with e1 e2; subst e1; subst e2
  have hhas : ∀ i c o, q.T i c o → (m id).has c o := fun i c o hh => by rw [hm]; exact .inr ⟨i, hh⟩
  have hTl : TlRel w b q := by
    cases kk <;> simp only [Bk.opn, reduceCtorEq] at ho
    · obtain ⟨_, _, _, _, _, _, h6, _⟩ := g3; exact h6
    · obtain ⟨_, _, _, _, _, _, h6, _⟩ := g3; exact h6
  have hsub : ∀ c o, (Loc.blk b (q.with n S)).has c o → (m id).has c o ∨ w.heap.size ≤ c := by
    intro c o hh
    rcases with_has hh with e | e | ⟨i, _, e⟩
    · exact .inl (by rw [hm]; exact .inl e)
    · exact (hS c o e).1.imp (hhas n c o) (fun q => q)
    · exact .inl (hhas i c o e)
  have hF2 : ∀ c o, Fb X (updL m id (.blk b (q.with n S))) (Eng.setBox id (.blk kh p) s.h) c o → Fb X m s.h c o ∨ w.heap.size ≤ c := by
    rintro c o (hx | hx)
    · exact .inl (.inl hx)
    · rcases own_split hid hx with e | ⟨i, _, e1, e2⟩
      · exact (hsub c o e).imp (fun q => .inr ⟨id, hid, q⟩) (fun q => q)
      · exact .inl (.inr ⟨i, e1, e2⟩)
  have hk : Keep w (Fb X m s.h) w' (Fb X (updL m id (.blk b (q.with n S))) (Eng.setBox id (.blk kh p) s.h)) := by
    intro c o v hv hn
    have hlt := cell_lt hv
    refine ⟨(hfr.cell c o hlt (fun q => hn (.inr ⟨id, hid, hhas n c o q⟩))).trans hv, fun q => ?_⟩
    rcases hF2 c o q with e | e
    · exact hn e
    · omega
  have hheap : w'.heap[b]? = w.heap[b]? := hfr.block b g2 (fun o hh => (hTl.1 n b o hh).1 rfl)
  have hbx : BRel (updL m id (.blk b (q.with n S))) w' (Fb X (updL m id (.blk b (q.with n S))) (Eng.setBox id (.blk kh p) s.h)) id (.blk kh p) := by
    refine ⟨b, q.with n S, updL_same _ _ _, Nat.lt_of_lt_of_le g2 hfr.size, rel_opn g3 ho hk hheap (fun c o ⟨i, hi, hh⟩ => ?_) (fun c o hs => ?_) (fun i hi c o hs hh => ?_)⟩
    · have hlt := h.own_lt ⟨id, hid, hhas i c o hh⟩
      have hne : ¬ q.T n c o := fun q' => hTl.2 i n c o hi hh q'
      exact ⟨hfr.cell c o hlt hne, hfr.frozen c o hlt⟩
    · obtain ⟨z1, z2⟩ := hS c o hs
      refine ⟨fun e => ?_, z2⟩
      subst e
      rcases z1 with z1 | z1
      · exact (hTl.1 n c o z1).1 rfl
      · omega
    · rcases (hS c o hs).1 with z1 | z1
      · exact hTl.2 i n c o hi hh z1
      · have := h.own_lt ⟨id, hid, hhas i c o hh⟩; omega
  have hR := h.remap (l := .blk b (q.with n S)) (bx := .blk kh p) (f := tvLeaf id) (hd := s.h) (Fm := Fb X m s.h) hzi hid h.nd (fun _ => .inl rfl) (fun i hi => h.zk i hi) hid rfl rfl tvLeaf_ok (Keep.refl _ _) (tvLeaf_imm id) (tvLeaf_tup id) (tvLeaf_fits id)
    (fun v i hi => ⟨tvLeaf_ids id v i hi, fun q => q⟩) (tvLeaf_tvs id) hk (by rw [hm]; rfl) (hfr.mono fun c o _ hh => hhas n c o hh)
    (fun c o hh => (hsub c o hh).imp (fun q => ⟨id, hid, by rw [← h.hz]; exact hzi, q⟩) (fun q => q))
    (fun i hi hp c o h1 h2 => by
      rcases hsub c o h2 with e | e
      · exact h.disj i id hi hp hid c o h1 e
      · have := h.own_lt ⟨i, hp, h1⟩; omega) hbx
  have hF : Fb X (updL m id (.blk b (q.with n S))) (s.hole id kh p).h = Fb X (updL m id (.blk b (q.with n S))) (Eng.setBox id (.blk kh p) s.h) := Fb_mapf _ _
  refine ⟨hR, by rw [hF]; exact hk, ?_, fun c o hc hlt => ?_, fun c o hge hf => ?_⟩
  rotate_left 2
  · rw [hF] at hf
    rcases hf with hx | hx
    · have := h.xold c o hx; omega
    · rcases own_split hid hx with e | ⟨i, _, e1, e2⟩
      · rcases with_has e with e | e | ⟨i, _, e⟩
        · omega
        · exact e
        · have := h.own_lt ⟨id, hid, hhas i c o e⟩; omega
      · have := h.own_lt ⟨i, e1, e2⟩; omega
  · show getBox id ((Eng.setBox id (.blk kh p) s.h).map fun (j, b) => (j, b.map (tvLeaf id))) = _
    rw [getBox_map, getBox_set hid, if_pos rfl]; rfl
  · rw [hF]
    intro hf
    rcases hc with hc | ⟨hc, hns⟩
    · rcases hF2 c o hf with e | e
      · exact hc e
      · omega
    · rcases hf with hx | hx
      · exact h.notX c o ⟨id, hid, hhas n c o hc⟩ hx
      · rcases own_split hid hx with e | ⟨i, hi, e1, e2⟩
        · rcases with_has e with e | e | ⟨i, hi, e⟩
          · exact (hTl.1 n c o hc).1 e
          · exact hns e
          · exact hTl.2 i n c o hi e hc
        · exact h.disj i id hi e1 hid c o e2 (hhas n c o hc)
theorem comp_ids {j id : Nat} (v : V) : ∀ i ∈ (v.map (fun x => tvLeaf id (killLeaf j x))).ids, i ∈ v.ids ∧ i ≠ j := by
  intro i hi
  rw [← V.map_map (killLeaf_leaf j (tvLeaf id))] at hi
  exact killLeaf_ids j v i (tvLeaf_ids id _ i hi)
/-- A list of the frame's own is given up: what it has room for behind some of its elements is that of element n. -/
theorem R0.give (h : R0 X S0 w0 N m s tm w) {id j n b lo l cap' cap : Nat} {q : BkL} {kk kh : Bk} {p : P} {t : Sh} {nl : Bool} {xs : List P} {a : Option (Nat × Nat)} (hb : getBox id s.h = some (.blk kk p)) (hm : m id = .blk b q) (hzi : memB id s.z = false) (ho : kk.opn n = some kh)
    (hj : getBox j s.h = some (.arr t nl xs)) (hzj : memB j s.z = false) (hmj : m j = .arr a xs.length cap t) (hlo : lo + l ≤ xs.length) (hcap : lo + cap' ≤ cap) (hl : l ≤ cap') :
    ∃ (S : Cells) (m' : Lm), m' id = .blk b (q.with n S) ∧ (∀ i, (m' i).fix = (m i).fix) ∧ R0 X S0 w0 N m' ((s.kill j).hole id kh p) tm w ∧ Keep w (Fb X m s.h) w (Fb X m' ((s.kill j).hole id kh p).h) ∧ getBox id ((s.kill j).hole id kh p).h = some (.blk kh p) ∧
      (∀ bb oo, a = some (bb, oo) → ∀ o, (lo + l) * t.size ≤ o → o < (lo + cap') * t.size → S bb (oo + o)) ∧
      (∀ bb oo, a = some (bb, oo) → ∀ i, i < xs.length → lo ≤ i → i < lo + l → ∃ c, Rep w (Fb X m' ((s.kill j).hole id kh p).h) t (rd xs i) c ∧ Seg w (Fb X m' ((s.kill j).hole id kh p).h) bb (oo + i * t.size) c) := by
  have hid : getBox id s.h ≠ none := by rw [hb]; simp
  have hjp : getBox j s.h ≠ none := by rw [hj]; simp
  have hne : id ≠ j := fun e => by subst e; rw [hb] at hj; cases hj
  obtain ⟨b', q', g1, g2, g3⟩ := h.box id _ hb
  rw [hm] at g1; injection g1 with e1 e2; subst e1; subst e2
  obtain ⟨a', c', g4, g5, g6, g7, g8⟩ := h.box j _ hj
  rw [hmj] at g4; injection g4 with e1 e2 e3; subst e1; subst e3
  let S : Cells := fun c o => ∃ bb oo, a = some (bb, oo) ∧ c = bb ∧ oo + (lo + l) * t.size ≤ o ∧ o < oo + (lo + cap') * t.size
  have hcl : (lo + cap') * t.size ≤ cap * t.size := Nat.mul_le_mul_right _ hcap
  have hSj : ∀ c o, S c o → (m j).has c o := by
    rintro c o ⟨bb, oo, rfl, rfl, h1, h2⟩
    rw [hmj]; exact ⟨rfl, by omega, by omega⟩
  have hhas : ∀ i c o, q.T i c o → (m id).has c o := fun i c o hh => by rw [hm]; exact .inr ⟨i, hh⟩
  have hsub : ∀ c o, (Loc.blk b (q.with n S)).has c o → (m id).has c o ∨ S c o := by
    intro c o hh
    rcases with_has hh with e | e | ⟨i, _, e⟩
    · exact .inl (by rw [hm]; exact .inl e)
    · exact .inr e
    · exact .inl (hhas i c o e)
  have hgd : ∀ i, getBox i (delBox j s.h) = if i = j then none else getBox i s.h := fun i => getBox_del h.nd
  have hidd : getBox id (delBox j s.h) ≠ none := by rw [hgd, if_neg hne]; exact hid
  have hF2 : ∀ c o, Fb X (updL m id (.blk b (q.with n S))) (Eng.setBox id (.blk kh p) (delBox j s.h)) c o → X c o ∨ (∃ i, i ≠ j ∧ getBox i s.h ≠ none ∧ (m i).has c o) ∨ S c o := by
    rintro c o (hx | hx)
    · exact .inl hx
    · rcases own_split hidd hx with e | ⟨i, _, e1, e2⟩
      · rcases hsub c o e with e | e
        · exact .inr (.inl ⟨id, hne, hid, e⟩)
        · exact .inr (.inr e)
      · rw [hgd] at e1
        by_cases ei : i = j
        · rw [if_pos ei] at e1; exact absurd rfl e1
        · rw [if_neg ei] at e1; exact .inr (.inl ⟨i, ei, e1, e2⟩)
  have hk : Keep w (Fb X m s.h) w (Fb X (updL m id (.blk b (q.with n S))) (Eng.setBox id (.blk kh p) (delBox j s.h))) := by
    intro c o v hv hn
    refine ⟨hv, fun hf => ?_⟩
    rcases hF2 c o hf with e | ⟨i, _, e1, e2⟩ | e
    · exact hn (.inl e)
    · exact hn (.inr ⟨i, e1, e2⟩)
    · exact hn (.inr ⟨j, hjp, hSj c o e⟩)
  have hst : ∀ c o, S c o → ∃ v, w.cell? (mkA c o) = some v ∧ w.frozen? (mkA c o) = false := by
    rintro c o ⟨bb, oo, rfl, rfl, h1, h2⟩
    obtain ⟨v, z1, z2⟩ := (g8 c oo rfl).2 (o - oo) (by omega)
    rw [show oo + (o - oo) = o from by omega] at z1 z2
    exact ⟨v, z1, z2⟩
  have hbx : BRel (updL m id (.blk b (q.with n S))) w (Fb X (updL m id (.blk b (q.with n S))) (Eng.setBox id (.blk kh p) (delBox j s.h))) id (.blk kh p) := by
    refine ⟨b, q.with n S, updL_same _ _ _, g2, rel_opn g3 ho hk rfl (fun _ _ _ => ⟨rfl, rfl⟩) (fun c o hs => ⟨fun e => ?_, hst c o hs⟩) (fun i hi c o hs hh => ?_)⟩
    · subst e; exact h.disj id j hne hid hjp c o (by rw [hm]; exact .inl rfl) (hSj c o hs)
    · exact h.disj id j hne hid hjp c o (hhas i c o hh) (hSj c o hs)
  have hz0 : memB id S0.z = false := by rw [← h.hz]; exact hzi
  have hz1 : memB j S0.z = false := by rw [← h.hz]; exact hzj
  have hL : LeafOk m w (Fb X m s.h) (Fb X (updL m id (.blk b (q.with n S))) (Eng.setBox id (.blk kh p) (delBox j s.h))) (fun v => tvLeaf id (killLeaf j v)) := by
    refine ⟨rfl, fun v cs hv => tvLeaf_ok.rel _ _ ((killLeaf_ok hk).rel v cs hv), fun v => ?_⟩
    rw [(tvLeaf_ok (m := m) (w := w) (F := Fb X m s.h)).agg, (killLeaf_ok (m := m) (Keep.refl w (Fb X m s.h))).agg]
  have hR := h.remap (l := .blk b (q.with n S)) (bx := .blk kh p) (f := fun v => tvLeaf id (killLeaf j v)) (hd := delBox j s.h) (w' := w) hzi hid (keys_del_nd h.nd) (fun i => by rw [hgd]; by_cases e : i = j <;> simp [e]) (fun i hi => by
      rw [hgd, if_neg (fun e => by subst e; rw [hz1] at hi; cases hi)]; exact h.zk i hi) hidd rfl rfl hL hk (fun _ _ => rfl) (fun v y e => killLeaf_tup j v y (tvLeaf_tup id _ y e)) (fun v t ht => tvLeaf_fits id _ t (killLeaf_fits j v t ht))
    (fun v i hi => ⟨(comp_ids v i hi).1, fun q => by rw [hgd, if_neg (comp_ids v i hi).2]; exact q⟩) (fun v => by rw [← V.map_map (killLeaf_leaf j (tvLeaf id))]; exact tvLeaf_tvs id _) (Keep.refl _ _) (by rw [hm]; rfl) (Fr.refl _ _ _)
    (fun c o hh => .inl (by
      rcases hsub c o hh with e | e
      · exact ⟨id, hid, hz0, e⟩
      · exact ⟨j, hjp, hz1, hSj c o e⟩))
    (fun i hi hp c o h1 h2 => by
      rw [hgd] at hp
      by_cases ei : i = j
      · rw [if_pos ei] at hp; exact hp rfl
      · rw [if_neg ei] at hp
        rcases hsub c o h2 with e | e
        · exact h.disj i id hi hp hid c o h1 e
        · exact h.disj i j ei hp hjp c o h1 (hSj c o e)) hbx
  have hse : (s.kill j).hole id kh p = ({ s with h := Eng.setBox id (.blk kh p) (delBox j s.h) } : St).map (fun v => tvLeaf id (killLeaf j v)) := by
    rw [← St.map_map (killLeaf_leaf j (tvLeaf id))]
    unfold St.hole St.kill
    congr 1
    show ({ t := _, h := Eng.setBox id _ ((delBox j s.h).map fun (j', b) => (j', b.map (killLeaf j))), z := _ } : St) = _
    rw [← setBox_map (f := killLeaf j) (bx := .blk kh p) rfl]
    rfl
  have hF : Fb X (updL m id (.blk b (q.with n S))) ((s.kill j).hole id kh p).h = Fb X (updL m id (.blk b (q.with n S))) (Eng.setBox id (.blk kh p) (delBox j s.h)) := by rw [hse]; exact Fb_mapf _ _
  refine ⟨S, updL m id (.blk b (q.with n S)), updL_same _ _ _, fun i => ?_, by rw [hse]; exact hR, by rw [hF]; exact hk, ?_, fun bb oo ha o h1 h2 => ⟨bb, oo, ha, rfl, by omega, by omega⟩, fun bb oo ha i hi h1 h2 => ?_⟩
  · by_cases e : i = id
    · subst e; rw [updL_same, hm]; rfl
    · rw [updL_other m _ e]
  · rw [hse]
    have e1 : (({ s with h := Eng.setBox id (.blk kh p) (delBox j s.h) } : St).map (fun v => tvLeaf id (killLeaf j v))).h = (Eng.setBox id (.blk kh p) (delBox j s.h)).map fun (j', b) => (j', b.map (fun v => tvLeaf id (killLeaf j v))) := rfl
    rw [e1, getBox_map, getBox_set hidd, if_pos rfl]; rfl
  · rw [hF]
    obtain ⟨c, z1, z2⟩ := (g8 bb oo ha).1 i hi
    refine ⟨c, z1.mono hk, fun jj x hx => ⟨(z2 jj x hx).1, fun hf => ?_⟩⟩
    have hjj : jj < t.size := by
      have := z1.len
      rcases Nat.lt_or_ge jj c.length with q | q
      · omega
      · rw [List.getElem?_eq_none q] at hx; cases hx
    have hle : (i + 1) * t.size ≤ (lo + l) * t.size := Nat.mul_le_mul_right _ (by omega)
    have hle2 : (i + 1) * t.size ≤ cap * t.size := Nat.mul_le_mul_right _ (by omega)
    have hss : (i + 1) * t.size = i * t.size + t.size := Nat.succ_mul _ _
    have hin : (m j).has bb (oo + i * t.size + jj) := by rw [hmj, ha]; exact ⟨rfl, by omega, by omega⟩
    rcases hF2 _ _ hf with e | ⟨k, ek, e1, e2⟩ | ⟨bb', oo', e1, _, e2, e3⟩
    · exact h.notX _ _ ⟨j, hjp, hin⟩ e
    · exact h.disj k j ek e1 hjp _ _ e2 hin
    · rw [ha] at e1; injection e1 with e1; injection e1 with e4 e5; subst e5; omega
end
end Go.Eng
end
/-! Storing and appending where lists and maps own what their slices have room for. Conditions: none. -/
section
set_option linter.unusedVariables false
set_option linter.unusedSimpArgs false
namespace Go.Eng
open Go.RowKit
theorem with_self {q : BkL} {n : Nat} : q.with n (q.T n) = q := by
  cases q with | mk len cap e T =>
  have : updT T n (T n) = T := by
    funext i; by_cases e : i = n
    · subst e; exact updT_same _ _ _
    · exact updT_other _ _ e
  simp only [BkL.with, this]
theorem opn_hol {n : Nat} {kk kh : Bk} (h : kk.opn n = some kh) : kh.hol n = some (n, kh) := by
  cases kk <;> simp [Bk.opn] at h <;> subst h <;> rfl
theorem hol_hol {n m : Nat} {kk kh : Bk} (h : kk.hol n = some (m, kh)) : kh.hol n = some (n, kh) := by
  cases kk <;> simp [Bk.hol] at h <;> obtain ⟨rfl, rfl⟩ := h <;> rfl
theorem hol_same {n : Nat} {kk kh : Bk} (h : kk.hol n = some (n, kh)) : kh = kk := by
  cases kk <;> simp [Bk.hol] at h <;> obtain ⟨rfl, rfl⟩ := h <;> rfl
section
variable {R : Type} {X : Cells} {S0 : Base} {w0 : World} {N : Nat} {m : Lm} {s : St} {tm : Array Value} {w : World} {r : R}
/-- The same under the same number: nothing changes but that other values let go of their room. -/
theorem R0.rehole (h : R0 X S0 w0 N m s tm w) {id b : Nat} {q : BkL} {kk : Bk} {p : P} (hb : getBox id s.h = some (.blk kk p)) (hm : m id = .blk b q) (hzi : memB id s.z = false) :
    R0 X S0 w0 N m (s.hole id kk p) tm w ∧ Fb X m (s.hole id kk p).h = Fb X m s.h ∧ getBox id (s.hole id kk p).h = some (.blk kk p) := by
  have hid : getBox id s.h ≠ none := by rw [hb]; simp
  have hmm : updL m id (.blk b q) = m := by
    funext j; by_cases e : j = id
    · subst e; rw [updL_same, hm]
    · rw [updL_other _ _ e]
  have hgs : ∀ j, getBox j (Eng.setBox id (.blk kk p) s.h) = getBox j s.h := fun j => by
    rw [getBox_set hid]; split
    · rename_i e; rw [e, hb]
    · rfl
  have hO : Own m (Eng.setBox id (.blk kk p) s.h) = Own m s.h := by
    funext c o
    exact propext ⟨fun ⟨j, hj, q⟩ => ⟨j, by rw [← hgs]; exact hj, q⟩, fun ⟨j, hj, q⟩ => ⟨j, by rw [hgs]; exact hj, q⟩⟩
  have hF : Fb X m (Eng.setBox id (.blk kk p) s.h) = Fb X m s.h := by funext c o; simp only [Fb, hO]
  have hhas : ∀ c o, (Loc.blk b q).has c o → (m id).has c o := fun c o hh => by rw [hm]; exact hh
  have hR := h.remap (l := .blk b q) (bx := .blk kk p) (f := tvLeaf id) (hd := s.h) (Fm := Fb X m s.h) (w' := w) hzi hid h.nd (fun _ => .inl rfl) (fun i hi => h.zk i hi) hid rfl rfl tvLeaf_ok (Keep.refl _ _) (tvLeaf_imm id) (tvLeaf_tup id) (tvLeaf_fits id)
    (fun v i hi => ⟨tvLeaf_ids id v i hi, fun q => q⟩) (tvLeaf_tvs id) (by rw [hmm, hF]; exact Keep.refl _ _) (by rw [hm]) (Fr.refl _ _ _)
    (fun c o hh => .inl ⟨id, hid, by rw [← h.hz]; exact hzi, hhas c o hh⟩)
    (fun i hi hp c o h1 h2 => h.disj i id hi hp hid c o h1 (hhas c o h2)) (by rw [hmm, hF]; exact h.box id _ hb)
  rw [hmm] at hR
  refine ⟨hR, (Fb_mapf _ _).trans hF, ?_⟩
  have e1 : (s.hole id kk p).h = (Eng.setBox id (.blk kk p) s.h).map fun (j', b) => (j', b.map (tvLeaf id)) := rfl
  rw [e1, getBox_map, getBox_set hid, if_pos rfl]; rfl
/-- A value is on its way to place n. -/
theorem toTv_ok (h : R0 X S0 w0 N m s tm w) {id n b : Nat} {q : BkL} {v : V} {k : Sh → P → St → Option R} {x : Value} (hm : m id = .blk b q) (hv : RelV m w (Fb X m s.h) v [x]) (he : toTv s id n v k = some r) :
    ∃ (t : Sh) (pq : P) (s' : St) (m' : Lm) (q' : BkL) (kh : Bk) (p : P), k t pq s' = some r ∧ R0 X S0 w0 N m' s' tm w ∧ m' id = .blk b q' ∧ (∀ j, (m' j).fix = (m j).fix) ∧ getBox id s'.h = some (.blk kh p) ∧ kh.hol n = some (n, kh) ∧
      Rep w (Fb X m' s'.h) (.slice t) pq [x] ∧ TOk t.size (q'.T n) x ∧ Keep w (Fb X m s.h) w (Fb X m' s'.h) ∧ memB id s'.z = false ∧ (∀ sh, v.fits sh = true → sh = .slice t) := by
  unfold toTv at he
  split at he
  case h_2 => cases he
  rename_i kk p hb
  cases hzi : memB id s.z with
  | true => rw [hzi] at he; cases he
  | false =>
  rw [hzi, cond_false] at he
  split at he
  · rename_i t
    split at he
    · rename_i kh ho
      obtain ⟨a, xs, cap, e1, e2, e3, e4, _⟩ := hv
      injection e1 with e5 e6; subst e6
      have ha : a = none := by cases a <;> simp at e5 ⊢
      subst ha
      have := e4 rfl; subst this
      injection e2 with e2
      obtain ⟨g1, g2, g3, _, _⟩ := h.hole (S := q.T n) (w' := w) hb hm hzi ho (Fr.refl _ _ _) (fun c o hs => ⟨.inl hs, by
        have hh : (m id).has c o := by rw [hm]; exact .inr ⟨n, hs⟩
        obtain ⟨b', q', z1, _, z3⟩ := h.box id _ hb
        rw [hm] at z1; injection z1 with z4 z5; subst z4; subst z5
        cases kk <;> simp only [Bk.opn, reduceCtorEq] at ho
        · obtain ⟨_, _, _, _, _, _, h6, _⟩ := z3; exact (h6.1 n c o hs).2
        · obtain ⟨_, _, _, _, _, _, h6, _⟩ := z3; exact (h6.1 n c o hs).2⟩)
      refine ⟨t, _, _, _, _, kh, p, he, g1, updL_same _ _ _, fun j => ?_, g3, opn_hol ho, ?_, ⟨none, 0, 0, e2, fun hlt => by omega⟩, g2, hzi, fun sh hs => (Sh.beq_eq hs).symm⟩
      · by_cases e : j = id
        · subst e; rw [updL_same, hm]; rfl
        · rw [updL_other _ _ e]
      · rw [e2]; exact ⟨none, [], 0, rfl, rfl, Nat.le_refl _, fun _ => rfl, fun i hi => absurd hi (by simp)⟩
    · cases he
  · rename_i j t
    split at he
    · rename_i t' nl xs kh hbj ho
      replace he := cond_some he
      obtain ⟨hc, he⟩ := he
      rw [Bool.and_eq_true] at hc
      have := Sh.beq_eq hc.1; subst this
      have hzj : memB j s.z = false := by simpa using hc.2
      obtain ⟨a, len, cap, h1, h2⟩ := hv
      injection h2 with h2
      obtain ⟨a', cap', g1, g2, g3, g4, g5⟩ := h.box _ _ hbj
      rw [h1] at g1; injection g1 with q1 q2 q3 q4; subst q1; subst q2; subst q3
      obtain ⟨S, m', z1, z2, z3, z4, z5, z6, z7⟩ := h.give (lo := 0) (l := xs.length) (cap' := cap) hb hm hzi ho hbj hzj h1 (by omega) (by omega) g3
      refine ⟨t, _, _, m', _, kh, p, he, z3, z1, z2, z5, opn_hol ho, ?_, ?_, z4, hzi, fun sh hs => by cases sh <;> simp [V.fits] at hs; rw [Sh.beq_eq hs]⟩
      · rw [h2, g2]
        refine Rep.of_arr g3 g4 fun bb o ha i hi => z7 bb o ha i hi (by omega) (by omega)
      · refine ⟨adr a, xs.length, cap, h2, fun hlt => ?_⟩
        cases a with
        | none => have := g4 rfl; omega
        | some y =>
          obtain ⟨bb, oo⟩ := y
          refine ⟨bb, oo, rfl, fun i h1 h2 => ?_⟩
          show updT q.T n S n bb (oo + i)
          rw [updT_same]
          exact z6 bb oo rfl i (by simpa using h1) (by simpa using h2)
    · cases he
  · rename_i j t lo l
    split at he
    · rename_i t' nl xs kh hbj ho
      replace he := cond_some he
      obtain ⟨hc, he⟩ := he
      rw [Bool.and_eq_true] at hc
      have := Sh.beq_eq hc.1; subst this
      have hzj : memB j s.z = false := by simpa using hc.2
      obtain ⟨a, len, cap, a', cap', h1, h2, h3, h4, h5, h6, h7⟩ := hv
      injection h5 with h5
      obtain ⟨a2, cap2, g1, g2, g3, g4, g5⟩ := h.box _ _ hbj
      rw [h1] at g1; injection g1 with q1 q2 q3 q4; subst q1; subst q2; subst q3
      obtain ⟨S, m', z1, z2, z3, z4, z5, z6, z7⟩ := h.give (lo := lo) (l := l) (cap' := cap') hb hm hzi ho hbj hzj h1 h2 h4 h3
      have hw := length_win (lo := lo) (n := l) h2
      have han : a = none → cap' = 0 := fun e => by have := g4 e; omega
      refine ⟨t, _, _, m', _, kh, p, he, z3, z1, z2, z5, opn_hol ho, ?_, ?_, z4, hzi, fun sh hs => by cases sh <;> simp [V.fits] at hs; rw [Sh.beq_eq hs]⟩
      · rw [h5, g2, ← h6]
        refine ⟨adr a', winOf lo l xs, cap', by rw [adr_none], by rw [hw], by rw [hw]; exact h3, fun e => han (by rw [adr_eq_none e] at h6; simpa using h6.symm), fun i hi => ?_⟩
        rw [hw] at hi
        have hpos : 0 < cap' := by omega
        cases a with
        | none => have := han rfl; omega
        | some y =>
          obtain ⟨bb, oo⟩ := y
          obtain ⟨c, p1, p2⟩ := z7 bb oo rfl (lo + i) (by omega) (by omega) (by omega)
          refine ⟨bb, oo + lo * t.size, c, adr_some (h7 hpos), by rw [rd_win hi]; exact p1, ?_⟩
          rw [show oo + lo * t.size + i * t.size = oo + (lo + i) * t.size from by rw [Nat.add_mul]; omega]
          exact p2
      · refine ⟨adr a', l, cap', h5, fun hlt => ?_⟩
        cases a with
        | none => have := han rfl; omega
        | some y =>
          obtain ⟨bb, oo⟩ := y
          refine ⟨bb, oo + lo * t.size, adr_some (h7 (by omega)), fun i h1 h2 => ?_⟩
          show updT q.T n S n bb _
          rw [updT_same, Nat.add_assoc]
          exact z6 bb oo rfl _ (by rw [Nat.add_mul]; omega) (by rw [Nat.add_mul]; omega)
    · cases he
  · rename_i j i t pq
    replace he := cond_some he
    obtain ⟨hc, he⟩ := he
    rw [Bool.and_eq_true] at hc
    have e1 := beq_iff.1 hc.1; have e2 := beq_iff.1 hc.2
    subst e1; subst e2
    obtain ⟨b', q', v', g1, g2, g3, g4⟩ := hv
    rw [hm] at g1; injection g1 with e1 e2; subst e1; subst e2
    injection g2 with g2; subst g2
    split at he
    · rename_i kh ho
      obtain ⟨z1, z2, z3, _, _⟩ := h.hole (S := q.T n) (w' := w) hb hm hzi ho (Fr.refl _ _ _) (fun c o hs => ⟨.inl hs, by
        obtain ⟨b', q', y1, _, y3⟩ := h.box _ _ hb
        rw [hm] at y1; injection y1 with y4 y5; subst y4; subst y5
        cases kk <;> simp only [Bk.opn, reduceCtorEq] at ho
        · obtain ⟨_, _, _, _, _, _, h6, _⟩ := y3; exact (h6.1 n c o hs).2
        · obtain ⟨_, _, _, _, _, _, h6, _⟩ := y3; exact (h6.1 n c o hs).2⟩)
      rw [with_self] at z1 z2
      refine ⟨t, pq, _, _, q, kh, p, he, z1, updL_same _ _ _, fun i => ?_, z3, opn_hol ho, g3.mono z2, g4, z2, hzi, fun sh hs => by cases sh <;> simp [V.fits] at hs; rw [Sh.beq_eq hs]⟩
      by_cases e : i = j
      · subst e; rw [updL_same, hm]
      · rw [updL_other _ _ e]
    · split at he
      · rename_i mm kh hh
        replace he := cond_some he
        obtain ⟨hc, he⟩ := he
        have e3 := beq_iff.1 hc
        subst e3
        have e4 := hol_same hh; subst e4
        obtain ⟨z1, z2, z3⟩ := h.rehole hb hm hzi
        exact ⟨t, pq, _, m, q, kh, p, he, z1, hm, fun _ => rfl, z3, hh, by rw [z2]; exact g3, g4, by rw [z2]; exact Keep.refl _ _, hzi, fun sh hs => by cases sh <;> simp [V.fits] at hs; rw [Sh.beq_eq hs]⟩
      · cases he
  · cases he
end
end Go.Eng
end
/-! Storing where lists and maps own what their slices have room for. Conditions: none. -/
section
set_option linter.unusedVariables false
set_option linter.unusedSimpArgs false
namespace Go.Eng
open Go.RowKit
section
variable {m : Lm} {w : World}
theorem ArrRel.set {F F' : Cells} {e : Sh} {xs : List P} {b o cap n off : Nat} {r : List Stp} {v : V} {sq sh : Sh} {y : P} {cs : List Value} (hA : ArrRel w F e xs b o cap) (hle : xs.length ≤ cap) (hn : n < xs.length)
    (hq : V.set r (.imm e (rd xs n)) v = some (.imm sq y)) (hsh : shAt e r = some (off, sh)) (hf : v.fits sh = true) (hx : RelV m w F v cs) (hk : Keep w F (w.setCells b (o + n * e.size + off) cs) F') :
    (∀ j, j < cs.length → ∃ u, w.cell? (mkA b (o + n * e.size + off + j)) = some u ∧ w.frozen? (mkA b (o + n * e.size + off + j)) = false) ∧ off + cs.length ≤ e.size ∧
      ArrRel (w.setCells b (o + n * e.size + off) cs) F' e (xs.set n y) b o cap := by
  obtain ⟨c0, q1, q2⟩ := hA.1 n hn
  obtain ⟨l, c, rr, rfl, k2, k3, k4, k5, k6⟩ := RelV.set (v := .imm e (rd xs n)) r hq (Sh.beq_refl e) q1 hsh hf hx
  have := Sh.beq_eq k4; subst this
  have hcl := RelV.len _ _ _ hf hx
  have hle' : (n + 1) * sq.size ≤ cap * sq.size := Nat.mul_le_mul_right _ (by omega)
  have hss : (n + 1) * sq.size = n * sq.size + sq.size := Nat.succ_mul _ _
  have hbd := shAt_bound r hsh
  have hcells : ∀ j, j < cs.length → ∃ u, w.cell? (mkA b (o + n * sq.size + off + j)) = some u ∧ w.frozen? (mkA b (o + n * sq.size + off + j)) = false := by
    intro j hj
    have := q2.cell (j := off + j) (by simp [k2, k3]; omega)
    rw [← Nat.add_assoc] at this
    exact this
  refine ⟨hcells, by omega, ?_⟩
  have hfr := setCells_fr (K0 := Par.no) (w := w) (b := b) (o := o + n * sq.size + off) (vs := cs) (fun j hj => by obtain ⟨u, hu, _⟩ := hcells j hj; exact Option.isSome_iff_exists.2 ⟨u, hu⟩)
  have hsto := setCells_sto hcells
  refine ⟨fun i hi => ?_, fun j hj => ?_⟩
  · rw [List.length_set] at hi
    rw [rd_set (by omega)]
    by_cases ei : i = n
    · subst ei
      rw [if_pos rfl]
      exact ⟨l ++ cs ++ rr, (RelV.mono hk _ _ k5 : RelV m _ _ (.imm sq y) _), sto_part k2 (by omega) q2 hfr hsto⟩
    · rw [if_neg ei]
      obtain ⟨c1, p1, p2⟩ := hA.1 i hi
      refine ⟨c1, p1.mono hk, fun j y hy => ?_⟩
      obtain ⟨z1, z2⟩ := p2 j y hy
      have hlt := cell_lt z1
      have hj : j < sq.size := by
        have := p1.len
        rcases Nat.lt_or_ge j c1.length with q | q
        · omega
        · rw [List.getElem?_eq_none q] at hy; cases hy
      have hnot : ¬ (b = b ∧ o + n * sq.size + off ≤ o + i * sq.size + j ∧ o + i * sq.size + j < o + n * sq.size + off + cs.length) := by
        rintro ⟨_, t1, t2⟩
        rcases Nat.lt_or_gt_of_ne ei with hlt' | hgt
        · have hh : (i + 1) * sq.size ≤ n * sq.size := Nat.mul_le_mul_right _ (by omega)
          have hs' : (i + 1) * sq.size = i * sq.size + sq.size := Nat.succ_mul _ _
          omega
        · have hh : (n + 1) * sq.size ≤ i * sq.size := Nat.mul_le_mul_right _ (by omega)
          omega
      exact ⟨(hfr.cell b _ hlt hnot).trans z1, (hfr.frozen b _ hlt).trans z2⟩
  · obtain ⟨u, z1, z2⟩ := hA.2 j hj
    have hlt := cell_lt z1
    have := hfr.there b (o + j) hlt
    rw [z1] at this
    obtain ⟨u', hu'⟩ := Option.isSome_iff_exists.1 (by simpa using this)
    exact ⟨u', hu', (hfr.frozen b _ hlt).trans z2⟩
end
section
variable {R : Type} {X : Cells} {S0 : Base} {w0 : World} {c : Cx} {m : Lm} {s : St} {a : Act} {w : World}
variable {o : Oper} {k : V → St → Option R} {r : R} {K : Act → World → Prop} {Q : Exit → Act → World → Prop}
theorem storeTl_ok {t : TypeId} {x y : Operand} {id n : Nat} {rp : List Stp} {path : List Stp} {sh : Sh} (ho : o.op = .store t x y) (hp : s.ev x = .ref id path sh) (htl : isTl s.h id path = some (n, rp))
    (hsh : c.sh t = some sh) (hf : ((s.ev y).as (some sh)).fits sh = true) (hsol : ((s.ev y).as (some sh)).solid = true)
    (he : storeTl s id n rp ((s.ev y).as (some sh)) k = some r) (h : R0 X S0 w0 c.n m s a.tmps w) (hK : HK X S0 w0 c.n a.tmps k r (fun v w' => K (a.put o.dst v) w')) : o.wp c.p a w K Q := by
  have hx := ev_rel h x
  rw [hp] at hx
  have hx := rel_ref.1 hx
  have hty := sh_is hsh
  obtain ⟨cs, hcs, hval⟩ := rel_cells hf hsol (as_rel (sh := some sh) (ev_rel h y))
  -- the place
  unfold isTl at htl
  split at htl
  case h_2 => cases htl
  rename_i kk p0 n0 r0 hb _
  split at htl
  case h_2 => cases htl
  rename_i e hel
  cases hat : atT e r0 with
  | false => rw [hat] at htl; cases htl
  | true =>
  rw [hat] at htl
  simp only [cond_true, Option.some.injEq, Prod.mk.injEq] at htl
  obtain ⟨rfl, rfl⟩ := htl
  obtain ⟨b, q, hh, hm, hlt, ⟨xs, rfl, h4, h5, h6, h7, h8, pt, off0, t0, h9, h10⟩, h11⟩ := brel_at (h.box id _ hb) hel
  rw [hm] at hx
  obtain ⟨n', r', off, e1, z1, z2, z3⟩ := hx
  injection e1 with e1 e2; injection e1 with e1; subst e1; subst e2
  have := atT_eq h9 hat; subst this
  rw [h5] at z2 z3
  rw [tp_at h9] at z2
  injection z2 with z2; injection z2 with z2 z4; subst z2; subst z4
  obtain ⟨x1, rfl⟩ : ∃ x1, cs = [x1] := by
    have := RelV.len _ _ _ hf hcs
    match cs, this with
    | [x], _ => exact ⟨x, rfl⟩
  obtain ⟨t1, pq, s', m', q', kh, p', g1, g2, g3, g4, g5, g6, g7, g8, g9, g10, g11⟩ := toTv_ok h hm hcs he
  have := g11 _ hf; injection this with this; subst this
  split at g1
  case h_2 => cases g1
  rename_i e2 m2 p2 hb2
  rw [g5] at hb2; injection hb2 with hb2; injection hb2 with hb2 hb3; subst hb2; subst hb3
  simp only [Bk.hol, Option.some.injEq, Prod.mk.injEq] at g6
  obtain ⟨rfl, _⟩ := g6
  split at g1
  case h_2 => cases g1
  rename_i sq yy hset
  obtain ⟨b2, qq, y1, y2, ⟨ys, rfl, w4, w5, w6, w7, w8, pt2, off2, t2, w9, w10⟩⟩ := g2.box id _ g5
  rw [g3] at y1; injection y1 with y1 y3; subst y1; subst y3
  have hfx := g4 id
  rw [g3, hm] at hfx
  have hqq : q'.len = q.len ∧ q'.e = q.e := by
    simp only [Loc.fix, Loc.blk.injEq, true_and] at hfx
    have e3 := congrArg BkL.len hfx; have e4 := congrArg BkL.e hfx
    exact ⟨e3, e4⟩
  have hee : e2 = e := by rw [← w5, hqq.2, h5]
  subst hee
  rw [h9] at w9
  injection w9 with w9; injection w9 with w9 w9b; injection w9b with w9b w9c; subst w9; subst w9b; subst w9c
  have hny : m2 < ys.length := by rw [← w4, hqq.1, h4]; rw [h4] at z1; exact z1
  have hcl : [x1].length = 1 := rfl
  -- the state behind it
  have hone := RelV.one _ _ hsol hcs
  have hfr0 : ∀ (hc : ∀ j, j < [x1].length → ∃ u, w.cell? (mkA b (0 + m2 * e2.size + off0 + j)) = some u ∧ w.frozen? (mkA b (0 + m2 * e2.size + off0 + j)) = false), Fr S0.dk w.heap.size (fun c i => c = b ∧ 0 + m2 * e2.size + off0 ≤ i ∧ i < 0 + m2 * e2.size + off0 + [x1].length) w (w.setCells b (0 + m2 * e2.size + off0) [x1]) :=
    fun hc => setCells_fr (K0 := S0.dk) (w := w) (b := b) (o := 0 + m2 * e2.size + off0) (vs := [x1]) (fun j hj => by obtain ⟨u, hu, _⟩ := hc j hj; exact Option.isSome_iff_exists.2 ⟨u, hu⟩)
  have hcells : ∀ j, j < [x1].length → ∃ u, w.cell? (mkA b (0 + m2 * e2.size + off0 + j)) = some u ∧ w.frozen? (mkA b (0 + m2 * e2.size + off0 + j)) = false := by
    intro j hj
    obtain ⟨u, u1, u2⟩ := w7.2 (m2 * e2.size + off0 + j) (by
      have hbd := shAt_bound _ (tp_at h9)
      have : (m2 + 1) * e2.size ≤ q'.cap * e2.size := Nat.mul_le_mul_right _ (by omega)
      have hs : (m2 + 1) * e2.size = m2 * e2.size + e2.size := Nat.succ_mul _ _
      simp only [Sh.size] at hbd
      simp only [List.length_cons, List.length_nil] at hj
      omega)
    refine ⟨u, ?_⟩
    simp only [Nat.zero_add] at u1 u2 ⊢
    exact ⟨u1, u2⟩
  have hfr := hfr0 hcells
  have hR := g2.setBox (bx := .blk (.at e2) (.list false (ys.set m2 yy))) (w' := w.setCells b (0 + m2 * e2.size + off0) [x1]) g5 g10 (hfr.mono fun c i _ hh => by rw [g3]; exact .inl hh.1) (fun i hi => by cases hi) (fun hk => by
    obtain ⟨_, q2, q3⟩ := w7.set (m := m') w6 hny (v := .imm (.slice t0) pq) hset (tp_at h9) (by simp [V.fits, Sh.beq_refl]) (cs := [x1]) g7 hk
    refine ⟨b, q', g3, Nat.lt_of_lt_of_le y2 hfr.size, ys.set m2 yy, rfl, by rw [List.length_set]; exact w4, w5, by rw [List.length_set]; exact w6, q3, w8.keep (fun i c o hi => ?_), _, off0, t0, h9, fun i hi _ => ?_⟩
    · obtain ⟨v1, v2, v3, v4⟩ := w8.1 i c o hi
      have hlt := cell_lt v3
      exact ⟨hfr.cell c o hlt (fun q => v1 q.1), hfr.frozen c o hlt⟩
    · rw [List.length_set] at hi
      by_cases ei : i = m2
      · subst ei
        have := setCells_sto (w := w) (b := b) (o := 0 + i * e2.size + off0) (vs := [x1]) hcells 0 x1 rfl
        simp only [Nat.zero_add, Nat.add_zero] at this
        exact ⟨x1, by simpa using this.1, g8⟩
      · obtain ⟨v1, v2, v3⟩ := w10 i hi (by simpa using fun e => ei e.symm)
        refine ⟨v1, (hfr.cell b _ (cell_lt v2) (fun q => ?_)).trans v2, v3⟩
        obtain ⟨_, t0', t2'⟩ := q
        simp only [List.length_cons, List.length_nil] at t2'
        have hbd := shAt_bound _ (tp_at h9)
        simp only [Sh.size] at hbd
        rcases Nat.lt_or_gt_of_ne ei with hlt' | hgt
        · have hh : (i + 1) * e2.size ≤ m2 * e2.size := Nat.mul_le_mul_right _ (by omega)
          have hs' : (i + 1) * e2.size = i * e2.size + e2.size := Nat.succ_mul _ _
          omega
        · have hh : (m2 + 1) * e2.size ≤ i * e2.size := Nat.mul_le_mul_right _ (by omega)
          have hs' : (m2 + 1) * e2.size = m2 * e2.size + e2.size := Nat.succ_mul _ _
          omega)
  have hst := run_store_cells hty hval (by rfl) hone hcells
  rw [Nat.zero_add] at hst hR
  refine wp_skp (w' := w.setCells b (m2 * e2.size + off0) [x1]) ?_ (hK _ _ m' undef _ g1 hR trivial (fun i hi => by cases hi))
  simp [execOp, ho, Instr.storeAt, Instr.sureAddr, z3, hst]
theorem op_store' {t : TypeId} {x y : Operand} (ho : o.op = .store t x y)
    (he : (match s.ev x with
    | .ref id path sh =>
      let v := (s.ev y).as (some sh)
      bif oIs (c.sh t) sh && (v.fits sh && (v.solid && !memB id s.z)) then
        match isTl s.h id path with
        | some (n, r) => storeTl s id n r v k
        | none => (match setRef s.h id path v with
        | some h => k .u { s with h := h }
        | none => (match toImm s v with
          | some (v', s') => (match setRef s'.h id path v' with | some h => k .u { s' with h := h } | none => none)
          | none => none))
      else none
    | _ => none) = some r) (h : R0 X S0 w0 c.n m s a.tmps w)
    (hK : HK X S0 w0 c.n a.tmps k r (fun v w' => K (a.put o.dst v) w')) : o.wp c.p a w K Q := by
  split at he
  · rename_i id path sh hp
    simp only at he
    have he0 := he
    replace he := cond_some he
    obtain ⟨hc, he⟩ := he
    split at he
    · rename_i n rp htl
      simp only [Bool.and_eq_true] at hc
      obtain ⟨hc1, hc2, hc3, hzi⟩ := hc
      exact storeTl_ok ho hp htl (oIs_eq hc1) hc2 hc3 he h hK
    · refine op_store ho ?_ h hK
      rw [hp]
      simp only [hc, cond_true]
      exact he
  · cases he
end
end Go.Eng
end
/-! Appending where lists and maps own what their slices have room for; maps of slices. Conditions: none. -/
section
set_option linter.unusedVariables false
set_option linter.unusedSimpArgs false
namespace Go.Eng
open Go.RowKit
theorem chunk_get {C : List Value} {e : Sh} {n i j : Nat} {v : Value} (hC : C.length = n * e.size) (hi : i < n) (hv : ((C.drop (i * e.size)).take e.size)[j]? = some v) : j < e.size ∧ C[i * e.size + j]? = some v := by
  have hj : j < e.size := by
    rcases Nat.lt_or_ge j e.size with q | q
    · exact q
    · rw [List.getElem?_eq_none (by simp; omega)] at hv; cases hv
  rw [List.getElem?_take_of_lt hj, List.getElem?_drop] at hv
  exact ⟨hj, hv⟩
section
variable {R : Type} {X : Cells} {S0 : Base} {w0 : World} {c : Cx} {m : Lm} {s : St} {a : Act} {w : World}
variable {o : Oper} {k : V → St → Option R} {r : R} {K : Act → World → Prop} {Q : Exit → Act → World → Prop}
theorem rd_app_l {xs ys : List P} {j : Nat} (h : j < xs.length) : rd (xs ++ ys) j = rd xs j := by simp only [rd, List.getD_eq_getElem?_getD, List.getElem?_append_left h]
theorem rd_app_r {xs ys : List P} {j : Nat} (h : xs.length ≤ j) : rd (xs ++ ys) j = rd ys (j - xs.length) := by simp only [rd, List.getD_eq_getElem?_getD, List.getElem?_append_right h]
theorem op_appTv {cl : Call} {x y : Operand} {t t' : TypeId} {ts : List TypeId} {d : Nat} {dd : TypeDesc} {id n : Nat} {e : Sh} {p : P} (ho : o.op = .call cl) (h1 : cl.callee = .builtin .append) (h2 : cl.args.toList = [x, y]) (h3 : cl.argTypes.toList = t :: t' :: ts)
    (hu' : c.p.underlying t' = some dd) (hdd : (∃ e, dd = .slice e) ∨ dd = .string) (hp : s.ev x = .tv id n e p)
    (he : evAppTv c s t id n e p (s.ev y) k = some r) (h : R0 X S0 w0 c.n m s a.tmps w)
    (hK : HK X S0 w0 c.n a.tmps k r (fun v w' => K (a.put o.dst v) w')) : o.wp c.p a w K Q := by
  have ha : cl.args = #[x, y] := by apply Array.ext'; simpa using h2
  have ht0 : cl.argTypes[0]? = some t := by rw [← Array.getElem?_toList, h3]; rfl
  have ht1 : cl.argTypes[1]? = some t' := by rw [← Array.getElem?_toList, h3]; rfl
  have fin : ∀ (v : Value) (w' : World), (Builtin.append_ cl.argTypes o.type #[a.eval x, a.eval y]).run c.p w = .ok v w' → (execOp a.eval o).run c.p w = .ok (.value v) w' := by
    intro v w' hr
    simp [execOp, ho, resolve, h1, ha, invoke, builtin, hr]
  unfold evAppTv at he
  split at he
  case h_2 => cases he
  rename_i e' bytes ys kk pp hsh hby hys hb
  split at he
  case h_2 => cases he
  rename_i kh hko
  replace he := cond_some he
  obtain ⟨hc, he⟩ := he
  simp only [Bool.and_eq_true, Nat.blt_eq] at hc
  obtain ⟨⟨hc0, hzi⟩, hc1, hc2⟩ := hc
  have := Sh.beq_eq hc0; subst this
  have hzi : memB id s.z = false := by simpa using hzi
  have hc2 := of_decide_eq_true hc2
  obtain ⟨te, n', hu, hte⟩ := shOf_slice hsh
  obtain ⟨i, z, i1, i2, i3, i4, i5, i6⟩ := bytes_ty hu hby hte
  have hzl : z.cells.size = e.size := by have := (i6 w (fun _ _ => False)).len; simpa using this
  obtain ⟨C, hC⟩ := appArg_ok (P := c.p) h (ev_rel h y) hys
  have hxr := ev_rel h x
  rw [hp] at hxr
  obtain ⟨b, q, v, hm, hv, hrep, hT⟩ := (rel_sc (by simp) (by simp) rfl).1 hxr
  injection hv with hv; subst hv
  obtain ⟨A, xs, cap, rfl, hvx, hle, hnn, hel⟩ := hrep
  injection hvx with hvx
  obtain ⟨A1, len1, cap1, hv1, hT⟩ := hT
  rw [hvx] at hv1; injection hv1 with e1 e2 e3; subst e1; subst e2; subst e3
  have hid : getBox id s.h ≠ none := by rw [hb]; simp
  obtain ⟨b', q', g1, g2, g3⟩ := h.box id _ hb
  rw [hm] at g1; injection g1 with e1 e2; subst e1; subst e2
  have hTl : TlRel w b q := by
    cases kk <;> simp only [Bk.opn, reduceCtorEq] at hko
    · obtain ⟨_, _, _, _, _, _, h6, _⟩ := g3; exact h6
    · obtain ⟨_, _, _, _, _, _, h6, _⟩ := g3; exact h6
  simp only [P.xs, P.isNil] at he hc2
  have hsum : (xs.length + ys.length) * e.size = xs.length * e.size + ys.length * e.size := Nat.add_mul _ _ _
  by_cases hroom : xs.length + ys.length ≤ cap
  · by_cases hn : ys.length = 0
    · -- nothing is appended
      have hys0 : ys = [] := List.eq_nil_of_length_eq_zero hn
      subst hys0
      have hC0 : C = [] := List.eq_nil_of_length_eq_zero (by rw [hC.len]; simp)
      subst hC0
      obtain ⟨z1, z2, z3, _, _⟩ := h.hole (S := q.T n) (w' := w) (p := pp) hb hm hzi hko (Fr.refl _ _ _) (fun c o hs => ⟨.inl hs, (hTl.1 n c o hs).2⟩)
      rw [with_self] at z1 z2
      have hrun := run_app_room (P := c.p) (w := w) (w' := w) (ty := o.type) (base := A) (sLen := xs.length) (sCap := cap) (n := 0) (y := a.eval y) (news := []) ht0 ht1 hu hu' hdd i1 (fun W => by simpa using hC.lenOf W) (by rw [i3]; simpa using hC.cells w (fun _ _ => rfl)) (by simpa using hroom) (fun ad _ => rfl) (fun _ => rfl)
      refine wp_val (fin _ _ (by rw [hvx]; exact hrun)) (hK _ _ _ _ _ he z1 ((rel_sc (by simp) (by simp) rfl).2 ⟨b, q, _, updL_same _ _ _, rfl, ?_, ?_⟩) (fun i hi => by simp [V.ids] at hi; subst hi; rw [z3]; simp))
      · have : Rep w (Fb X m s.h) (.slice e) (.list A.isNone xs) [.slice A xs.length cap] := ⟨A, xs, cap, rfl, rfl, hle, hnn, hel⟩
        simpa using this.mono z2
      · exact ⟨A, xs.length, cap, by simp, hT⟩
    · -- into what there is room for
      obtain ⟨bb, oo, rfl, hcs⟩ := hT (by omega)
      have hk1 : (xs.length + ys.length) * e.size ≤ cap * e.size := Nat.mul_le_mul_right _ hroom
      have hcells : ∀ j, j < C.length → q.T n bb (oo + xs.length * e.size + j) ∧ ∃ u1, w.cell? (mkA bb (oo + xs.length * e.size + j)) = some u1 ∧ w.frozen? (mkA bb (oo + xs.length * e.size + j)) = false := by
        intro j hj
        rw [hC.len] at hj
        have := hcs (xs.length * e.size + j) (by omega) (by omega)
        rw [← Nat.add_assoc] at this
        exact ⟨this, (hTl.1 n bb _ this).2⟩
      have hst := run_storeCells_cells (P := c.p) bb (oo + xs.length * e.size) C 0 w (fun j hj => by obtain ⟨_, u1, q1, _⟩ := hcells j hj; rw [Nat.add_zero]; exact Option.isSome_iff_exists.2 ⟨u1, q1⟩) (fun j hj => by obtain ⟨_, u1, _, q1⟩ := hcells j hj; rw [Nat.add_zero]; exact q1) hC.one
      rw [Nat.add_zero] at hst
      have hrun := run_app_room (P := c.p) (w := w) (w' := w.setCells bb (oo + xs.length * e.size) C) (ty := o.type) (base := some (mkA bb oo)) (sLen := xs.length) (sCap := cap) (n := ys.length) (y := a.eval y) (news := C) ht0 ht1 hu hu' hdd i1 hC.lenOf (by rw [i3]; exact hC.cells w (fun _ _ => rfl)) hroom
        (fun ad e1 => by
          have : ad = mkA bb oo := by simpa using e1.symm
          subst this
          rw [mkA_add, i3]; exact hst) (fun e1 => by cases e1)
      have hfr := setCells_fr (K0 := S0.dk) (w := w) (b := bb) (o := oo + xs.length * e.size) (vs := C) (fun j hj => by obtain ⟨_, u1, hu1, _⟩ := hcells j hj; exact Option.isSome_iff_exists.2 ⟨u1, hu1⟩)
      have hsto := setCells_sto (fun j hj => (hcells j hj).2)
      let S : Cells := fun c' o' => q.T n c' o' ∧ ¬ (c' = bb ∧ oo + xs.length * e.size ≤ o' ∧ o' < oo + xs.length * e.size + C.length)
      obtain ⟨z1, z2, z3, z4, _⟩ := h.hole (S := S) (w' := w.setCells bb (oo + xs.length * e.size) C) (p := pp) hb hm hzi hko (hfr.mono fun c' o' _ hh => by
          obtain ⟨rfl, q1, q2⟩ := hh
          have := (hcells (o' - (oo + xs.length * e.size)) (by omega)).1
          rwa [show oo + xs.length * e.size + (o' - (oo + xs.length * e.size)) = o' from by omega] at this)
        (fun c' o' hs => ⟨.inl hs.1, by
          obtain ⟨_, u1, q1, q2⟩ := hTl.1 n c' o' hs.1
          have hlt := cell_lt q1
          exact ⟨u1, (hfr.cell c' o' hlt hs.2).trans q1, (hfr.frozen c' o' hlt).trans q2⟩⟩)
      refine wp_val (fin _ _ (by rw [hvx]; exact hrun)) (hK _ _ _ _ _ he z1 ((rel_sc (by simp) (by simp) rfl).2 ⟨b, q.with n S, _, updL_same _ _ _, rfl, ?_, ?_⟩) (fun i hi => by simp [V.ids] at hi; subst hi; rw [z3]; simp))
      · refine ⟨some (mkA bb oo), xs ++ ys, cap, by simp, by rw [List.length_append], by rw [List.length_append]; exact hroom, (fun e1 => by cases e1), fun j hj => ?_⟩
        rw [List.length_append] at hj
        rcases Nat.lt_or_ge j xs.length with q1 | q1
        · obtain ⟨b1, o1, c1, p1, p2, p3⟩ := hel j q1
          exact ⟨b1, o1, c1, p1, by rw [rd_app_l q1]; exact p2.mono z2, p3.mono z2⟩
        · refine ⟨bb, oo, _, rfl, by rw [rd_app_r q1]; exact (hC.rep (j - xs.length) (by omega)).mono z2, fun l u1 hl => ?_⟩
          obtain ⟨hll, hcl⟩ := chunk_get hC.len (by omega) hl
          have hx := hsto _ _ hcl
          have hlc : (j - xs.length) * e.size + l < C.length := by
            rcases Nat.lt_or_ge ((j - xs.length) * e.size + l) C.length with q' | q'
            · exact q'
            · rw [List.getElem?_eq_none q'] at hcl; cases hcl
          have e3 : oo + xs.length * e.size + ((j - xs.length) * e.size + l) = oo + j * e.size + l := by
            have : j * e.size = xs.length * e.size + (j - xs.length) * e.size := by rw [← Nat.add_mul]; congr 1; omega
            omega
          have hT1 := (hcells _ hlc).1
          obtain ⟨u2, hu2, _⟩ := (hcells _ hlc).2
          rw [e3] at hx hT1 hu2
          refine ⟨hx.1, z4 bb _ (.inr ⟨hT1, fun hs => hs.2 ⟨rfl, by omega, by omega⟩⟩) (cell_lt hu2)⟩
      · refine ⟨some (mkA bb oo), xs.length + ys.length, cap, by simp, fun hlt => ⟨bb, oo, rfl, fun j hj1 hj2 => ?_⟩⟩
        show updT q.T n S n bb (oo + j)
        rw [updT_same]
        exact ⟨hcs j (by omega) hj2, fun hh => by have := hC.len; omega⟩
  · -- a new block
    obtain ⟨A2, hA⟩ := appArg_ok (P := c.p) (e := e) (v := s.ev x) (y := a.eval x) (ys := xs) h (ev_rel h x) (by rw [hp]; simp [appArg, lst, P.xs, Sh.beq_refl])
    have hgc := grownCap_ge' w (xs.length + ys.length) cap te
    have hdr : ∀ b o, w.drew.cell? (mkA b o) = w.cell? (mkA b o) := fun b o => rfl
    have hrun := run_app_grow (P := c.p) (w := w) (ty := o.type) (base := A) (sLen := xs.length) (sCap := cap) (n := ys.length) (y := a.eval y) (news := C) (olds := A2) ht0 ht1 hu hu' hdd i1 i4 hC.lenOf (by rw [i3]; exact hC.cells w.drew hdr)
      (by rw [i3, ← hvx]; exact hA.cells w.drew hdr) (by omega) (by omega) (growslice_fits (by omega) (by rw [i2]; exact hc2))
    generalize hcap2 : grownCap w (xs.length + ys.length) cap te = cap2 at hrun hgc
    generalize hcsA : A2.toArray ++ C.toArray ++ Builtin.zeroCells z.cells (cap2 - (xs.length + ys.length)) = csA at hrun
    have hsz : csA.size = cap2 * e.size := by rw [← hcsA]; exact grownCap_cells hzl (by rw [hA.len, hC.len, Nat.add_mul]) hgc
    have hblk := two_blocks (w := w) (F := Fb X m s.h) (e := e) (xs := xs) (ys := ys) (A := A2) (B := C) (Z := (Builtin.zeroCells z.cells (cap2 - (xs.length + ys.length))).toList) hA.len hC.len hA.rep hC.rep
    have hcl : csA.toList = A2 ++ C ++ (Builtin.zeroCells z.cells (cap2 - (xs.length + ys.length))).toList := by rw [← hcsA]; simp
    rw [← hcl] at hblk
    have hbelow : Below w.heap.size w (w.drew.alloc (.cells csA te)) := ((Below.refl _ w).drew).alloc (by show w.heap.size ≤ w.drew.heap.size; exact Nat.le_refl _) _
    have hfr := Fr.of_below (K := S0.dk) hbelow (fun _ => Nat.le_succ _) (fun c' o' => q.T n c' o')
    have hsto := alloc_sto (w := w.drew) te csA.toList
    simp only [Array.toArray_toList] at hsto
    have hwd : w.drew.heap.size = w.heap.size := rfl
    rw [hwd] at hsto
    let S : Cells := fun c' o' => c' = w.heap.size ∧ (xs.length + ys.length) * e.size ≤ o' ∧ o' < cap2 * e.size
    have hle2 : (xs.length + ys.length) * e.size ≤ cap2 * e.size := Nat.mul_le_mul_right _ hgc
    obtain ⟨z1, z2, z3, _, z5⟩ := h.hole (S := S) (w' := w.drew.alloc (.cells csA te)) (p := pp) hb hm hzi hko hfr (fun c' o' hs => ⟨.inr (by rw [hs.1]; exact Nat.le_refl _), by
        obtain ⟨rfl, q1, q2⟩ := hs
        have hlt : o' < csA.toList.length := by simp; omega
        have := hsto o' _ (List.getElem?_eq_getElem hlt)
        rw [Nat.zero_add] at this
        exact ⟨_, this⟩⟩)
    have hne : (A.isNone && ys.isEmpty) = false := by
      cases ys with
      | nil => simp at hroom; omega
      | cons _ _ => simp
    rw [hne] at he
    refine wp_val (fin _ _ (by rw [hvx]; exact hrun)) (hK _ _ _ _ _ he z1 ((rel_sc (by simp) (by simp) rfl).2 ⟨b, q.with n S, _, updL_same _ _ _, rfl, ?_, ?_⟩) (fun i hi => by simp [V.ids] at hi; subst hi; rw [z3]; simp))
    · refine ⟨some (mkA w.heap.size 0), xs ++ ys, cap2, rfl, by rw [List.length_append]; rfl, by rw [List.length_append]; exact hgc, (fun e1 => by cases e1), fun j hj => ?_⟩
      refine ⟨w.heap.size, 0, _, rfl, (hblk j hj).mono z2, fun l u1 hl => ?_⟩
      have hlen1 : csA.toList.length = cap2 * e.size := by simpa using hsz
      rw [List.length_append] at hj
      obtain ⟨hll, hcl'⟩ := chunk_get (n := cap2) hlen1 (by omega) hl
      have hx := hsto _ _ hcl'
      rw [← Nat.add_assoc] at hx
      refine ⟨hx.1, fun hf => ?_⟩
      have hs := z5 w.heap.size _ (Nat.le_refl _) hf
      obtain ⟨_, q1, _⟩ := hs
      have hle3 : (j + 1) * e.size ≤ (xs.length + ys.length) * e.size := Nat.mul_le_mul_right _ (by omega)
      have hss : (j + 1) * e.size = j * e.size + e.size := Nat.succ_mul _ _
      omega
    · refine ⟨some (mkA w.heap.size 0), xs.length + ys.length, cap2, rfl, fun hlt => ⟨w.heap.size, 0, rfl, fun j hj1 hj2 => ?_⟩⟩
      show updT q.T n S n w.heap.size (0 + j)
      rw [updT_same, Nat.zero_add]
      exact ⟨rfl, hj1, hj2⟩
theorem op_append' {cl : Call} {x y : Operand} {t t' : TypeId} {ts : List TypeId} {d : Nat} {dd : TypeDesc} (ho : o.op = .call cl) (h1 : cl.callee = .builtin .append) (h2 : cl.args.toList = [x, y]) (h3 : cl.argTypes.toList = t :: t' :: ts)
    (hu' : c.p.underlying t' = some dd) (hdd : (∃ e, dd = .slice e) ∨ dd = .string)
    (he : evApp c s d t (s.ev x) (s.ev y) k = some r) (h : R0 X S0 w0 c.n m s a.tmps w)
    (hK : HK X S0 w0 c.n a.tmps k r (fun v w' => K (a.put o.dst v) w')) : o.wp c.p a w K Q := by
  unfold evApp at he
  split at he
  · rename_i id n e p hp
    exact op_appTv (d := d) ho h1 h2 h3 hu' hdd hp he h hK
  · exact op_append ho h1 h2 h3 hu' hdd he h hK
end
end Go.Eng
end
/-! Maps of slices that own what these have room for; makes of such. Conditions: none. -/
section
set_option linter.unusedVariables false
set_option linter.unusedSimpArgs false
namespace Go.Eng
open Go.RowKit
section
variable {R : Type} {X : Cells} {S0 : Base} {w0 : World} {c : Cx} {m : Lm} {s : St} {a : Act} {w : World}
variable {o : Oper} {k : V → St → Option R} {r : R} {K : Act → World → Prop} {Q : Exit → Act → World → Prop}
theorem updTl_ok {t kt vt : TypeId} {mo ko vo : Operand} {id : Nat} {ks vs k1 v1 : Sh} {kp : P} {kd : TypeDesc} (ho : o.op = .mapUpdate t mo ko vo) (hu : c.p.underlying t = some (.map kt vt)) (hud : c.p.underlying kt = some kd) (hd : KeyD kd ks)
    (hp : s.ev mo = .blk id (.mt k1 v1)) (hi : OneRel w (Fb X m s.h) ks kp (a.eval ko)) (hsl : isSl vs = true) (hf : ((s.ev vo).as (some vs)).fits vs = true) (hsol : ((s.ev vo).as (some vs)).solid = true)
    (he : updTl s id ks vs kp ((s.ev vo).as (some vs)) k = some r) (h : R0 X S0 w0 c.n m s a.tmps w) (hK : HK X S0 w0 c.n a.tmps k r (fun v w' => K (a.put o.dst v) w')) : o.wp c.p a w K Q := by
  have hx := ev_rel h mo
  rw [hp, rel_blk] at hx
  obtain ⟨b, q, hm, hv, _⟩ := hx
  have hv : a.eval mo = .map (some b) := hv
  unfold updTl at he
  split at he
  case h_2 => cases he
  rename_i kk p0 hb
  replace he := cond_some he
  obtain ⟨hism, he⟩ := he
  obtain ⟨cs, hcs, hval⟩ := rel_cells hf hsol (as_rel (sh := some vs) (ev_rel h vo))
  obtain ⟨vt', rfl⟩ : ∃ t, vs = .slice t := by cases vs <;> simp [isSl] at hsl; exact ⟨_, rfl⟩
  have hcs1 : cs = [a.eval vo] := by simpa [valOf, Sh.isAgg] using hval
  subst hcs1
  obtain ⟨b0, q0, y1, _, y2⟩ := h.box id _ hb
  rw [hm] at y1; injection y1 with y3 y4; subst y3; subst y4
  obtain ⟨t1, pq, s', m', q', kh, p', g1, g2, g3, g4, g5, g6, g7, g8, g9, g10, g11⟩ := toTv_ok h hm hcs he
  have := g11 _ hf; injection this with this; subst this
  split at g1
  case h_2 => cases g1
  rename_i k2 v2 mm p2 hb2
  rw [g5] at hb2; injection hb2 with hb2; injection hb2 with hb2 hb3; subst hb2; subst hb3
  replace g1 := cond_some g1
  obtain ⟨hc, g1⟩ := g1
  rw [Bool.and_eq_true] at hc
  have e1 := Sh.beq_eq hc.1; have e2 := Sh.beq_eq hc.2
  subst e1; subst e2
  simp only [Bk.hol, Option.some.injEq, Prod.mk.injEq] at g6
  obtain ⟨hmm, _⟩ := g6
  obtain ⟨b2, q2, z1, z2, ⟨l, es, clock, rfl, h0, hent, hT, tt, htt, hte⟩⟩ := g2.box id _ g5
  rw [g3] at z1; injection z1 with z3 z4; subst z3; subst z4
  injection htt with htt; subst htt
  have hi' := hi.mono g9
  have hvo : OneRel w (Fb X m' s'.h) (.slice vt') pq (a.eval vo) := by unfold OneRel; rw [if_neg (by simp [Sh.isAgg])]; exact g7
  -- the place of the key in both
  obtain ⟨l0, es0, clk, hl0, h00, hen0⟩ : ∃ l0 es0 clk, p0.xs = l0 ∧ w.heap[b]? = some (.map es0 clk) ∧ EntRel w (Fb X m s.h) ks (.slice vt') l0 es0.toList := by
    cases kk <;> simp only [Bk.isM, Bool.and_eq_true] at hism <;> first | (cases hism; done) | skip
    · have e1 := Sh.beq_eq hism.1; have e2 := Sh.beq_eq hism.2; subst e1; subst e2
      obtain ⟨l0, es0, clk, rfl, e, e3, _⟩ := y2; exact ⟨l0, es0, clk, rfl, e, e3⟩
    · have e1 := Sh.beq_eq hism.1; have e2 := Sh.beq_eq hism.2; subst e1; subst e2
      obtain ⟨l0, es0, clk, rfl, e, e3, _⟩ := y2; exact ⟨l0, es0, clk, rfl, e, e3⟩
  rw [h00] at h0; injection h0 with h0; injection h0 with e5 e6; subst e5; subst e6
  rw [hl0] at hmm g8
  have h1 := run_checkKey (w := w) hd hud false 9999 (a.eval ko)
  rcases find_ok hd hi' (Sh.zero (.slice vt')) l es0.toList 0 hent with ⟨q1, q2, _, q4⟩ | ⟨j, e, q1, q2, q3, q4, q5, q6⟩
  · have h2 := run_findKey (w := w) hud q2
    have hmn : mm = es0.toList.length := by rw [hmm, idx_none hd hi 0 hen0 q2, entRel_len hen0]
    have hR := set_blk (k1 := .mt ks (.slice vt')) (p := .list false (updP ks kp pq l)) (ob := .map (es0.push { key := a.eval ko, val := a.eval vo, born := clk }) (clk + 1)) g2 g5 g10 g3 h00 rfl rfl (fun {w'} hk hh hot => ⟨_, _, _, rfl, hh, by
      rw [q4, Array.toList_push]
      exact entRel_snoc (hi'.mono hk) (hvo.mono hk) (hent.mono hk), hT.keep (fun i c' o' ht => hot c' o' (by obtain ⟨_, v, z, _⟩ := hT.1 i c' o' ht; exact cell_lt z) (hT.1 i c' o' ht).1), vt', rfl, fun i en hen _ => by
      rw [Array.toList_push] at hen
      rcases Nat.lt_or_ge i es0.toList.length with hlt | hge
      · rw [List.getElem?_append_left hlt] at hen
        exact hte i en hen (by rw [hmn]; simp; simp at hlt; omega)
      · rw [List.getElem?_append_right hge] at hen
        have hie : i - es0.toList.length = 0 := by
          rcases Nat.eq_zero_or_pos (i - es0.toList.length) with z | z
          · exact z
          · rw [List.getElem?_eq_none (by simp at z ⊢; omega)] at hen; cases hen
        rw [hie] at hen
        simp only [List.getElem?_cons_zero, Option.some.injEq] at hen
        subst hen
        have : i = mm := by rw [hmn]; omega
        rw [this, hmm]
        exact g8⟩)
    refine wp_skp (w' := _) ?_ (hK .u _ m' undef _ g1 hR trivial (fun i hi => by cases hi))
    simp only [execOp, ho, Instr.mapUpdate, Sem.run_bind, run_underlying hu, Result.andThen_ok, hv, run_getObj h00 rfl, h1, h2, run_setObj h00 rfl]
    rfl
  · have h2 := run_findKey (w := w) hud q2
    have hmn : mm = j := by rw [hmm, idx_find hd hi 0 hen0 q2]
    have hR := set_blk (k1 := .mt ks (.slice vt')) (p := .list false (updP ks kp pq l)) (ob := .map (es0.modify j fun e => { e with key := a.eval ko, val := a.eval vo }) clk) g2 g5 g10 g3 h00 rfl rfl (fun {w'} hk hh hot => ⟨_, _, _, rfl, hh, by
      have := (q6 pq _ hvo).mono hk
      simpa using this, hT.keep (fun i c' o' ht => hot c' o' (by obtain ⟨_, v, z, _⟩ := hT.1 i c' o' ht; exact cell_lt z) (hT.1 i c' o' ht).1), vt', rfl, fun i en hen _ => by
      rw [Array.toList_modify] at hen
      by_cases hij : i = j
      · subst hij
        rw [List.getElem?_modify, q3] at hen
        simp only [if_true, Option.map_eq_map, Option.map_some, Option.some.injEq] at hen
        subst hen
        rw [← hmn, hmm]; exact g8
      · rw [List.getElem?_modify] at hen
        have hen : es0.toList[i]? = some en := by simpa [show ¬ j = i from fun e => hij e.symm] using hen
        exact hte i en hen (by rw [hmn]; simp; exact fun e => hij e.symm)⟩)
    refine wp_skp (w' := _) ?_ (hK .u _ m' undef _ g1 hR trivial (fun i hi => by cases hi))
    have hk : ((es0[j]?).map (·.key)).getD (a.eval ko) = a.eval ko := by
      rw [← Array.getElem?_toList, q3]; exact q4
    rw [Nat.zero_add] at h2
    have hs := sameBits_key hd hi' 10000
    simp only [execOp, ho, Instr.mapUpdate, Sem.run_bind, run_underlying hu, Result.andThen_ok, hv, run_getObj h00 rfl, h1, h2, hk, Instr.keyThatStays, hs, if_true, Sem.run_pure, Nat.zero_add, run_setObj h00 rfl]
theorem op_mapUpdate' {t : TypeId} {mo ko vo : Operand} (ho : o.op = .mapUpdate t mo ko vo)
    (he : (match c.p.underlying t with
    | some (.map kt vt) => (match c.sh kt, c.sh vt, s.ev mo, s.ev ko with
      | some ks, some vs, .blk id (.mt k1 v1), .imm ks' kp => bif keyTy c.p kt && (ks.beq ks' && (ks.beq k1 && vs.beq v1)) then
        (let v := (s.ev vo).as (some vs)
         bif isSl vs && (v.fits vs && v.solid) then updTl s id ks vs kp v k else none) else none
      | some ks, some vs, .blk id (.mp k1 v1), .imm ks' kp => bif keyTy c.p kt && (ks.beq ks' && (ks.beq k1 && (vs.beq v1 && !memB id s.z))) then
        (match toImm s ((s.ev vo).as (some vs)) with
        | some (.imm v' vp, s') => bif v'.beq vs then
          (match getBox id s'.h with
          | some (.blk (.mp k2 v2) p) => bif ks.beq k2 && vs.beq v2 then k .u { s' with h := setBox id (.blk (.mp k2 v2) (.list false (updP ks kp vp p.xs))) s'.h } else none
          | _ => none) else none
        | _ => none) else none
      | _, _, _, _ => none)
    | _ => none) = some r) (h : R0 X S0 w0 c.n m s a.tmps w) (hK : HK X S0 w0 c.n a.tmps k r (fun v w' => K (a.put o.dst v) w')) : o.wp c.p a w K Q := by
  split at he
  case h_2 => cases he
  rename_i kt vt hu
  split at he
  · rename_i ks vs id k1 v1 ks' kp hks hvs hp hkp
    replace he := cond_some he
    obtain ⟨hc, he⟩ := he
    simp only [Bool.and_eq_true] at hc
    obtain ⟨hkt, c1, c2, c3⟩ := hc
    have e1 := Sh.beq_eq c1; subst e1
    simp only at he
    replace he := cond_some he
    obtain ⟨hc, he⟩ := he
    simp only [Bool.and_eq_true] at hc
    obtain ⟨d1, d2, d3⟩ := hc
    obtain ⟨kd, hud, hd⟩ := keyD hkt hks
    have hi := ev_rel h ko
    rw [hkp, rel_one] at hi
    exact updTl_ok ho hu hud hd hp hi d1 d2 d3 he h hK
  · rename_i ks vs id k1 v1 ks' kp hks hvs hp hkp
    refine op_mapUpdate ho ?_ h hK
    rw [hu]
    simp only [hks, hvs, hp, hkp]
    exact he
  · cases he
theorem op_makeMap' {t : TypeId} {rv : Option Operand} {d : Nat} (ho : o.op = .makeMap t rv)
    (he : (match (generalizing := false) rv with
    | some _ => none
    | none => match c.p.underlying t with
      | some (.map kt vt) => (match c.sh kt, c.sh vt with
        | some ks, some vs => bif c.tl d && isSl vs then (match s.add d (.blk (.mt ks vs) (.list false [])) with | some s' => k (.blk d (.mt ks vs)) s' | none => none) else
          (match s.add d (.blk (.mp ks vs) (.list false [])) with | some s' => k (.blk d (.mp ks vs)) s' | none => none)
        | _, _ => none)
      | _ => none) = some r) (h : R0 X S0 w0 c.n m s a.tmps w) (hK : HK X S0 w0 c.n a.tmps k r (fun v w' => K (a.put o.dst v) w')) : o.wp c.p a w K Q := by
  cases rv with
  | some _ => cases he
  | none =>
    simp only at he
    split at he
    · rename_i kt vt hu
      split at he
      · rename_i ks vs hks hvs
        cases htl : (c.tl d && isSl vs) with
        | false =>
          rw [htl, cond_false] at he
          exact op_makeMap (d := d) ho (by simp only [hu, hks, hvs]; exact he) h hK
        | true =>
          rw [htl, cond_true] at he
          rw [Bool.and_eq_true] at htl
          split at he
          · rename_i s' hs'
            obtain ⟨hid, rfl⟩ := add_some hs'
            obtain ⟨vt', rfl⟩ : ∃ t, vs = .slice t := by have := htl.2; cases vs <;> simp [isSl] at this; exact ⟨_, rfl⟩
            obtain ⟨g1, g2⟩ := add_blk (kk := .mt ks (.slice vt')) (p := .list false []) (ob := .map #[] 0) (q := {}) h hid (fun _ _ _ hh => hh) trivial (fun _ => ⟨[], #[], 0, rfl, heap_new, trivial, ⟨fun _ _ _ hh => hh.elim, fun _ _ _ _ _ hh => hh.elim⟩, vt', rfl, fun i en hi => by simp at hi⟩)
            refine wp_val (v := .map (some w.heap.size)) (w' := w.alloc (.map #[] 0)) ?_ (hK _ _ _ _ _ he g1 g2 (fun i hi => by simp [V.ids] at hi; subst hi; simp [getBox_cons]))
            simp [execOp, ho, Instr.makeMap, run_newObj]
          · cases he
      · cases he
    · cases he
/-- A new list of this kind: zeros (no slice has room for anything). -/
theorem zero_tp {e t : Sh} {pt : List Stp} {off : Nat} {cs : List Value} (h : e.tp = some (pt, off, t)) {w : World} {F : Cells} (hr : Rep w F e e.zero cs) : ∃ rest pre, cs = pre ++ .slice none 0 0 :: rest ∧ pre.length = off := by
  have sl : ∀ {t : Sh} {cs : List Value}, Rep w F (.slice t) (Sh.zero (.slice t)) cs → cs = [.slice none 0 0] := by
    rintro t cs ⟨a, xs, cap, e1, e2, e3, e4, _⟩
    injection e1 with e5 e6
    subst e6
    have : a = none := by cases a <;> simp at e5 ⊢
    subst this
    have := e4 rfl; subst this
    exact e2
  cases e with
  | slice t' =>
    simp [Sh.tp] at h; obtain ⟨_, rfl, _⟩ := h
    exact ⟨[], [], by rw [sl hr]; rfl, rfl⟩
  | pair x y =>
    cases x with
    | slice t' =>
      simp [Sh.tp] at h; obtain ⟨_, rfl, _⟩ := h
      obtain ⟨px, py, c1, c2, e1, rfl, h1, h2⟩ := hr
      injection e1 with e1 _; subst e1
      exact ⟨c2, [], by rw [sl h1]; rfl, rfl⟩
    | _ => simp [Sh.tp] at h
  | _ => simp [Sh.tp] at h
theorem add_at (h : R0 X S0 w0 c.n m s a.tmps w) {d n cap : Nat} {e t : Sh} {pt : List Stp} {off : Nat} {cs : Array Value} {te : TypeId} (hid : Free d s.h) (htp : e.tp = some (pt, off, t)) (hcap : n ≤ cap) (hcs : cs.size = cap * e.size)
    (hr : ∀ i, i < n → ∀ F, Rep w F e e.zero ((cs.toList.drop (i * e.size)).take e.size)) :
    R0 X S0 w0 c.n (updL m d (.blk w.heap.size { len := n, cap := cap, e := e })) { s with h := (d, .blk (.at e) (.list false (List.replicate n e.zero))) :: s.h } a.tmps (w.alloc (.cells cs te)) ∧
      Rel1 (updL m d (.blk w.heap.size { len := n, cap := cap, e := e })) (w.alloc (.cells cs te)) (Fb X (updL m d (.blk w.heap.size { len := n, cap := cap, e := e })) ((d, .blk (.at e) (.list false (List.replicate n e.zero))) :: s.h)) (.blk d (.at e)) (.slice (some (mkA w.heap.size 0)) n cap) := by
  have hst := alloc_sto (w := w) te cs.toList
  simp only [Array.toArray_toList] at hst
  refine add_blk (kk := .at e) (q := { len := n, cap := cap, e := e }) h hid (fun _ _ _ hh => hh) rfl (fun hk => ⟨List.replicate n e.zero, rfl, by simp, rfl, by simpa using hcap, ⟨fun i hi => ?_, fun j hj => ?_⟩, ⟨fun _ _ _ hh => hh.elim, fun _ _ _ _ _ hh => hh.elim⟩, pt, off, t, htp, fun i hi _ => ?_⟩)
  · rw [List.length_replicate] at hi
    refine ⟨_, by rw [rd_replicate hi]; exact (hr i hi (Fb X m s.h)).mono hk, fun j y hy => ?_⟩
    obtain ⟨_, hy⟩ := chunk_get (n := cap) (by simpa using hcs) (by omega) hy
    have := hst _ _ hy
    rw [← Nat.add_assoc] at this
    exact this
  · have hj' : j < cs.toList.length := by have hj : j < cap * e.size := hj; simp; omega
    exact ⟨_, hst j _ (List.getElem?_eq_getElem hj')⟩
  · rw [List.length_replicate] at hi
    obtain ⟨rest, pre, e1, e2⟩ := zero_tp htp (hr i hi (Fb X m s.h))
    refine ⟨.slice none 0 0, ?_, none, 0, 0, rfl, fun hlt => by omega⟩
    have hg : ((cs.toList.drop (i * e.size)).take e.size)[off]? = some (.slice none 0 0) := by rw [e1, List.getElem?_append_right (by omega), e2]; simp
    obtain ⟨_, hy⟩ := chunk_get (n := cap) (by simpa using hcs) (by omega) hg
    have := (hst _ _ hy).1
    rw [Nat.zero_add] at this
    exact this
theorem op_makeSlice' {t : TypeId} {l mm : Operand} {d : Nat} (ho : o.op = .makeSlice t l mm)
    (he : (match s.ev l, s.ev mm, c.sh t, bytesOf c t with
    | .imm (.int .i64) p, .imm (.int .i64) q, some (.slice e), some b =>
      bif decide (0 ≤ p.toInt ∧ p.toInt ≤ q.toInt ∧ q.toInt * b ≤ 140737488355328 ∧ q.toInt ≤ 140737488355328) then
        (bif c.tl d then (match e.tp, s.add d (.blk (.at e) (.list false (List.replicate p.toInt.toNat e.zero))) with | some _, some s' => k (.blk d (.at e)) s' | _, _ => none) else
        match s.add d (.arr e false (List.replicate p.toInt.toNat e.zero)) with | some s' => k (.slf d e) s' | none => none) else none
    | _, _, _, _ => none) = some r) (h : R0 X S0 w0 c.n m s a.tmps w)
    (hK : HK X S0 w0 c.n a.tmps k r (fun v w' => K (a.put o.dst v) w')) : o.wp c.p a w K Q := by
  cases htl : c.tl d with
  | false =>
    rw [htl] at he
    exact op_makeSlice (d := d) ho he h hK
  | true =>
    rw [htl] at he
    have hl := ev_rel h l
    have hm := ev_rel h mm
    split at he
    · rename_i p q e b hp hq hsh hby
      replace he := cond_some he
      obtain ⟨hc, he⟩ := he
      have hc := of_decide_eq_true hc
      obtain ⟨c1, c2, c3, c4⟩ := hc
      rw [cond_true] at he
      split at he
      · rename_i tp s' htp hs'
        obtain ⟨hid, rfl⟩ := add_some hs'
        rw [hp] at hl; rw [hq] at hm
        obtain ⟨_, hl⟩ := rel_int.1 hl
        obtain ⟨_, hm⟩ := rel_int.1 hm
        obtain ⟨te, n', hu, hte⟩ := shOf_slice hsh
        obtain ⟨i, z, i1, i2, i3, i4, i5, i6⟩ := bytes_ty hu hby hte
        have hzl : z.cells.size = e.size := by have := (i6 w (fun _ _ => False)).len; simpa using this
        obtain ⟨pt, off, t0⟩ := tp
        obtain ⟨g1, g2⟩ := add_at (n := p.toInt.toNat) (cap := q.toInt.toNat) (te := te) (cs := (Array.range (q.toInt.toNat * e.size)).map (fun i => z.cells[i % z.cells.size]!)) h hid htp (by omega) (by simp)
          (fun i hi F => by
            have hz := range_zeros (z := z.cells) (n := q.toInt.toNat)
            rw [hzl] at hz
            have := zeros_take (z := z.cells.toList) (n := q.toInt.toNat) (by rw [hz.1]) hz.2 i (by omega)
            simp only [Array.length_toList, hzl] at this
            rw [hzl]
            rw [this]
            exact i6 _ _)
        have hrun := run_makeSlice (w := w) hu i1 i4 (by rw [i3, hzl]) c1 c2 (by rw [i2]; exact c3) c4
        rw [i3] at hrun
        refine wp_val (v := .slice (some ⟨w.heap.size, 0, none⟩) p.toInt.toNat q.toInt.toNat) ?_ (hK _ _ _ _ _ he g1 g2 (fun i hi => by simp [V.ids] at hi; subst hi; simp [getBox_cons]))
        simp [execOp, ho, hl, hm, hrun]
      · cases he
    · cases he
end
end Go.Eng
end
/-! The builtin clear, of lists of the frame's own. Conditions: none. -/
section
set_option linter.unusedVariables false
set_option linter.unusedSimpArgs false
namespace Go.Eng
open Go.RowKit
theorem clr_len {lo n : Nat} {z : P} {xs : List P} (h : lo + n ≤ xs.length) : (clr lo n z xs).length = xs.length := by
  simp only [clr, List.length_append, List.length_take, List.length_replicate, List.length_drop]; omega
theorem rd_clr {lo n i : Nat} {z : P} {xs : List P} (h : lo + n ≤ xs.length) : rd (clr lo n z xs) i = if lo ≤ i ∧ i < lo + n then z else rd xs i := by
  have hl : (xs.take lo).length = lo := by rw [List.length_take]; omega
  simp only [rd, List.getD_eq_getElem?_getD, clr]
  rcases Nat.lt_or_ge i lo with q | q
  · rw [if_neg (by omega), List.getElem?_append_left (by omega), List.getElem?_take_of_lt q]
  · rw [List.getElem?_append_right (by omega), hl]
    rcases Nat.lt_or_ge i (lo + n) with q2 | q2
    · rw [if_pos ⟨q, q2⟩, List.getElem?_append_left (by simp; omega), List.getElem?_replicate, if_pos (by omega)]; rfl
    · rw [if_neg (by omega), List.getElem?_append_right (by simp; omega), List.getElem?_drop, List.length_replicate, show lo + n + (i - lo - n) = i from by omega]
section
variable {R : Type} {X : Cells} {S0 : Base} {w0 : World} {c : Cx} {m : Lm} {s : St} {a : Act} {w : World} {N : Nat} {tm : Array Value}
variable {o : Oper} {k : V → St → Option R} {r : R} {K : Act → World → Prop} {Q : Exit → Act → World → Prop}
theorem R0.clr (h : R0 X S0 w0 N m s tm w) {id b o' cap lo n : Nat} {e : Sh} {nl : Bool} {xs : List P} {Z : List Value} (hb : getBox id s.h = some (.arr e nl xs)) (hm : m id = .arr (some (b, o')) xs.length cap e) (hzi : memB id s.z = false) (hlo : lo + n ≤ xs.length)
    (hZ : Z.length = n * e.size) (hz : ∀ i, i < n → ∀ F, Rep w F e e.zero ((Z.drop (i * e.size)).take e.size)) :
    (∀ j, j < Z.length → ∃ u, w.cell? (mkA b (o' + lo * e.size + j)) = some u ∧ w.frozen? (mkA b (o' + lo * e.size + j)) = false) ∧
      R0 X S0 w0 N m { s with h := Eng.setBox id (.arr e nl (clr lo n e.zero xs)) s.h } tm (w.setCells b (o' + lo * e.size) Z) := by
  obtain ⟨a1, c1, g1, g2, g3, g4, g5⟩ := h.box id _ hb
  rw [hm] at g1; injection g1 with q1 q2 q3; subst q1; subst q3
  obtain ⟨r1, r2⟩ := g5 b o' rfl
  have hle1 : (lo + n) * e.size ≤ cap * e.size := Nat.mul_le_mul_right _ (by omega)
  rw [Nat.add_mul] at hle1
  have hcells : ∀ j, j < Z.length → ∃ u, w.cell? (mkA b (o' + lo * e.size + j)) = some u ∧ w.frozen? (mkA b (o' + lo * e.size + j)) = false := by
    intro j hj
    obtain ⟨u, z1, z2⟩ := r2 (lo * e.size + j) (by omega)
    rw [← Nat.add_assoc] at z1 z2
    exact ⟨u, z1, z2⟩
  refine ⟨hcells, ?_⟩
  have hfr := setCells_fr (K0 := S0.dk) (w := w) (b := b) (o := o' + lo * e.size) (vs := Z) (fun j hj => by obtain ⟨u, hu, _⟩ := hcells j hj; exact Option.isSome_iff_exists.2 ⟨u, hu⟩)
  have hsto := setCells_sto hcells
  refine h.setBox hb hzi (hfr.mono fun b' i _ hh => by rw [hm]; obtain ⟨rfl, q1, q2⟩ := hh; exact ⟨rfl, by omega, by omega⟩) (fun i hi => by cases hi) (fun hk => ?_)
  refine ⟨some (b, o'), cap, by rw [hm, clr_len hlo], g2, by rw [clr_len hlo]; exact g3, (fun e => by cases e), fun b' o2 hbo => ?_⟩
  injection hbo with hbo; injection hbo with e1 e2; subst e1; subst e2
  refine ⟨fun i hi => ?_, fun j hj => ?_⟩
  · rw [clr_len hlo] at hi
    rw [rd_clr hlo]
    have hss : (i + 1) * e.size = i * e.size + e.size := Nat.succ_mul _ _
    by_cases hin : lo ≤ i ∧ i < lo + n
    · rw [if_pos hin]
      refine ⟨_, (hz (i - lo) (by omega) (Fb X m s.h)).mono hk, fun j y hy => ?_⟩
      obtain ⟨hj, hy⟩ := chunk_get hZ (by omega) hy
      have := hsto _ _ hy
      have e3 : o' + lo * e.size + ((i - lo) * e.size + j) = o' + i * e.size + j := by
        have : i * e.size = lo * e.size + (i - lo) * e.size := by rw [← Nat.add_mul]; congr 1; omega
        omega
      rw [e3] at this
      exact this
    · rw [if_neg hin]
      obtain ⟨c2, p1, p2⟩ := r1 i hi
      refine ⟨c2, p1.mono hk, fun j y hy => ?_⟩
      obtain ⟨z1, z2⟩ := p2 j y hy
      have hlt := cell_lt z1
      have hj : j < e.size := by
        have := p1.len
        rcases Nat.lt_or_ge j c2.length with q | q
        · omega
        · rw [List.getElem?_eq_none q] at hy; cases hy
      refine ⟨(hfr.cell b _ hlt ?_).trans z1, (hfr.frozen b _ hlt).trans z2⟩
      rintro ⟨_, t1, t2⟩
      rcases Nat.lt_or_ge i lo with q | q
      · have : (i + 1) * e.size ≤ lo * e.size := Nat.mul_le_mul_right _ (by omega)
        omega
      · have : (lo + n) * e.size ≤ i * e.size := Nat.mul_le_mul_right _ (by omega)
        rw [Nat.add_mul] at this
        omega
  · obtain ⟨u, z1, z2⟩ := r2 j hj
    have hlt := cell_lt z1
    have := hfr.there b (o' + j) hlt
    rw [z1] at this
    obtain ⟨u', hu'⟩ := Option.isSome_iff_exists.1 (by simpa using this)
    exact ⟨u', hu', (hfr.frozen b _ hlt).trans z2⟩
theorem op_clear {cl : Call} {x : Operand} {t : TypeId} {ts : List TypeId} (ho : o.op = .call cl) (h1 : cl.callee = .builtin .clear) (h2 : cl.args.toList = [x]) (h3 : cl.argTypes.toList = t :: ts)
    (he : evClear c s t (s.ev x) k = some r) (h : R0 X S0 w0 c.n m s a.tmps w) (hK : HK X S0 w0 c.n a.tmps k r (fun v w' => K (a.put o.dst v) w')) : o.wp c.p a w K Q := by
  have ha : cl.args = #[x] := by apply Array.ext'; simpa using h2
  have ht : cl.argTypes[0]? = some t := by rw [← Array.getElem?_toList, h3]; rfl
  have hx := ev_rel h x
  have fin : ∀ (w' : World), (Builtin.clear_ cl.argTypes o.type #[a.eval x]).run c.p w = .ok (.tuple #[]) w' → (execOp a.eval o).run c.p w = .ok (.value (.tuple #[])) w' := by
    intro w' hr
    simp [execOp, ho, resolve, h1, ha, invoke, builtin, hr]
  have main : ∀ (id : Nat) (e : Sh) (nl : Bool) (xs : List P) (lo n cap cap' : Nat) (A A' : Option (Nat × Nat)), getBox id s.h = some (.arr e nl xs) → m id = .arr A xs.length cap e → c.sh t = some (.slice e) → memB id s.z = false → lo + n ≤ xs.length →
      a.eval x = .slice (adr A') n cap' → (0 < n → A' = A.map fun z => (z.1, z.2 + lo * e.size)) → (A = none → n = 0) → k (.tup V.unit) { s with h := setBox id (.arr e nl (clr lo n e.zero xs)) s.h } = some r → o.wp c.p a w K Q := by
    intro id e nl xs lo n cap cap' A A' hb hm hsh hzi hlo hv hA hAn he
    obtain ⟨te, n', hu, hte⟩ := shOf_slice hsh
    by_cases hn : n = 0
    · subst hn
      have hcl : clr lo 0 e.zero xs = xs := by simp [clr]
      rw [hcl] at he
      have hset : R0 X S0 w0 c.n m { s with h := setBox id (.arr e nl xs) s.h } a.tmps w := h.setBox hb hzi (Fr.refl _ _ _) (fun i hi => by cases hi) (fun _ => h.box id _ hb)
      refine wp_val (v := .tuple #[]) (w' := w) (fin _ ?_) (hK _ _ m _ w he hset ⟨#[], rfl, trivial⟩ (fun i hi => by simp [V.ids, V.unit] at hi))
      rw [hv]
      cases A' <;> simp [Builtin.clear_, ht, run_underlying hu, adr]
    · cases A with
      | none => exact absurd (hAn rfl) hn
      | some z0 =>
        obtain ⟨b, o'⟩ := z0
        have hA := hA (by omega)
        simp only [Option.map_some] at hA
        subst hA
        have hty := shOf_is hte
        obtain ⟨z, hz1, hz2, hz3⟩ := run_zero hty w
        have hzl : z.cells.size = e.size := by have := (hz3 w (fun _ _ => False)).len; simpa using this
        have hz := range_zeros (z := z.cells) (n := n)
        rw [hzl] at hz
        obtain ⟨hcells, hR⟩ := h.clr (Z := (Builtin.zeroCells z.cells n).toList) hb hm hzi hlo (by simp [Builtin.zeroCells, hzl]) (fun i hi F => by
          have := zeros_take (z := z.cells.toList) (n := n) (cs := (Builtin.zeroCells z.cells n).toList) (by simp [Builtin.zeroCells]) (by
            intro j hj
            have := hz.2 j (by simpa [hzl] using hj)
            simp only [Builtin.zeroCells, hzl] at this ⊢
            exact this) i hi
          simp only [Array.length_toList, hzl] at this
          rw [this]; exact hz3 _ _)
        have hone : ∀ v ∈ (Builtin.zeroCells z.cells n).toList, one v := by
          intro v hv
          simp only [Builtin.zeroCells, Array.toList_map, List.mem_map] at hv
          obtain ⟨i, hi, rfl⟩ := hv
          have hsz : 0 < z.cells.size := by
            rcases Nat.eq_zero_or_pos z.cells.size with q | q
            · rw [q] at hi; simp at hi
            · exact q
          have hm' : i % z.cells.size < z.cells.size := Nat.mod_lt _ hsz
          rw [getElem!_pos z.cells _ hm']
          exact Rep.one _ _ _ (hz3 w (fun _ _ => False)) _ (by simp)
        have hst := run_storeCells_cells (P := c.p) b (o' + lo * e.size) (Builtin.zeroCells z.cells n).toList 0 w (fun j hj => by obtain ⟨u1, q1, _⟩ := hcells j hj; rw [Nat.add_zero]; exact Option.isSome_iff_exists.2 ⟨u1, q1⟩) (fun j hj => by obtain ⟨u1, _, q1⟩ := hcells j hj; rw [Nat.add_zero]; exact q1) hone
        rw [Nat.add_zero] at hst
        refine wp_val (v := .tuple #[]) (fin _ ?_) (hK _ _ m _ _ he hR ⟨#[], rfl, trivial⟩ (fun i hi => by simp [V.ids, V.unit] at hi))
        rw [hv]
        obtain ⟨n1, rfl⟩ : ∃ n1, n = n1 + 1 := ⟨n - 1, by omega⟩
        simp [Builtin.clear_, ht, run_underlying hu, adr, hz1]
        rw [show (storeCells (mkA b (o' + lo * e.size)) (Builtin.zeroCells z.cells (n1 + 1)).toList).run c.p w = _ from hst]
        rfl
  unfold evClear at he
  split at he
  · rename_i id e hp
    split at he
    · rename_i e' nl xs hb
      replace he := cond_some he
      obtain ⟨hc, he⟩ := he
      simp only [Bool.and_eq_true] at hc
      rw [hp] at hx
      obtain ⟨A, len, cap, hm, hv⟩ := rel_slf.1 hx
      obtain ⟨A1, cap1, g1, g2, g3, g4, g5⟩ := h.box _ _ hb
      rw [hm] at g1; injection g1 with q1 q2 q3 q4; subst q1; subst q2; subst q3; subst q4
      exact main id e nl xs 0 xs.length cap cap A A hb hm (oIs_eq hc.1) (by simpa using hc.2) (by omega) hv (fun _ => by cases A <;> simp) (fun e => by have := g4 e; omega) he
    · cases he
  · rename_i id e lo n hp
    split at he
    · rename_i e' nl xs hb
      replace he := cond_some he
      obtain ⟨hc, he⟩ := he
      simp only [Bool.and_eq_true] at hc
      rw [hp] at hx
      obtain ⟨A, len, cap, A', cap', hm, h5, h6, h7, hv, h8, h9⟩ := (rel_sc (by simp) (by simp) rfl).1 hx
      injection hv with hv
      obtain ⟨A1, cap1, g1, g2, g3, g4, g5⟩ := h.box _ _ hb
      rw [hm] at g1; injection g1 with q1 q2 q3 q4; subst q1; subst q2; subst q3; subst q4
      exact main id e nl xs lo n cap cap' A A' hb hm (oIs_eq hc.1) (by simpa using hc.2) h5 hv (fun hn => h9 (by omega)) (fun e => by have := g4 e; omega) he
    · cases he
  · cases he
end
end Go.Eng
end
/-! Every operation: the model carries out what the interpreter tells. Conditions: none. -/
section
set_option linter.unusedVariables false
set_option linter.unusedSimpArgs false
namespace Go.Eng
open Go.RowKit
section
variable {R : Type} {X : Cells} {S0 : Base} {w0 : World} {c : Cx} {m : Lm} {s : St} {a : Act} {w : World} {o : Oper} {r : R} {k : V → St → Option R} {K : Act → World → Prop} {Q : Exit → Act → World → Prop}
theorem evalOp_rd (hr : opRd o.op = true) (he : evalOp c s o k = some r) (h : R0 X S0 w0 c.n m s a.tmps w) (hK : HK X S0 w0 c.n a.tmps k r (fun v w' => K (a.put o.dst v) w')) : WpR c.p a w o K := by
  unfold evalOp at he
  simp only at he
  cases ho : o.op <;> rw [ho] at he hr <;> (try simp only at he) <;> (try (cases hr; done))
  case move x => exact op_move (.inl ho) he h hK
  case assign x => exact op_move (.inr ho) he h hK
  case pick x y z => exact op_pick ho he h hK
  case build t parts => exact op_build ho he h hK
  case load t x => exact op_load ho he h hK
  case nilCheck x => exact op_nilCheck ho he h hK
  case binOp op t x y t' => exact op_bin ho he h hK
  case unOp op t x => exact op_un he ho h hK
  case convert src dst x => exact op_convert ho he h hK
  case makeFunc f first caps =>
    cases f <;> simp only at he <;> first | exact op_makeFunc ho he h hK | cases he
  case slice t x lo hi mx => exact op_slice ho he h hK
  case fieldAddr t x j => exact op_fieldAddr ho he h hK
  case field t x j => exact op_field ho he h hK
  case indexAddr t x y => exact op_indexAddr ho he h hK
  case index t x y => exact op_index ho he h hK
  case extract x j => exact op_extract ho he h hK
  case lookup t x i ok => exact op_lookup ho he h hK
  case call cl =>
    simp only [opRd] at hr
    split at he
    · rename_i h1
      split at he
      · rename_i x t ts h2 h3
        exact op_len ho h1 h2 h3 he h hK
      · cases he
    · rename_i h1
      rw [h1] at hr; cases hr
    · rename_i h1
      rw [h1] at hr; cases hr
    · rename_i h1
      exact op_minmax (mx := true) ho (by simpa using h1) he h hK
    · rename_i h1
      exact op_minmax (mx := false) ho (by simpa using h1) he h hK
    · rename_i f h1
      rw [h1] at hr; cases hr
    · cases he
theorem evalOp_ok (hG : Good S0.dk c.p c.E) (he : evalOp c s o k = some r) (h : R0 X S0 w0 c.n m s a.tmps w) (hK : HK X S0 w0 c.n a.tmps k r (fun v w' => K (a.put o.dst v) w')) : o.wp c.p a w K Q := by
  unfold evalOp at he
  simp only at he
  cases ho : o.op <;> rw [ho] at he <;> (try simp only at he)
  case move x => exact (op_move (.inl ho) he h hK).wp
  case assign x => exact (op_move (.inr ho) he h hK).wp
  case pick x y z => exact (op_pick ho he h hK).wp
  case alloc t => exact op_alloc ho he h hK
  case box t x => exact op_box ho he h hK
  case build t parts => exact (op_build ho he h hK).wp
  case buildSlice t n parts => exact op_buildSlice ho he h hK
  case load t x => exact (op_load ho he h hK).wp
  case store t x y => exact op_store' ho he h hK
  case nilCheck x => exact (op_nilCheck ho he h hK).wp
  case binOp op t x y t' => exact (op_bin ho he h hK).wp
  case unOp op t x => exact (op_un he ho h hK).wp
  case convert src dst x => exact (op_convert ho he h hK).wp
  case makeFunc f first caps =>
    cases f <;> simp only at he <;> first | exact (op_makeFunc ho he h hK).wp | cases he
  case makeSlice t l mm => exact op_makeSlice' ho he h hK
  case slice t x lo hi mx => exact (op_slice ho he h hK).wp
  case fieldAddr t x j => exact (op_fieldAddr ho he h hK).wp
  case field t x j => exact (op_field ho he h hK).wp
  case indexAddr t x y => exact (op_indexAddr ho he h hK).wp
  case index t x y => exact (op_index ho he h hK).wp
  case extract x j => exact (op_extract ho he h hK).wp
  case lookup t x i ok => exact (op_lookup ho he h hK).wp
  case makeMap t rv => exact op_makeMap' ho he h hK
  case mapUpdate t mo ko vo => exact op_mapUpdate' ho he h hK
  case range t x => exact op_range ho he h hK
  case next x isS => exact op_next ho he h hK
  case call cl =>
    split at he
    · rename_i h1
      split at he
      · rename_i x t ts h2 h3
        exact (op_len ho h1 h2 h3 he h hK).wp
      · cases he
    · rename_i h1
      split at he
      · rename_i x y t t' ts h2 h3
        split at he
        · rename_i e hu
          exact op_append' ho h1 h2 h3 hu (.inl ⟨_, rfl⟩) he h hK
        · rename_i hu
          exact op_append' ho h1 h2 h3 hu (.inr rfl) he h hK
        · cases he
      · cases he
    · rename_i h1
      split at he
      · rename_i x t ts h2 h3
        exact op_clear ho h1 h2 h3 he h hK
      · cases he
    · rename_i h1
      exact (op_minmax (mx := true) ho (by simpa using h1) he h hK).wp
    · rename_i h1
      exact (op_minmax (mx := false) ho (by simpa using h1) he h hK).wp
    · rename_i f h1
      split at he
      · rename_i g caps h2
        split at he
        · rename_i l h3
          exact op_call ho h1 h2 h3 hG he h hK
        · cases he
      · cases he
    · cases he
  all_goals cases he
end
end Go.Eng
end
/-! Regions: the model carries out what the interpreter tells. Conditions: none. -/
section
set_option linter.unusedVariables false
set_option linter.unusedSimpArgs false
namespace Go.Eng
open Go.RowKit
section
variable {R : Type} {X : Cells} {S0 : Base} {w0 : World} {N : Nat} {c : Cx} {m : Lm} {s : St} {tm : Array Value} {w : World}
theorem St.put_z (s : St) (d : Option Nat) (v : V) : (s.put d v).z = s.z := by cases d <;> rfl
theorem St.put_h (s : St) (d : Option Nat) (v : V) : (s.put d v).h = s.h := by cases d <;> rfl
/-- A temporary is set. -/
theorem R0.put (h : R0 X S0 w0 N m s tm w) {d : Nat} {v : V} {x : Value} (hd : d < N) (hr : Rel1 m w (Fb X m s.h) v x) (hi : ∀ id ∈ v.ids, getBox id s.h ≠ none) :
    R0 X S0 w0 N m (s.put (some d) v) (tm.setIfInBounds d x) w := by
  have hd' : d < 1024 := Nat.lt_of_lt_of_le hd h.hN
  have hh : (s.put (some d) v).h = s.h := rfl
  refine ⟨by simp [h.size], h.hN, h.nd, fun i => ?_, fun i => ?_, h.wfh, h.box, h.disj, h.notX, by rw [St.put_z]; exact h.hz, h.zk, h.allow, h.fr, h.xold, h.nm, h.tab⟩
  · rw [St.tmp_put s d i v hd', hh]
    by_cases e : i = d
    · subst e
      rw [if_pos rfl]
      have : (tm.setIfInBounds i x).getD i undef = x := by
        simp [Array.getD, h.size, hd]
      rw [this]; exact hr
    · rw [if_neg e]
      have : (tm.setIfInBounds d x).getD i undef = tm.getD i undef := by
        simp only [Array.getD_eq_getD_getElem?]
        rw [Array.getElem?_setIfInBounds_ne (Ne.symm e)]
      rw [this]; exact h.tmps i
  · rw [St.tmp_put s d i v hd', hh]
    by_cases e : i = d
    · rw [if_pos e]; exact hi
    · rw [if_neg e]; exact h.wft i
theorem put_eq (a : Act) (d : Option Nat) (x : Value) : a.put d x = { a with tmps := (a.put d x).tmps } := by cases d <;> rfl
theorem R0.puts {a : Act} (h : R0 X S0 w0 c.n m s a.tmps w) {o : Oper} {v : V} {x : Value} (hd : dstOk c o = true) (hr : Rel1 m w (Fb X m s.h) v x) (hi : ∀ id ∈ v.ids, getBox id s.h ≠ none) :
    R0 X S0 w0 c.n m (s.put o.dst v) (a.put o.dst x).tmps w := by
  unfold dstOk at hd
  cases ho : o.dst with
  | none => exact h
  | some d =>
    rw [ho] at hd
    exact h.put (by simpa [Nat.blt_eq] using hd) hr hi
theorem rel_undef {F : Cells} : Rel1 m w F (.tup V.unit) undef := ⟨#[], rfl, trivial⟩
theorem rel_u {F : Cells} {x : Value} : Rel1 m w F .u x := (rel1_def (by simp)).2 trivial
/-- One operation, strictly. -/
def stp (P : Program) (ops : Array Oper) (Q : Exit → Act → World → Prop) (o : Oper) (K : Act → World → Prop) (a : Act) (w : World) : Prop :=
  if Region.wanted o (yielded ops a.tmps) = true then (if opRd o.op = true then WpR P a w o K else o.wp P a w K Q) else K (a.put o.dst undef) w
def sList (P : Program) (ops : Array Oper) (Q : Exit → Act → World → Prop) : List Oper → Act → World → Prop
  | [], a, w => Q .normal a w
  | o :: r, a, w => stp P ops Q o (sList P ops Q r) a w
theorem execOps_s (hG : Good S0.dk c.p c.E) {ops : Array Oper} {Q : Exit → Act → World → Prop} {k : St → Option R} {r : R} : ∀ (l : List Oper) {m : Lm} {s : St} {a : Act} {w : World}, execOps c ops l s k = some r → R0 X S0 w0 c.n m s a.tmps w →
    (∀ m' s' tm' w', k s' = some r → R0 X S0 w0 c.n m' s' tm' w' → Q .normal { a with tmps := tm' } w') → sList c.p ops Q l a w
  | [], m, s, a, w, he, h, hQ => hQ m s a.tmps w he h
  | o :: rest, m, s, a, w, he, h, hQ => by
    unfold sList stp
    simp only [execOps] at he
    -- the operation is carried out
    have go : ∀ (s1 : St), R0 X S0 w0 c.n m s1 a.tmps w → dstOk c o = true → evalOp c s1 o (fun v s' => execOps c ops rest (s'.put o.dst v) k) = some r → (if opRd o.op = true then WpR c.p a w o (sList c.p ops Q rest) else o.wp c.p a w (sList c.p ops Q rest) Q) := by
      intro s1 h1 hd he1
      have key : HK X S0 w0 c.n a.tmps (fun v s' => execOps c ops rest (s'.put o.dst v) k) r (fun v w' => sList c.p ops Q rest (a.put o.dst v) w') := by
       intro V s' m' v w' hk hR hr hi
       refine execOps_s hG rest hk (hR.puts hd hr hi) fun m2 s2 tm2 w2 hk2 hR2 => ?_
       have := hQ m2 s2 tm2 w2 hk2 hR2
       rw [put_eq]; exact this
      split
      · rename_i hr; exact evalOp_rd hr he1 h1 key
      · exact evalOp_ok hG he1 h1 key
    split at he
    · rename_i hg
      replace he := cond_some he
      rw [if_pos (by simp [Region.wanted, hg])]
      exact go s h he.1 he.2
    · rename_i j want hg
      split at he
      · cases he
      · rename_i g hgo
        split at he
        case h_3 => cases he
        case h_2 =>
          rename_i y hp
          replace he := cond_some he
          obtain ⟨hc, he⟩ := he
          rw [Bool.and_eq_true] at hc
          obtain ⟨hd, hgn⟩ := hc
          have hgn : g < c.n := by simpa [Nat.blt_eq] using hgn
          have hgr := h.tmps g
          rw [hp] at hgr
          obtain ⟨vs, hgr, _⟩ := hgr
          have hy : yielded ops a.tmps j = none := by
            unfold guardOf at hgo
            unfold yielded
            have hgt : (a.tmps[g]? : Option Value) = some (.tuple vs) := by
              rw [Array.getD_eq_getD_getElem?] at hgr
              have hlt : g < a.tmps.size := by rw [h.size]; exact hgn
              rw [Array.getElem?_eq_getElem hlt] at hgr ⊢
              simpa using hgr
            cases ho : ops[j]? with
            | none => rw [ho] at hgo; cases hgo
            | some oj =>
              rw [ho] at hgo
              simp only at hgo
              simp [ho, hgo, hgt]
          rw [if_neg (by simp [Region.wanted, hg, hy])]
          refine execOps_s hG rest he (h.puts hd rel_undef (by simp [V.ids, V.unit])) fun m2 s2 tm2 w2 hk2 hR2 => ?_
          have := hQ m2 s2 tm2 w2 hk2 hR2
          rw [put_eq]; exact this
        rename_i p hp
        replace he := cond_some he
        obtain ⟨hc, he⟩ := he
        rw [Bool.and_eq_true] at hc
        obtain ⟨hd, hgn⟩ := hc
        have hgn : g < c.n := by simpa [Nat.blt_eq] using hgn
        have hgr := h.tmps g
        rw [hp, rel_bool] at hgr
        have hy : yielded ops a.tmps j = some p.toBool := by
          unfold guardOf at hgo
          unfold yielded
          have hsz := h.size
          have hgt : (a.tmps[g]? : Option Value) = some (.bool p.toBool) := by
            have := hgr.2
            rw [Array.getD_eq_getD_getElem?] at this
            have hlt : g < a.tmps.size := by omega
            rw [Array.getElem?_eq_getElem hlt] at this ⊢
            simpa using this
          cases ho : ops[j]? with
          | none => rw [ho] at hgo; cases hgo
          | some oj =>
            rw [ho] at hgo
            simp only at hgo
            simp [ho, hgo, hgt]
        have h1 : ∀ b, p.toBool = b → R0 X S0 w0 c.n m (s.put (some g) (.imm .bool (.bool b))) a.tmps w := by
          intro b hb
          have hx : a.tmps.setIfInBounds g (.bool b) = a.tmps := by
            have := hgr.2
            rw [hb] at this
            have hlt : g < a.tmps.size := by rw [h.size]; exact hgn
            apply Array.ext (by simp)
            intro i h1 h2
            by_cases e : g = i
            · subst e
              simp only [Array.getElem_setIfInBounds_self]
              rw [Array.getD_eq_getD_getElem?, Array.getElem?_eq_getElem hlt] at this
              simpa using this.symm
            · rw [Array.getElem_setIfInBounds_ne (by simpa using h2) e]
          have := h.put (d := g) (v := .imm .bool (.bool b)) (x := .bool b) hgn (mk_bool b) (by simp [V.ids])
          rw [hx] at this; exact this
        have fin : ∀ b, p.toBool = b → (b = want → evalOp c (s.put (some g) (.imm .bool (.bool b))) o (fun v s' => execOps c ops rest (s'.put o.dst v) k) = some r) →
            (b ≠ want → execOps c ops rest ((s.put (some g) (.imm .bool (.bool b))).put o.dst (.tup V.unit)) k = some r) →
            (if Region.wanted o (yielded ops a.tmps) = true then (if opRd o.op = true then WpR c.p a w o (sList c.p ops Q rest) else o.wp c.p a w (sList c.p ops Q rest) Q) else sList c.p ops Q rest (a.put o.dst undef) w) := by
          intro b hb hm1 hm2
          have hw : Region.wanted o (yielded ops a.tmps) = (b == want) := by
            simp only [Region.wanted, hg, hy, hb]
            cases b <;> cases want <;> rfl
          have skip : execOps c ops rest ((s.put (some g) (.imm .bool (.bool b))).put o.dst (.tup V.unit)) k = some r → sList c.p ops Q rest (a.put o.dst undef) w := by
            intro hm
            refine execOps_s hG rest hm ((h1 b hb).puts hd rel_undef (by simp [V.ids, V.unit])) fun m2 s2 tm2 w2 hk2 hR2 => ?_
            have := hQ m2 s2 tm2 w2 hk2 hR2
            rw [put_eq]; exact this
          rw [hw]
          by_cases e : b = want
          · rw [if_pos (by simp [e])]; exact go _ (h1 _ hb) hd (hm1 e)
          · rw [if_neg (by simp [e])]; exact skip (hm2 e)
        cases hb : p.toBool <;> rw [hb] at he <;> refine fin _ hb ?_ ?_ <;> intro e <;> cases want <;> first | exact he | (exact absurd rfl e) | cases e
theorem sList_wp {P : Program} {ops : Array Oper} {Q : Exit → Act → World → Prop} : ∀ (l : List Oper) {a : Act} {w : World}, sList P ops Q l a w → wpList P ops Q l a w
  | [], a, w, h => h
  | o :: r, a, w, h => by
    unfold sList stp at h
    unfold wpList
    split
    · rename_i hw
      rw [if_pos hw] at h
      refine .inl ?_
      split at h
      · obtain ⟨v, g1, g2⟩ := h
        unfold Oper.wp; rw [g1]; exact sList_wp r g2
      · exact Oper.wp_mono (fun a w h => sList_wp r h) h
    · rename_i hw; rw [if_neg hw] at h; exact sList_wp r h
theorem execOps_ok (hG : Good S0.dk c.p c.E) {ops : Array Oper} {Q : Exit → Act → World → Prop} {k : St → Option R} {r : R} (l : List Oper) {m : Lm} {s : St} {a : Act} {w : World} (he : execOps c ops l s k = some r) (h : R0 X S0 w0 c.n m s a.tmps w)
    (hQ : ∀ m' s' tm' w', k s' = some r → R0 X S0 w0 c.n m' s' tm' w' → Q .normal { a with tmps := tm' } w') : wpList c.p ops Q l a w := sList_wp l (execOps_s hG l he h hQ)
end
end Go.Eng
end
