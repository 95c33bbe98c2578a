/- Sets of places as lists of spans: plain facts. Conditions: none. -/

set_option linter.unusedVariables false
set_option linter.unusedSimpArgs false
namespace Go.Proofs.Ytihenfpnilliiaa.Sp
structure S123 where
  f0 : Int
  f1 : Int
def z123 : S123 := ⟨(0 : Int), (0 : Int)⟩
def rd_T123 (xs : List S123) (i : Int) : S123 := xs.getD i.toNat z123
/-! Sets of places as lists of spans: plain facts. Nothing of Go here but the printed struct of a span. -/
def mem (l : List S123) (p : Int) : Bool := l.any fun s => decide (s.f0 ≤ p) && decide (p < s.f1)
def Chk : Int → List S123 → Prop
  | _, [] => True
  | e, s :: t => e < s.f0 ∧ s.f0 < s.f1 ∧ s.f1 ≤ 1000000000 ∧ Chk s.f1 t
theorem mem_nil (p : Int) : mem [] p = false := rfl
theorem mem_cons (s : S123) (t : List S123) (p : Int) : mem (s :: t) p = ((decide (s.f0 ≤ p) && decide (p < s.f1)) || mem t p) := rfl
theorem mem_append (a b : List S123) (p : Int) : mem (a ++ b) p = (mem a p || mem b p) := by simp [mem]
theorem mem_one (s : S123) (p : Int) : mem [s] p = (decide (s.f0 ≤ p) && decide (p < s.f1)) := by simp [mem]
theorem mem_perm {a b : List S123} (h : a.Perm b) (p : Int) : mem a p = mem b p := by unfold mem; exact h.any_eq
theorem Chk.weaken {e e' : Int} {l : List S123} (h : Chk e l) (he : e' ≤ e) : Chk e' l := by
  cases l with
  | nil => trivial
  | cons s t => exact ⟨by have := h.1; omega, h.2⟩
theorem Chk.lower {l : List S123} : ∀ {e p : Int}, Chk e l → mem l p = true → e < p := by
  induction l with
  | nil => intro e p _ h; simp [mem_nil] at h
  | cons s t ih =>
    intro e p hc h
    obtain ⟨h1, h2, h3, h4⟩ := hc
    rw [mem_cons, Bool.or_eq_true, Bool.and_eq_true, decide_eq_true_eq, decide_eq_true_eq] at h
    rcases h with h | h
    · omega
    · have := ih h4 h; omega
theorem Chk.upper {l : List S123} : ∀ {e p : Int}, Chk e l → mem l p = true → p < 1000000000 := by
  induction l with
  | nil => intro e p _ h; simp [mem_nil] at h
  | cons s t ih =>
    intro e p hc h
    obtain ⟨h1, h2, h3, h4⟩ := hc
    rw [mem_cons, Bool.or_eq_true, Bool.and_eq_true, decide_eq_true_eq, decide_eq_true_eq] at h
    rcases h with h | h
    · omega
    · exact ih h4 h
theorem mem_low {l : List S123} {e p : Int} (h : Chk e l) (hp : p ≤ e) : mem l p = false := by
  cases hm : mem l p with
  | false => rfl
  | true => have := h.lower hm; omega
theorem mem_high {l : List S123} {e p : Int} (h : Chk e l) (hp : 1000000000 ≤ p) : mem l p = false := by
  cases hm : mem l p with
  | false => rfl
  | true => have := h.upper hm; omega
theorem S123_ext {x y : S123} (h0 : x.f0 = y.f0) (h1 : x.f1 = y.f1) : x = y := by cases x; cases y; simp_all
/-- Two sets that have the same places are one list. -/
theorem Chk.canon {a : List S123} : ∀ {b : List S123} {e : Int}, Chk e a → Chk e b → (∀ p, mem a p = mem b p) → a = b := by
  induction a with
  | nil =>
    intro b e _ hb h
    cases b with
    | nil => rfl
    | cons s t =>
      have := h s.f0
      rw [mem_nil, mem_cons] at this
      simp [hb.2.1] at this
  | cons s t ih =>
    intro b e ha hb h
    cases b with
    | nil =>
      have := h s.f0
      rw [mem_nil, mem_cons] at this
      simp [ha.2.1] at this
    | cons s' t' =>
      obtain ⟨a1, a2, a3, a4⟩ := ha
      obtain ⟨b1, b2, b3, b4⟩ := hb
      have e0 : s.f0 = s'.f0 := by
        rcases Int.lt_trichotomy s.f0 s'.f0 with hl | hl | hl
        · have := h s.f0
          rw [mem_cons, mem_cons, mem_low b4 (by omega)] at this
          simp [show ¬ s'.f0 ≤ s.f0 by omega, a2] at this
        · exact hl
        · have := h s'.f0
          rw [mem_cons, mem_cons, mem_low a4 (by omega)] at this
          simp [show ¬ s.f0 ≤ s'.f0 by omega, b2] at this
      have e1 : s.f1 = s'.f1 := by
        rcases Int.lt_trichotomy s.f1 s'.f1 with hl | hl | hl
        · have := h s.f1
          rw [mem_cons, mem_cons, mem_low a4 (by omega)] at this
          simp [show s'.f0 ≤ s.f1 by omega, hl] at this
        · exact hl
        · have := h s'.f1
          rw [mem_cons, mem_cons, mem_low b4 (by omega)] at this
          simp [show s.f0 ≤ s'.f1 by omega, hl] at this
      obtain rfl : s = s' := S123_ext e0 e1
      congr 1
      refine ih a4 b4 fun p => ?_
      by_cases hp : p ≤ s.f1
      · rw [mem_low a4 hp, mem_low b4 hp]
      · have := h p
        rw [mem_cons, mem_cons] at this
        simpa [show ¬ p < s.f1 by omega] using this
/-! The first span that ends behind a place. -/
def cnt : List S123 → Int → Nat
  | [], _ => 0
  | s :: t, p => if s.f1 ≤ p then cnt t p + 1 else 0
def hasR : List S123 → Int → Bool
  | [], _ => false
  | s :: t, p => if s.f1 ≤ p then hasR t p else decide (s.f0 ≤ p)
def nextR : List S123 → Int → Int
  | [], _ => 1000000000
  | s :: t, p => if s.f1 ≤ p then nextR t p else if s.f0 > p then s.f0 else s.f1
theorem cnt_le (l : List S123) (p : Int) : cnt l p ≤ l.length := by
  induction l with
  | nil => exact Nat.le_refl _
  | cons s t ih => simp only [cnt, List.length_cons]; split <;> omega
theorem cnt_before (l : List S123) (p : Int) : ∀ i, i < cnt l p → (l.getD i z123).f1 ≤ p := by
  induction l with
  | nil => intro i h; simp [cnt] at h
  | cons s t ih =>
    intro i h
    simp only [cnt] at h
    split at h
    · cases i with
      | zero => simpa using ‹s.f1 ≤ p›
      | succ i => simpa using ih i (by omega)
    · omega
theorem Chk.f1_gt {l : List S123} : ∀ {e : Int}, Chk e l → ∀ i, i < l.length → e < (l.getD i z123).f1 := by
  induction l with
  | nil => intro e _ i h; simp at h
  | cons s t ih =>
    intro e hc i h
    obtain ⟨h1, h2, h3, h4⟩ := hc
    cases i with
    | zero => show e < s.f1; omega
    | succ i => have := ih h4 i (by simpa using h); simp only [List.getD_cons_succ]; omega
theorem cnt_behind {l : List S123} : ∀ {e p : Int}, Chk e l → ∀ i, cnt l p ≤ i → i < l.length → p < (l.getD i z123).f1 := by
  induction l with
  | nil => intro e p _ i _ h; simp at h
  | cons s t ih =>
    intro e p hc i h hl
    obtain ⟨h1, h2, h3, h4⟩ := hc
    simp only [cnt] at h
    split at h
    · cases i with
      | zero => omega
      | succ i => simpa using ih h4 i (by omega) (by simpa using hl)
    · rename_i hn
      cases i with
      | zero => show p < s.f1; omega
      | succ i => have := h4.f1_gt i (by simpa using hl); simp only [List.getD_cons_succ]; omega
theorem cnt_has (l : List S123) (p : Int) : hasR l p = if cnt l p < l.length then decide ((l.getD (cnt l p) z123).f0 ≤ p) else false := by
  induction l with
  | nil => rfl
  | cons s t ih =>
    simp only [hasR, cnt]
    split
    · rw [ih]; simp only [List.length_cons, Nat.add_lt_add_iff_right, List.getD_cons_succ]
    · simp
theorem cnt_next (l : List S123) (p : Int) : nextR l p = if cnt l p < l.length then (if (l.getD (cnt l p) z123).f0 > p then (l.getD (cnt l p) z123).f0 else (l.getD (cnt l p) z123).f1) else 1000000000 := by
  induction l with
  | nil => rfl
  | cons s t ih =>
    simp only [nextR, cnt]
    split
    · rw [ih]; simp only [List.length_cons, Nat.add_lt_add_iff_right, List.getD_cons_succ]
    · simp
theorem has_mem {l : List S123} : ∀ {e p : Int}, Chk e l → hasR l p = mem l p := by
  induction l with
  | nil => intros; rfl
  | cons s t ih =>
    intro e p hc
    obtain ⟨h1, h2, h3, h4⟩ := hc
    rw [mem_cons]
    simp only [hasR]
    split
    · rw [ih h4]; simp [show ¬ p < s.f1 by omega]
    · rw [mem_low h4 (by omega)]; simp [show p < s.f1 by omega]
theorem next_gt {l : List S123} : ∀ {e p : Int}, Chk e l → p < 1000000000 → p < nextR l p ∧ nextR l p ≤ 1000000000 := by
  induction l with
  | nil => intro e p _ h; simp only [nextR]; omega
  | cons s t ih =>
    intro e p hc h
    obtain ⟨h1, h2, h3, h4⟩ := hc
    simp only [nextR]
    split
    · exact ih h4 h
    · split <;> omega
theorem next_same {l : List S123} : ∀ {e p : Int}, Chk e l → ∀ x, p ≤ x → x < nextR l p → mem l x = mem l p := by
  induction l with
  | nil => intros; rfl
  | cons s t ih =>
    intro e p hc x hx hn
    obtain ⟨h1, h2, h3, h4⟩ := hc
    rw [mem_cons, mem_cons]
    simp only [nextR] at hn
    split at hn
    · rw [ih h4 x hx hn]; simp [show ¬ p < s.f1 by omega, show ¬ x < s.f1 by omega]
    · split at hn
      · rw [mem_low h4 (by omega), mem_low h4 (by omega)]; simp [show ¬ s.f0 ≤ p by omega, show ¬ s.f0 ≤ x by omega]
      · rw [mem_low h4 (by omega), mem_low h4 (by omega)]; simp [show s.f0 ≤ p by omega, show s.f0 ≤ x by omega, show x < s.f1 by omega, show p < s.f1 by omega]
/-! A span put behind others. -/
def lastHi : Int → List S123 → Int
  | e, [] => e
  | _, s :: t => lastHi s.f1 t
theorem Chk_snoc {l : List S123} {s : S123} : ∀ {e : Int}, Chk e (l ++ [s]) ↔ Chk e l ∧ lastHi e l < s.f0 ∧ s.f0 < s.f1 ∧ s.f1 ≤ 1000000000 := by
  induction l with
  | nil => intro e; simp [Chk, lastHi]
  | cons a t ih => intro e; simp only [List.cons_append, Chk, lastHi, ih]; constructor <;> (intro h; simp_all)
theorem lastHi_snoc (l : List S123) (s : S123) : ∀ e, lastHi e (l ++ [s]) = s.f1 := by
  induction l with
  | nil => intro e; rfl
  | cons a t ih => intro e; exact ih _
def addR (l : List S123) (s : S123) : List S123 := match l.getLast? with
  | none => [s]
  | some x => if s.f0 ≤ x.f1 then l.dropLast ++ [⟨x.f0, max x.f1 s.f1⟩] else l ++ [s]
theorem snoc_cases {α : Type} (l : List α) : l = [] ∨ ∃ i x, l = i ++ [x] := by
  rcases List.eq_nil_or_concat l with h | ⟨i, x, h⟩
  · exact .inl h
  · exact .inr ⟨i, x, by simpa using h⟩
theorem addR_snoc (i : List S123) (x s : S123) : addR (i ++ [x]) s = if s.f0 ≤ x.f1 then i ++ [⟨x.f0, max x.f1 s.f1⟩] else i ++ [x] ++ [s] := by simp [addR]
/-- What a set is that begins no later than a span, with the span. -/
structure Upto (l : List S123) (at_ : Int) : Prop where
  chk : Chk (-1) l
  low : ∀ x, l.getLast? = some x → x.f0 ≤ at_
theorem Upto.nil (a : Int) : Upto [] a := ⟨trivial, fun x h => by simp at h⟩
theorem Upto.mono {l : List S123} {a b : Int} (h : Upto l a) (hb : a ≤ b) : Upto l b := ⟨h.chk, fun x hx => Int.le_trans (h.low x hx) hb⟩
theorem addR_upto {l : List S123} {s : S123} (h : Upto l s.f0) (h0 : 0 ≤ s.f0) (h1 : s.f0 < s.f1) (h2 : s.f1 ≤ 1000000000) : Upto (addR l s) s.f0 := by
  rcases snoc_cases l with rfl | ⟨i, x, rfl⟩
  · refine ⟨⟨by omega, h1, h2, trivial⟩, fun y hy => ?_⟩
    obtain rfl : s = y := by simpa [addR] using hy
    omega
  · obtain ⟨c1, c2, c3, c4⟩ := Chk_snoc.1 h.chk
    have hx := h.low x (by simp)
    rw [addR_snoc]
    split
    · refine ⟨Chk_snoc.2 ⟨c1, c2, ?_, ?_⟩, fun y hy => ?_⟩
      · show x.f0 < max x.f1 s.f1; omega
      · show max x.f1 s.f1 ≤ _; omega
      · obtain rfl : _ = y := by simpa using hy
        exact hx
    · refine ⟨Chk_snoc.2 ⟨h.chk, by rw [lastHi_snoc]; omega, h1, h2⟩, fun y hy => ?_⟩
      obtain rfl : s = y := by simpa using hy
      omega
theorem addR_mem {l : List S123} {s : S123} (h : Upto l s.f0) (p : Int) : mem (addR l s) p = (mem l p || (decide (s.f0 ≤ p) && decide (p < s.f1))) := by
  rcases snoc_cases l with rfl | ⟨i, x, rfl⟩
  · simp [addR, mem]
  · obtain ⟨c1, c2, c3, c4⟩ := Chk_snoc.1 h.chk
    have hx := h.low x (by simp)
    rw [addR_snoc]
    split
    · rw [mem_append, mem_append, mem_one, mem_one, Bool.or_assoc]
      congr 1
      rw [Bool.eq_iff_iff]
      simp only [Bool.and_eq_true, Bool.or_eq_true, decide_eq_true_eq]
      omega
    · rw [mem_append, mem_one]
theorem Chk.length_le {l : List S123} : ∀ {e : Int}, Chk e l → e ≤ 1000000000 → (l.length : Int) + e ≤ 1000000000 := by
  induction l with
  | nil => intro e _ h; simpa using h
  | cons s t ih =>
    intro e hc _
    obtain ⟨h1, h2, h3, h4⟩ := hc
    have := ih h4 h3
    simp only [List.length_cons]
    omega
/-! Which lists are sets, told by a look. -/
def chkB : Int → List S123 → Bool
  | _, [] => true
  | e, s :: t => decide (e < s.f0) && decide (s.f0 < s.f1) && decide (s.f1 ≤ 1000000000) && chkB s.f1 t
theorem chkB_iff {l : List S123} : ∀ {e : Int}, chkB e l = true ↔ Chk e l := by
  induction l with
  | nil => intro e; simp [chkB, Chk]
  | cons s t ih => intro e; simp [chkB, Chk, ih, and_assoc]
/-! What is kept of two sets. -/
structure IsKept (K : Bool → Bool → Bool) (a b r : List S123) : Prop where
  chk : Chk (-1) r
  mem_ : ∀ p, mem r p = (decide (0 ≤ p) && decide (p < 1000000000) && K (mem a p) (mem b p))
theorem IsKept.unique {K : Bool → Bool → Bool} {a b r r' : List S123} (h : IsKept K a b r) (h' : IsKept K a b r') : r = r' := h.chk.canon h'.chk fun p => by rw [h.mem_, h'.mem_]
structure KInv (K : Bool → Bool → Bool) (a b out : List S123) (at_ : Int) : Prop where
  upto : Upto out at_
  none_ : ∀ x, at_ ≤ x → mem out x = false
  some_ : ∀ x, 0 ≤ x → x < at_ → mem out x = K (mem a x) (mem b x)
theorem KInv.start (K : Bool → Bool → Bool) (a b : List S123) : KInv K a b [] 0 := ⟨Upto.nil 0, fun _ _ => rfl, fun x h0 h1 => by omega⟩
theorem KInv.step {K : Bool → Bool → Bool} {a b out : List S123} {at_ : Int} (ha : Chk (-1) a) (hb : Chk (-1) b) (h : KInv K a b out at_) (h0 : 0 ≤ at_) (h1 : at_ < 1000000000) :
    KInv K a b (if K (mem a at_) (mem b at_) = true then addR out ⟨at_, min (nextR a at_) (nextR b at_)⟩ else out) (min (nextR a at_) (nextR b at_)) := by
  have na := next_gt ha h1
  have nb := next_gt hb h1
  have hlt : at_ < min (nextR a at_) (nextR b at_) := by omega
  have hle : min (nextR a at_) (nextR b at_) ≤ 1000000000 := by omega
  have same : ∀ x, at_ ≤ x → x < min (nextR a at_) (nextR b at_) → K (mem a x) (mem b x) = K (mem a at_) (mem b at_) := fun x hx hy => by
    rw [next_same ha x hx (by omega), next_same hb x hx (by omega)]
  split
  · rename_i hk
    have hu : Upto out (S123.mk at_ (min (nextR a at_) (nextR b at_))).f0 := h.upto
    refine ⟨(addR_upto hu h0 hlt hle).mono (Int.le_of_lt hlt), fun x hx => ?_, fun x hx hy => ?_⟩
    · rw [addR_mem hu, h.none_ x (by omega)]; simp only [Bool.false_or]; rw [decide_eq_false (p := x < _) (by show ¬ x < min (nextR a at_) (nextR b at_); omega), Bool.and_false]
    · rw [addR_mem hu]
      by_cases hc : x < at_
      · rw [h.some_ x hx hc, decide_eq_false (p := _ ≤ x) (by show ¬ at_ ≤ x; omega), Bool.false_and, Bool.or_false]
      · rw [h.none_ x (by omega), same x (by omega) hy, hk, decide_eq_true (p := _ ≤ x) (by show at_ ≤ x; omega), decide_eq_true (p := x < _) (by show x < min (nextR a at_) (nextR b at_); exact hy)]; rfl
  · rename_i hk
    refine ⟨h.upto.mono (Int.le_of_lt hlt), fun x hx => h.none_ x (by omega), fun x hx hy => ?_⟩
    by_cases hc : x < at_
    · exact h.some_ x hx hc
    · rw [h.none_ x (by omega), same x (by omega) hy]; simpa using hk
theorem KInv.done {K : Bool → Bool → Bool} {a b out : List S123} {at_ : Int} (h : KInv K a b out at_) (h1 : ¬ at_ < 1000000000) : IsKept K a b out := by
  refine ⟨h.upto.chk, fun p => ?_⟩
  by_cases h0 : 0 ≤ p
  · by_cases hp : p < 1000000000
    · rw [h.some_ p h0 (by omega)]; simp [h0, hp]
    · rw [mem_high h.upto.chk (by omega)]; simp [hp]
  · rw [mem_low h.upto.chk (by omega)]; simp [h0]
/-! Within, and how many. -/
def withinR : List S123 → List S123 → Bool
  | [], _ => true
  | s :: t, b => decide (cnt b s.f0 < b.length) && decide ((b.getD (cnt b s.f0) z123).f0 ≤ s.f0) && decide (s.f1 ≤ (b.getD (cnt b s.f0) z123).f1) && withinR t b
theorem mem_getD (l : List S123) (i : Nat) (h : i < l.length) (p : Int) (h0 : (l.getD i z123).f0 ≤ p) (h1 : p < (l.getD i z123).f1) : mem l p = true := by
  unfold mem
  rw [List.any_eq_true]
  refine ⟨l.getD i z123, ?_, by simp [-List.getD_eq_getElem?_getD, h0, h1]⟩
  rw [List.getD_eq_getElem?_getD, List.getElem?_eq_getElem h]; exact List.getElem_mem h
theorem Chk.gap {l : List S123} : ∀ {e : Int}, Chk e l → ∀ i, i < l.length → mem l (l.getD i z123).f1 = false := by
  induction l with
  | nil => intro e _ i h; simp at h
  | cons s t ih =>
    intro e hc i h
    obtain ⟨h1, h2, h3, h4⟩ := hc
    rw [mem_cons]
    cases i with
    | zero => rw [List.getD_cons_zero, mem_low h4 (Int.le_refl _)]; simp
    | succ i =>
      have hg := h4.f1_gt i (by simpa using h)
      rw [List.getD_cons_succ, ih h4 i (by simpa using h)]; simp only [Bool.or_false]; rw [decide_eq_false (p := _ < s.f1) (by omega), Bool.and_false]
theorem withinR_iff {b : List S123} (hb : Chk (-1) b) : ∀ {e : Int} {a : List S123}, Chk e a → (withinR a b = true ↔ ∀ p, mem a p = true → mem b p = true) := by
  intro e a
  induction a generalizing e with
  | nil => intro _; simp [withinR, mem_nil]
  | cons s t ih =>
    intro hc
    obtain ⟨h1, h2, h3, h4⟩ := hc
    have ih' := ih h4
    simp only [withinR, Bool.and_eq_true, decide_eq_true_eq]
    constructor
    · rintro ⟨⟨⟨g1, g2⟩, g3⟩, g4⟩ p hp
      rw [mem_cons, Bool.or_eq_true, Bool.and_eq_true, decide_eq_true_eq, decide_eq_true_eq] at hp
      rcases hp with hp | hp
      · exact mem_getD b _ g1 p (by omega) (by omega)
      · exact ih'.1 g4 p hp
    · intro h
      have hm : mem b s.f0 = true := h s.f0 (by rw [mem_cons]; simp [h2])
      rw [← has_mem hb, cnt_has] at hm
      by_cases g1 : cnt b s.f0 < b.length
      · rw [if_pos g1] at hm
        have g2 := of_decide_eq_true hm
        refine ⟨⟨⟨g1, g2⟩, ?_⟩, ih'.2 fun p hp => h p (by rw [mem_cons, hp, Bool.or_true])⟩
        refine Int.not_lt.1 fun hlt => ?_
        have hgap := hb.gap _ g1
        have hgt := cnt_behind hb _ (Nat.le_refl _) g1
        have := h _ (show mem (s :: t) (b.getD (cnt b s.f0) z123).f1 = true by rw [mem_cons, decide_eq_true (by omega), decide_eq_true hlt]; rfl)
        rw [hgap] at this; exact Bool.noConfusion this
      · rw [if_neg g1] at hm; exact Bool.noConfusion hm
def countR : List S123 → Int
  | [] => 0
  | s :: t => s.f1 - s.f0 + countR t
/-- How many places below n has a set of places? -/
def b2i : Bool → Int
  | true => 1
  | false => 0
def card (f : Int → Bool) : Nat → Int
  | 0 => 0
  | n + 1 => card f n + b2i (f n)
theorem card_congr {f g : Int → Bool} {n : Nat} (h : ∀ i : Nat, i < n → f i = g i) : card f n = card g n := by
  induction n with
  | zero => rfl
  | succ n ih => simp only [card]; rw [ih fun i hi => h i (by omega), h n (by omega)]
theorem card_none {f : Int → Bool} {n : Nat} (h : ∀ i : Nat, i < n → f i = false) : card f n = 0 := by
  induction n with
  | zero => rfl
  | succ n ih => simp only [card]; rw [ih fun i hi => h i (by omega), h n (by omega)]; rfl
theorem card_seg (a b : Int) (h0 : 0 ≤ a) (h1 : a ≤ b) : ∀ n : Nat, card (fun x => decide (a ≤ x) && decide (x < b)) n = max 0 (min b n - a) := by
  intro n
  induction n with
  | zero => simp only [card]; omega
  | succ n ih =>
    simp only [card]; rw [ih]
    by_cases h : a ≤ (n : Int) ∧ (n : Int) < b
    · rw [decide_eq_true h.1, decide_eq_true h.2]; simp only [Bool.and_self, b2i]; push_cast; omega
    · have : (decide (a ≤ (n : Int)) && decide ((n : Int) < b)) = false := by rw [Bool.and_eq_false_iff]; simp only [decide_eq_false_iff_not]; omega
      rw [this]; simp only [b2i]; push_cast; omega
theorem card_or {f g : Int → Bool} (n : Nat) (h : ∀ x, f x = true → g x = false) : card (fun x => f x || g x) n = card f n + card g n := by
  induction n with
  | zero => rfl
  | succ n ih =>
    simp only [card]; rw [ih]
    cases hf : f n with
    | true => rw [h _ hf]; simp [b2i]; omega
    | false => cases g n <;> simp [b2i] <;> omega
theorem card_both (f g : Int → Bool) (n : Nat) : card (fun x => f x || g x) n + card (fun x => f x && g x) n = card f n + card g n := by
  induction n with
  | zero => rfl
  | succ n ih => simp only [card]; cases f n <;> cases g n <;> simp [b2i] <;> omega
theorem card_not (f : Int → Bool) (n : Nat) : card f n + card (fun x => !f x) n = n := by
  induction n with
  | zero => rfl
  | succ n ih => simp only [card]; cases f n <;> simp [b2i] <;> omega
theorem count_card {l : List S123} : ∀ {e : Int}, -1 ≤ e → Chk e l → countR l = card (mem l) 1000000000 := by
  induction l with
  | nil => intro e _ _; exact (card_none fun _ _ => rfl).symm
  | cons s t ih =>
    intro e he hc
    obtain ⟨h1, h2, h3, h4⟩ := hc
    have hs := card_seg s.f0 s.f1 (by omega) (by omega) 1000000000
    have ho := card_or (f := fun x => decide (s.f0 ≤ x) && decide (x < s.f1)) (g := mem t) 1000000000 fun x hx => by
      rw [Bool.and_eq_true, decide_eq_true_eq, decide_eq_true_eq] at hx; exact mem_low h4 (by omega)
    rw [show mem (s :: t) = fun x => (decide (s.f0 ≤ x) && decide (x < s.f1)) || mem t x from funext fun x => mem_cons s t x, ho, hs, ← ih (by omega) h4]
    simp only [countR]; omega
theorem countR_nonneg {l : List S123} : ∀ {e : Int}, Chk e l → 0 ≤ countR l ∧ countR l ≤ 1000000000 - e ∨ l = [] := by
  induction l with
  | nil => intro e _; exact .inr rfl
  | cons s t ih =>
    intro e hc
    obtain ⟨h1, h2, h3, h4⟩ := hc
    left
    simp only [countR]
    rcases ih h4 with h | rfl
    · omega
    · simp only [countR]; omega
end Go.Proofs.Ytihenfpnilliiaa.Sp
