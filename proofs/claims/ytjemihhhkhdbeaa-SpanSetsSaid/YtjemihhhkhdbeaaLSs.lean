/- Plain facts for the proof of a statement of the seat; conditions: none but those each states. -/
import Derived.Test.YtjemihhhkhdbeaaPSsx0
import Derived.Test.YtjemihhhkhdbeaaPSsx2
import Derived.Test.YtjemihhhkhdbeaaPSsx3
import Derived.Test.YtjemihhhkhdbeaaPSsx4
import Derived.Test.YtjemihhhkhdbeaaPSsx5
import Derived.Test.YtjemihhhkhdbeaaPSsx6
import Derived.Test.YtjemihhhkhdbeaaPSsx7
import Derived.Test.YtjemihhhkhdbeaaPSsx8
import Derived.Test.YtjemihhhkhdbeaaPSsx9
import Derived.Test.YtjemihhhkhdbeaaPSsx10
import Derived.Test.YtjemihhhkhdbeaaPSsx11
import Derived.Test.YtjemihhhkhdbeaaPSsx12
namespace Go.Proofs.Ytjemihhhkhdbeaa.PSs
open Go.RowKit Go.Proofs.YtjemihhhkhdbeaaW.PrintWords Go.Proofs.YtjemihhhkhdbeaaW.PrintLast Go.Proofs.YtjemihhhkhdbeaaW.PrintMore
set_option linter.unusedVariables false
set_option linter.unusedSimpArgs false
/-! Sets of places as lists of spans: plain facts. Nothing of Go here but the printed struct of a span. -/
def mem (l : List S123) (p : Int) : Bool := l.any fun s => decide (s.f0 ≤ p) && decide (p < s.f1)
def Chk : Int → List S123 → Prop
  | _, [] => True
  | e, s :: t => e < s.f0 ∧ s.f0 < s.f1 ∧ s.f1 ≤ 1000000000 ∧ Chk s.f1 t
theorem mem_nil (p : Int) : mem [] p = false := rfl
theorem mem_cons (s : S123) (t : List S123) (p : Int) : mem (s :: t) p = ((decide (s.f0 ≤ p) && decide (p < s.f1)) || mem t p) := rfl
theorem mem_append (a b : List S123) (p : Int) : mem (a ++ b) p = (mem a p || mem b p) := by simp [mem]
theorem mem_one (s : S123) (p : Int) : mem [s] p = (decide (s.f0 ≤ p) && decide (p < s.f1)) := by simp [mem]
theorem mem_perm {a b : List S123} (h : a.Perm b) (p : Int) : mem a p = mem b p := by unfold mem; exact h.any_eq
theorem Chk.weaken {e e' : Int} {l : List S123} (h : Chk e l) (he : e' ≤ e) : Chk e' l := by
  cases l with
  | nil => trivial
  | cons s t => exact ⟨by have := h.1; omega, h.2⟩
theorem Chk.lower {l : List S123} : ∀ {e p : Int}, Chk e l → mem l p = true → e < p := by
  induction l with
  | nil => intro e p _ h; simp [mem_nil] at h
  | cons s t ih =>
    intro e p hc h
    obtain ⟨h1, h2, h3, h4⟩ := hc
    rw [mem_cons, Bool.or_eq_true, Bool.and_eq_true, decide_eq_true_eq, decide_eq_true_eq] at h
    rcases h with h | h
    · omega
    · have := ih h4 h; omega
theorem Chk.upper {l : List S123} : ∀ {e p : Int}, Chk e l → mem l p = true → p < 1000000000 := by
  induction l with
  | nil => intro e p _ h; simp [mem_nil] at h
  | cons s t ih =>
    intro e p hc h
    obtain ⟨h1, h2, h3, h4⟩ := hc
    rw [mem_cons, Bool.or_eq_true, Bool.and_eq_true, decide_eq_true_eq, decide_eq_true_eq] at h
    rcases h with h | h
    · omega
    · exact ih h4 h
theorem mem_low {l : List S123} {e p : Int} (h : Chk e l) (hp : p ≤ e) : mem l p = false := by
  cases hm : mem l p with
  | false => rfl
  | true => have := h.lower hm; omega
theorem mem_high {l : List S123} {e p : Int} (h : Chk e l) (hp : 1000000000 ≤ p) : mem l p = false := by
  cases hm : mem l p with
  | false => rfl
  | true => have := h.upper hm; omega
theorem S123_ext {x y : S123} (h0 : x.f0 = y.f0) (h1 : x.f1 = y.f1) : x = y := by cases x; cases y; simp_all
/-- Two sets that have the same places are one list. -/
theorem Chk.canon {a : List S123} : ∀ {b : List S123} {e : Int}, Chk e a → Chk e b → (∀ p, mem a p = mem b p) → a = b := by
  induction a with
  | nil =>
    intro b e _ hb h
    cases b with
    | nil => rfl
    | cons s t =>
      have := h s.f0
      rw [mem_nil, mem_cons] at this
      simp [hb.2.1] at this
  | cons s t ih =>
    intro b e ha hb h
    cases b with
    | nil =>
      have := h s.f0
      rw [mem_nil, mem_cons] at this
      simp [ha.2.1] at this
    | cons s' t' =>
      obtain ⟨a1, a2, a3, a4⟩ := ha
      obtain ⟨b1, b2, b3, b4⟩ := hb
      have e0 : s.f0 = s'.f0 := by
        rcases Int.lt_trichotomy s.f0 s'.f0 with hl | hl | hl
        · have := h s.f0
          rw [mem_cons, mem_cons, mem_low b4 (by omega)] at this
          simp [show ¬ s'.f0 ≤ s.f0 by omega, a2] at this
        · exact hl
        · have := h s'.f0
          rw [mem_cons, mem_cons, mem_low a4 (by omega)] at this
          simp [show ¬ s.f0 ≤ s'.f0 by omega, b2] at this
      have e1 : s.f1 = s'.f1 := by
        rcases Int.lt_trichotomy s.f1 s'.f1 with hl | hl | hl
        · have := h s.f1
          rw [mem_cons, mem_cons, mem_low a4 (by omega)] at this
          simp [show s'.f0 ≤ s.f1 by omega, hl] at this
        · exact hl
        · have := h s'.f1
          rw [mem_cons, mem_cons, mem_low b4 (by omega)] at this
          simp [show s.f0 ≤ s'.f1 by omega, hl] at this
      obtain rfl : s = s' := S123_ext e0 e1
      congr 1
      refine ih a4 b4 fun p => ?_
      by_cases hp : p ≤ s.f1
      · rw [mem_low a4 hp, mem_low b4 hp]
      · have := h p
        rw [mem_cons, mem_cons] at this
        simpa [show ¬ p < s.f1 by omega] using this
/-! The first span that ends behind a place. -/
def cnt : List S123 → Int → Nat
  | [], _ => 0
  | s :: t, p => if s.f1 ≤ p then cnt t p + 1 else 0
def hasR : List S123 → Int → Bool
  | [], _ => false
  | s :: t, p => if s.f1 ≤ p then hasR t p else decide (s.f0 ≤ p)
def nextR : List S123 → Int → Int
  | [], _ => 1000000000
  | s :: t, p => if s.f1 ≤ p then nextR t p else if s.f0 > p then s.f0 else s.f1
theorem cnt_le (l : List S123) (p : Int) : cnt l p ≤ l.length := by
  induction l with
  | nil => exact Nat.le_refl _
  | cons s t ih => simp only [cnt, List.length_cons]; split <;> omega
theorem cnt_before (l : List S123) (p : Int) : ∀ i, i < cnt l p → (l.getD i z123).f1 ≤ p := by
  induction l with
  | nil => intro i h; simp [cnt] at h
  | cons s t ih =>
    intro i h
    simp only [cnt] at h
    split at h
    · cases i with
      | zero => simpa using ‹s.f1 ≤ p›
      | succ i => simpa using ih i (by omega)
    · omega
theorem Chk.f1_gt {l : List S123} : ∀ {e : Int}, Chk e l → ∀ i, i < l.length → e < (l.getD i z123).f1 := by
  induction l with
  | nil => intro e _ i h; simp at h
  | cons s t ih =>
    intro e hc i h
    obtain ⟨h1, h2, h3, h4⟩ := hc
    cases i with
    | zero => show e < s.f1; omega
    | succ i => have := ih h4 i (by simpa using h); simp only [List.getD_cons_succ]; omega
theorem cnt_behind {l : List S123} : ∀ {e p : Int}, Chk e l → ∀ i, cnt l p ≤ i → i < l.length → p < (l.getD i z123).f1 := by
  induction l with
  | nil => intro e p _ i _ h; simp at h
  | cons s t ih =>
    intro e p hc i h hl
    obtain ⟨h1, h2, h3, h4⟩ := hc
    simp only [cnt] at h
    split at h
    · cases i with
      | zero => omega
      | succ i => simpa using ih h4 i (by omega) (by simpa using hl)
    · rename_i hn
      cases i with
      | zero => show p < s.f1; omega
      | succ i => have := h4.f1_gt i (by simpa using hl); simp only [List.getD_cons_succ]; omega
theorem cnt_has (l : List S123) (p : Int) : hasR l p = if cnt l p < l.length then decide ((l.getD (cnt l p) z123).f0 ≤ p) else false := by
  induction l with
  | nil => rfl
  | cons s t ih =>
    simp only [hasR, cnt]
    split
    · rw [ih]; simp only [List.length_cons, Nat.add_lt_add_iff_right, List.getD_cons_succ]
    · simp
theorem cnt_next (l : List S123) (p : Int) : nextR l p = if cnt l p < l.length then (if (l.getD (cnt l p) z123).f0 > p then (l.getD (cnt l p) z123).f0 else (l.getD (cnt l p) z123).f1) else 1000000000 := by
  induction l with
  | nil => rfl
  | cons s t ih =>
    simp only [nextR, cnt]
    split
    · rw [ih]; simp only [List.length_cons, Nat.add_lt_add_iff_right, List.getD_cons_succ]
    · simp
theorem has_mem {l : List S123} : ∀ {e p : Int}, Chk e l → hasR l p = mem l p := by
  induction l with
  | nil => intros; rfl
  | cons s t ih =>
    intro e p hc
    obtain ⟨h1, h2, h3, h4⟩ := hc
    rw [mem_cons]
    simp only [hasR]
    split
    · rw [ih h4]; simp [show ¬ p < s.f1 by omega]
    · rw [mem_low h4 (by omega)]; simp [show p < s.f1 by omega]
theorem next_gt {l : List S123} : ∀ {e p : Int}, Chk e l → p < 1000000000 → p < nextR l p ∧ nextR l p ≤ 1000000000 := by
  induction l with
  | nil => intro e p _ h; simp only [nextR]; omega
  | cons s t ih =>
    intro e p hc h
    obtain ⟨h1, h2, h3, h4⟩ := hc
    simp only [nextR]
    split
    · exact ih h4 h
    · split <;> omega
theorem next_same {l : List S123} : ∀ {e p : Int}, Chk e l → ∀ x, p ≤ x → x < nextR l p → mem l x = mem l p := by
  induction l with
  | nil => intros; rfl
  | cons s t ih =>
    intro e p hc x hx hn
    obtain ⟨h1, h2, h3, h4⟩ := hc
    rw [mem_cons, mem_cons]
    simp only [nextR] at hn
    split at hn
    · rw [ih h4 x hx hn]; simp [show ¬ p < s.f1 by omega, show ¬ x < s.f1 by omega]
    · split at hn
      · rw [mem_low h4 (by omega), mem_low h4 (by omega)]; simp [show ¬ s.f0 ≤ p by omega, show ¬ s.f0 ≤ x by omega]
      · rw [mem_low h4 (by omega), mem_low h4 (by omega)]; simp [show s.f0 ≤ p by omega, show s.f0 ≤ x by omega, show x < s.f1 by omega, show p < s.f1 by omega]
/-! A span put behind others. -/
def lastHi : Int → List S123 → Int
  | e, [] => e
  | _, s :: t => lastHi s.f1 t
theorem Chk_snoc {l : List S123} {s : S123} : ∀ {e : Int}, Chk e (l ++ [s]) ↔ Chk e l ∧ lastHi e l < s.f0 ∧ s.f0 < s.f1 ∧ s.f1 ≤ 1000000000 := by
  induction l with
  | nil => intro e; simp [Chk, lastHi]
  | cons a t ih => intro e; simp only [List.cons_append, Chk, lastHi, ih]; constructor <;> (intro h; simp_all)
theorem lastHi_snoc (l : List S123) (s : S123) : ∀ e, lastHi e (l ++ [s]) = s.f1 := by
  induction l with
  | nil => intro e; rfl
  | cons a t ih => intro e; exact ih _
def addR (l : List S123) (s : S123) : List S123 := match l.getLast? with
  | none => [s]
  | some x => if s.f0 ≤ x.f1 then l.dropLast ++ [⟨x.f0, max x.f1 s.f1⟩] else l ++ [s]
theorem snoc_cases {α : Type} (l : List α) : l = [] ∨ ∃ i x, l = i ++ [x] := by
  rcases List.eq_nil_or_concat l with h | ⟨i, x, h⟩
  · exact .inl h
  · exact .inr ⟨i, x, by simpa using h⟩
theorem addR_snoc (i : List S123) (x s : S123) : addR (i ++ [x]) s = if s.f0 ≤ x.f1 then i ++ [⟨x.f0, max x.f1 s.f1⟩] else i ++ [x] ++ [s] := by simp [addR]
/-- What a set is that begins no later than a span, with the span. -/
structure Upto (l : List S123) (at_ : Int) : Prop where
  chk : Chk (-1) l
  low : ∀ x, l.getLast? = some x → x.f0 ≤ at_
theorem Upto.nil (a : Int) : Upto [] a := ⟨trivial, fun x h => by simp at h⟩
theorem Upto.mono {l : List S123} {a b : Int} (h : Upto l a) (hb : a ≤ b) : Upto l b := ⟨h.chk, fun x hx => Int.le_trans (h.low x hx) hb⟩
theorem addR_upto {l : List S123} {s : S123} (h : Upto l s.f0) (h0 : 0 ≤ s.f0) (h1 : s.f0 < s.f1) (h2 : s.f1 ≤ 1000000000) : Upto (addR l s) s.f0 := by
  rcases snoc_cases l with rfl | ⟨i, x, rfl⟩
  · refine ⟨⟨by omega, h1, h2, trivial⟩, fun y hy => ?_⟩
    obtain rfl : s = y := by simpa [addR] using hy
    omega
  · obtain ⟨c1, c2, c3, c4⟩ := Chk_snoc.1 h.chk
    have hx := h.low x (by simp)
    rw [addR_snoc]
    split
    · refine ⟨Chk_snoc.2 ⟨c1, c2, ?_, ?_⟩, fun y hy => ?_⟩
      · show x.f0 < max x.f1 s.f1; omega
      · show max x.f1 s.f1 ≤ _; omega
      · obtain rfl : _ = y := by simpa using hy
        exact hx
    · refine ⟨Chk_snoc.2 ⟨h.chk, by rw [lastHi_snoc]; omega, h1, h2⟩, fun y hy => ?_⟩
      obtain rfl : s = y := by simpa using hy
      omega
theorem addR_mem {l : List S123} {s : S123} (h : Upto l s.f0) (p : Int) : mem (addR l s) p = (mem l p || (decide (s.f0 ≤ p) && decide (p < s.f1))) := by
  rcases snoc_cases l with rfl | ⟨i, x, rfl⟩
  · simp [addR, mem]
  · obtain ⟨c1, c2, c3, c4⟩ := Chk_snoc.1 h.chk
    have hx := h.low x (by simp)
    rw [addR_snoc]
    split
    · rw [mem_append, mem_append, mem_one, mem_one, Bool.or_assoc]
      congr 1
      rw [Bool.eq_iff_iff]
      simp only [Bool.and_eq_true, Bool.or_eq_true, decide_eq_true_eq]
      omega
    · rw [mem_append, mem_one]
theorem Chk.length_le {l : List S123} : ∀ {e : Int}, Chk e l → e ≤ 1000000000 → (l.length : Int) + e ≤ 1000000000 := by
  induction l with
  | nil => intro e _ h; simpa using h
  | cons s t ih =>
    intro e hc _
    obtain ⟨h1, h2, h3, h4⟩ := hc
    have := ih h4 h3
    simp only [List.length_cons]
    omega
/-! Which lists are sets, told by a look. -/
def chkB : Int → List S123 → Bool
  | _, [] => true
  | e, s :: t => decide (e < s.f0) && decide (s.f0 < s.f1) && decide (s.f1 ≤ 1000000000) && chkB s.f1 t
theorem chkB_iff {l : List S123} : ∀ {e : Int}, chkB e l = true ↔ Chk e l := by
  induction l with
  | nil => intro e; simp [chkB, Chk]
  | cons s t ih => intro e; simp [chkB, Chk, ih, and_assoc]
/-! What is kept of two sets. -/
structure IsKept (K : Bool → Bool → Bool) (a b r : List S123) : Prop where
  chk : Chk (-1) r
  mem_ : ∀ p, mem r p = (decide (0 ≤ p) && decide (p < 1000000000) && K (mem a p) (mem b p))
theorem IsKept.unique {K : Bool → Bool → Bool} {a b r r' : List S123} (h : IsKept K a b r) (h' : IsKept K a b r') : r = r' := h.chk.canon h'.chk fun p => by rw [h.mem_, h'.mem_]
structure KInv (K : Bool → Bool → Bool) (a b out : List S123) (at_ : Int) : Prop where
  upto : Upto out at_
  none_ : ∀ x, at_ ≤ x → mem out x = false
  some_ : ∀ x, 0 ≤ x → x < at_ → mem out x = K (mem a x) (mem b x)
theorem KInv.start (K : Bool → Bool → Bool) (a b : List S123) : KInv K a b [] 0 := ⟨Upto.nil 0, fun _ _ => rfl, fun x h0 h1 => by omega⟩
theorem KInv.step {K : Bool → Bool → Bool} {a b out : List S123} {at_ : Int} (ha : Chk (-1) a) (hb : Chk (-1) b) (h : KInv K a b out at_) (h0 : 0 ≤ at_) (h1 : at_ < 1000000000) :
    KInv K a b (if K (mem a at_) (mem b at_) = true then addR out ⟨at_, min (nextR a at_) (nextR b at_)⟩ else out) (min (nextR a at_) (nextR b at_)) := by
  have na := next_gt ha h1
  have nb := next_gt hb h1
  have hlt : at_ < min (nextR a at_) (nextR b at_) := by omega
  have hle : min (nextR a at_) (nextR b at_) ≤ 1000000000 := by omega
  have same : ∀ x, at_ ≤ x → x < min (nextR a at_) (nextR b at_) → K (mem a x) (mem b x) = K (mem a at_) (mem b at_) := fun x hx hy => by
    rw [next_same ha x hx (by omega), next_same hb x hx (by omega)]
  split
  · rename_i hk
    have hu : Upto out (S123.mk at_ (min (nextR a at_) (nextR b at_))).f0 := h.upto
    refine ⟨(addR_upto hu h0 hlt hle).mono (Int.le_of_lt hlt), fun x hx => ?_, fun x hx hy => ?_⟩
    · rw [addR_mem hu, h.none_ x (by omega)]; simp only [Bool.false_or]; rw [decide_eq_false (p := x < _) (by show ¬ x < min (nextR a at_) (nextR b at_); omega), Bool.and_false]
    · rw [addR_mem hu]
      by_cases hc : x < at_
      · rw [h.some_ x hx hc, decide_eq_false (p := _ ≤ x) (by show ¬ at_ ≤ x; omega), Bool.false_and, Bool.or_false]
      · rw [h.none_ x (by omega), same x (by omega) hy, hk, decide_eq_true (p := _ ≤ x) (by show at_ ≤ x; omega), decide_eq_true (p := x < _) (by show x < min (nextR a at_) (nextR b at_); exact hy)]; rfl
  · rename_i hk
    refine ⟨h.upto.mono (Int.le_of_lt hlt), fun x hx => h.none_ x (by omega), fun x hx hy => ?_⟩
    by_cases hc : x < at_
    · exact h.some_ x hx hc
    · rw [h.none_ x (by omega), same x (by omega) hy]; simpa using hk
theorem KInv.done {K : Bool → Bool → Bool} {a b out : List S123} {at_ : Int} (h : KInv K a b out at_) (h1 : ¬ at_ < 1000000000) : IsKept K a b out := by
  refine ⟨h.upto.chk, fun p => ?_⟩
  by_cases h0 : 0 ≤ p
  · by_cases hp : p < 1000000000
    · rw [h.some_ p h0 (by omega)]; simp [h0, hp]
    · rw [mem_high h.upto.chk (by omega)]; simp [hp]
  · rw [mem_low h.upto.chk (by omega)]; simp [h0]
/-! Within, and how many. -/
def withinR : List S123 → List S123 → Bool
  | [], _ => true
  | s :: t, b => decide (cnt b s.f0 < b.length) && decide ((b.getD (cnt b s.f0) z123).f0 ≤ s.f0) && decide (s.f1 ≤ (b.getD (cnt b s.f0) z123).f1) && withinR t b
theorem mem_getD (l : List S123) (i : Nat) (h : i < l.length) (p : Int) (h0 : (l.getD i z123).f0 ≤ p) (h1 : p < (l.getD i z123).f1) : mem l p = true := by
  unfold mem
  rw [List.any_eq_true]
  refine ⟨l.getD i z123, ?_, by simp [-List.getD_eq_getElem?_getD, h0, h1]⟩
  rw [List.getD_eq_getElem?_getD, List.getElem?_eq_getElem h]; exact List.getElem_mem h
theorem Chk.gap {l : List S123} : ∀ {e : Int}, Chk e l → ∀ i, i < l.length → mem l (l.getD i z123).f1 = false := by
  induction l with
  | nil => intro e _ i h; simp at h
  | cons s t ih =>
    intro e hc i h
    obtain ⟨h1, h2, h3, h4⟩ := hc
    rw [mem_cons]
    cases i with
    | zero => rw [List.getD_cons_zero, mem_low h4 (Int.le_refl _)]; simp
    | succ i =>
      have hg := h4.f1_gt i (by simpa using h)
      rw [List.getD_cons_succ, ih h4 i (by simpa using h)]; simp only [Bool.or_false]; rw [decide_eq_false (p := _ < s.f1) (by omega), Bool.and_false]
theorem withinR_iff {b : List S123} (hb : Chk (-1) b) : ∀ {e : Int} {a : List S123}, Chk e a → (withinR a b = true ↔ ∀ p, mem a p = true → mem b p = true) := by
  intro e a
  induction a generalizing e with
  | nil => intro _; simp [withinR, mem_nil]
  | cons s t ih =>
    intro hc
    obtain ⟨h1, h2, h3, h4⟩ := hc
    have ih' := ih h4
    simp only [withinR, Bool.and_eq_true, decide_eq_true_eq]
    constructor
    · rintro ⟨⟨⟨g1, g2⟩, g3⟩, g4⟩ p hp
      rw [mem_cons, Bool.or_eq_true, Bool.and_eq_true, decide_eq_true_eq, decide_eq_true_eq] at hp
      rcases hp with hp | hp
      · exact mem_getD b _ g1 p (by omega) (by omega)
      · exact ih'.1 g4 p hp
    · intro h
      have hm : mem b s.f0 = true := h s.f0 (by rw [mem_cons]; simp [h2])
      rw [← has_mem hb, cnt_has] at hm
      by_cases g1 : cnt b s.f0 < b.length
      · rw [if_pos g1] at hm
        have g2 := of_decide_eq_true hm
        refine ⟨⟨⟨g1, g2⟩, ?_⟩, ih'.2 fun p hp => h p (by rw [mem_cons, hp, Bool.or_true])⟩
        refine Int.not_lt.1 fun hlt => ?_
        have hgap := hb.gap _ g1
        have hgt := cnt_behind hb _ (Nat.le_refl _) g1
        have := h _ (show mem (s :: t) (b.getD (cnt b s.f0) z123).f1 = true by rw [mem_cons, decide_eq_true (by omega), decide_eq_true hlt]; rfl)
        rw [hgap] at this; exact Bool.noConfusion this
      · rw [if_neg g1] at hm; exact Bool.noConfusion hm
def countR : List S123 → Int
  | [] => 0
  | s :: t => s.f1 - s.f0 + countR t
/-- How many places below n has a set of places? -/
def b2i : Bool → Int
  | true => 1
  | false => 0
def card (f : Int → Bool) : Nat → Int
  | 0 => 0
  | n + 1 => card f n + b2i (f n)
theorem card_congr {f g : Int → Bool} {n : Nat} (h : ∀ i : Nat, i < n → f i = g i) : card f n = card g n := by
  induction n with
  | zero => rfl
  | succ n ih => simp only [card]; rw [ih fun i hi => h i (by omega), h n (by omega)]
theorem card_none {f : Int → Bool} {n : Nat} (h : ∀ i : Nat, i < n → f i = false) : card f n = 0 := by
  induction n with
  | zero => rfl
  | succ n ih => simp only [card]; rw [ih fun i hi => h i (by omega), h n (by omega)]; rfl
theorem card_seg (a b : Int) (h0 : 0 ≤ a) (h1 : a ≤ b) : ∀ n : Nat, card (fun x => decide (a ≤ x) && decide (x < b)) n = max 0 (min b n - a) := by
  intro n
  induction n with
  | zero => simp only [card]; omega
  | succ n ih =>
    simp only [card]; rw [ih]
    by_cases h : a ≤ (n : Int) ∧ (n : Int) < b
    · rw [decide_eq_true h.1, decide_eq_true h.2]; simp only [Bool.and_self, b2i]; push_cast; omega
    · have : (decide (a ≤ (n : Int)) && decide ((n : Int) < b)) = false := by rw [Bool.and_eq_false_iff]; simp only [decide_eq_false_iff_not]; omega
      rw [this]; simp only [b2i]; push_cast; omega
theorem card_or {f g : Int → Bool} (n : Nat) (h : ∀ x, f x = true → g x = false) : card (fun x => f x || g x) n = card f n + card g n := by
  induction n with
  | zero => rfl
  | succ n ih =>
    simp only [card]; rw [ih]
    cases hf : f n with
    | true => rw [h _ hf]; simp [b2i]; omega
    | false => cases g n <;> simp [b2i] <;> omega
theorem card_both (f g : Int → Bool) (n : Nat) : card (fun x => f x || g x) n + card (fun x => f x && g x) n = card f n + card g n := by
  induction n with
  | zero => rfl
  | succ n ih => simp only [card]; cases f n <;> cases g n <;> simp [b2i] <;> omega
theorem card_not (f : Int → Bool) (n : Nat) : card f n + card (fun x => !f x) n = n := by
  induction n with
  | zero => rfl
  | succ n ih => simp only [card]; cases f n <;> simp [b2i] <;> omega
theorem count_card {l : List S123} : ∀ {e : Int}, -1 ≤ e → Chk e l → countR l = card (mem l) 1000000000 := by
  induction l with
  | nil => intro e _ _; exact (card_none fun _ _ => rfl).symm
  | cons s t ih =>
    intro e he hc
    obtain ⟨h1, h2, h3, h4⟩ := hc
    have hs := card_seg s.f0 s.f1 (by omega) (by omega) 1000000000
    have ho := card_or (f := fun x => decide (s.f0 ≤ x) && decide (x < s.f1)) (g := mem t) 1000000000 fun x hx => by
      rw [Bool.and_eq_true, decide_eq_true_eq, decide_eq_true_eq] at hx; exact mem_low h4 (by omega)
    rw [show mem (s :: t) = fun x => (decide (s.f0 ≤ x) && decide (x < s.f1)) || mem t x from funext fun x => mem_cons s t x, ho, hs, ← ih (by omega) h4]
    simp only [countR]; omega
theorem countR_nonneg {l : List S123} : ∀ {e : Int}, Chk e l → 0 ≤ countR l ∧ countR l ≤ 1000000000 - e ∨ l = [] := by
  induction l with
  | nil => intro e _; exact .inr rfl
  | cons s t ih =>
    intro e hc
    obtain ⟨h1, h2, h3, h4⟩ := hc
    left
    simp only [countR]
    rcases ih h4 with h | rfl
    · omega
    · simp only [countR]; omega
/-! What the printed functions of package span tell. -/
theorem Ev.pos {α : Type} {c : Prop} [Decidable c] {f g : Nat → Option α} {r : α} (h : c) (e : Ev f r) : Ev (fun k => if c then f k else g k) r := Ev.congr (fun _ => if_pos h) e
theorem Ev.neg {α : Type} {c : Prop} [Decidable c] {f g : Nat → Option α} {r : α} (h : ¬ c) (e : Ev g r) : Ev (fun k => if c then f k else g k) r := Ev.congr (fun _ => if_neg h) e
theorem Ev.eq {α : Type} {f : Nat → Option α} {a b : α} (e : Ev f a) (h : a = b) : Ev f b := h ▸ e
theorem Ev.const {α : Type} {o : Option α} {r : α} (h : o = some r) : Ev (fun _ => o) r := ⟨0, fun _ _ => h⟩
theorem Ev.bindc {α β : Type} {g : Option α} {f : Nat → α → Option β} {a : α} {r : β} (h : g = some a) (k : Ev (fun n => f n a) r) : Ev (fun n => g.bind (f n)) r := Ev.bind (Ev.const h) k
theorem wrap_of {x : Int} (h0 : -9223372036854775808 ≤ x) (h1 : x ≤ 9223372036854775807) : wrap64 x = x := by unfold wrap64; omega
theorem wrap_succ (i : Nat) (h : i < 4611686018427387904) : wrap64 ((i : Int) + 1) = ((i + 1 : Nat) : Int) := by rw [wrap_of (by omega) (by omega)]; omega
theorem rd_nat (l : List S123) (i : Nat) : rd_T123 l (i : Int) = l.getD i z123 := by unfold rd_T123; rw [Int.toNat_natCast]
theorem drop_cons (l : List S123) (i : Nat) (h : i < l.length) : l.drop i = rd_T123 l (i : Int) :: l.drop (i + 1) := by
  rw [rd_nat, List.drop_eq_getElem_cons h, List.getD_eq_getElem?_getD, List.getElem?_eq_getElem h]; rfl
theorem chk_len {l : List S123} (h : Chk (-1) l) : (l.length : Int) ≤ 1000000001 := by have := h.length_le (by omega); omega
theorem half (i j : Nat) (h : i + j < 4611686018427387904) : wrap64 (IntKind.u64.wrap (wrap64 ((i : Int) + j)) / 2) = (((i + j) / 2 : Nat) : Int) := by
  rw [wrap_of (x := (i : Int) + j) (by omega) (by omega)]
  have : IntKind.u64.wrap ((i : Int) + j) = (i : Int) + j := by simp [IntKind.wrap, IntKind.bits, IntKind.signed]; omega
  rw [this, wrap_of (by omega) (by omega)]; omega
theorem bs_ev (l : List S123) (p : Int) (hc : Chk (-1) l) : ∀ d i j : Nat, j - i ≤ d → i ≤ cnt l p → cnt l p ≤ j → j ≤ l.length →
    Ev (fun k => slices_BinarySearchFunc_int_span_after_1.l0 k l p (l.length : Int) i j) ((cnt l p : Int), false) := by
  have hlen := chk_len hc
  intro d
  induction d with
  | zero =>
    intro i j hd h1 h2 h3
    have e : i = cnt l p := by omega
    have e' : j = cnt l p := by omega
    refine Ev.step (fun k => by rw [slices_BinarySearchFunc_int_span_after_1.l0]) (Ev.neg (by omega) ?_)
    by_cases hl : cnt l p < l.length
    · refine Ev.pos (by omega) (Ev.pos (by omega) (Ev.pos (by omega) ?_))
      have := cnt_behind hc (cnt l p) (Nat.le_refl _) hl
      refine Ev.bindc (a := 1) ?_ (Ev.const (by rw [e]; rfl))
      rw [e, rd_nat, span_after_1.f, if_neg (by omega)]
    · exact Ev.neg (by omega) (Ev.const (by rw [e]))
  | succ d ih =>
    intro i j hd h1 h2 h3
    by_cases hij : i < j
    · refine Ev.step (fun k => by rw [slices_BinarySearchFunc_int_span_after_1.l0]) (Ev.pos (by omega) ?_)
      rw [half i j (by omega)]
      refine Ev.pos (by omega) (Ev.pos (by omega) ?_)
      by_cases hm : (i + j) / 2 < cnt l p
      · have := cnt_before l p _ hm
        refine Ev.bindc (a := -1) (by rw [rd_nat, span_after_1.f, if_pos this]) (Ev.pos (by omega) ?_)
        rw [wrap_of (by omega) (by omega)]
        exact ih ((i + j) / 2 + 1) j (by omega) (by omega) h2 h3
      · have := cnt_behind (p := p) hc ((i + j) / 2) (by omega) (by omega)
        refine Ev.bindc (a := 1) (by rw [rd_nat, span_after_1.f, if_neg (by omega)]) (Ev.neg (by omega) ?_)
        exact ih i ((i + j) / 2) (by omega) h1 (by omega) (by omega)
    · exact ih i j (by omega) h1 h2 h3
theorem after_ev {l : List S123} (p : Int) (hc : Chk (-1) l) : Ev (fun k => span_after.f k l p) (cnt l p : Int) :=
  Ev.bind (bs_ev l p hc l.length 0 l.length (by omega) (by omega) (cnt_le l p) (Nat.le_refl _)) (Ev.now _)
theorem has_ev {l : List S123} (p : Int) (hc : Chk (-1) l) : Ev (fun k => span_Has.f k l p) (mem l p) := by
  refine Ev.bind (after_ev p hc) ?_
  rw [← has_mem hc, cnt_has]
  by_cases h : cnt l p < l.length
  · rw [if_pos h]
    exact Ev.pos (by omega) (Ev.pos (by omega) (Ev.const (by rw [rd_nat])))
  · rw [if_neg h]
    exact Ev.neg (by omega) (Ev.now _)
theorem next_ev {l : List S123} (p : Int) (hc : Chk (-1) l) : Ev (fun k => span_next.f k l p) (nextR l p) := by
  have hle := cnt_le l p
  refine Ev.bind (after_ev p hc) ?_
  rw [cnt_next]
  by_cases h : cnt l p < l.length
  · rw [if_pos h]
    refine Ev.neg (by omega) (Ev.pos (by omega) (Ev.pos (by omega) ?_))
    rw [rd_nat]
    by_cases h2 : (l.getD (cnt l p) z123).f0 > p
    · exact Ev.eq (Ev.pos h2 (Ev.now _)) (if_pos h2).symm
    · exact Ev.eq (Ev.neg h2 (Ev.now _)) (if_neg h2).symm
  · rw [if_neg h]
    exact Ev.pos (by omega) (Ev.now _)
theorem mn_min (a b : Int) : mn a b = min a b := by unfold mn; omega
theorem mx_max (a b : Int) : mx a b = max a b := by unfold mx; omega
theorem add_f {l : List S123} (s : S123) (hl : l.length < 8796093022208) : span_add.f l s.f0 s.f1 = some (addR l s) := by
  unfold span_add.f
  rw [wrap_of (by omega) (by omega)]
  rcases snoc_cases l with rfl | ⟨i, x, rfl⟩
  · rw [if_neg (by simp), if_pos hl]; rfl
  · have hlen : ((i ++ [x]).length : Int) - 1 = (i.length : Int) := by simp
    have hrd : rd_T123 (i ++ [x]) (i.length : Int) = x := by rw [rd_nat]; simp
    rw [hlen, hrd, if_pos (by omega), if_pos (by omega), if_pos (by rw [List.length_append]; simp only [List.length_singleton]; omega), addR_snoc]
    split
    · rw [mx_max, Int.toNat_natCast]; simp
    · first | rw [if_pos hl] | rfl
def KMeet : Bool → Bool → Bool := fun x y => x && y
theorem told_Meet (x y : Bool) : span_Meet_1.f x y = some (KMeet x y) := by cases x <;> cases y <;> rfl
theorem kept_Meet_ev {a b : List S123} (ha : Chk (-1) a) (hb : Chk (-1) b) : ∀ (d : Nat) (out : List S123) (at_ : Int), (1000000000 - at_).toNat ≤ d → 0 ≤ at_ → KInv KMeet a b out at_ →
    ∃ r, Ev (fun k => span_kept_span_Meet_1.l0 k a b out at_) r ∧ IsKept KMeet a b r := by
  intro d
  induction d with
  | zero =>
    intro out at_ hd h0 hi
    exact ⟨out, Ev.step (fun k => by rw [span_kept_span_Meet_1.l0]) (Ev.neg (by omega) (Ev.now _)), hi.done (by omega)⟩
  | succ d ih =>
    intro out at_ hd h0 hi
    by_cases hlt : at_ < 1000000000
    · have na := next_gt ha hlt
      have nb := next_gt hb hlt
      have hs := hi.step ha hb h0 hlt
      have hlen : out.length < 8796093022208 := by have := chk_len hi.upto.chk; omega
      obtain ⟨r, hr, hk⟩ := ih _ _ (by omega) (by omega) hs
      refine ⟨r, Ev.step (fun k => by rw [span_kept_span_Meet_1.l0]) (Ev.pos hlt (Ev.bind (next_ev at_ ha) (Ev.bind (next_ev at_ hb) (Ev.bind (has_ev at_ ha) (Ev.bind (has_ev at_ hb) (Ev.bindc (told_Meet _ _) ?_)))))), hk⟩
      simp only [mn_min]
      by_cases hc : KMeet (mem a at_) (mem b at_) = true
      · rw [if_pos hc] at hr
        exact Ev.pos hc (Ev.bindc (add_f ⟨at_, min (nextR a at_) (nextR b at_)⟩ hlen) hr)
      · rw [if_neg hc] at hr
        exact Ev.neg hc hr
    · exact ⟨out, Ev.step (fun k => by rw [span_kept_span_Meet_1.l0]) (Ev.neg hlt (Ev.now _)), hi.done hlt⟩
def KNot : Bool → Bool → Bool := fun x y => !x
theorem told_Not (x y : Bool) : span_Not_1.f x y = some (KNot x y) := by cases x <;> cases y <;> rfl
theorem kept_Not_ev {a b : List S123} (ha : Chk (-1) a) (hb : Chk (-1) b) : ∀ (d : Nat) (out : List S123) (at_ : Int), (1000000000 - at_).toNat ≤ d → 0 ≤ at_ → KInv KNot a b out at_ →
    ∃ r, Ev (fun k => span_kept_span_Not_1.l0 k a b out at_) r ∧ IsKept KNot a b r := by
  intro d
  induction d with
  | zero =>
    intro out at_ hd h0 hi
    exact ⟨out, Ev.step (fun k => by rw [span_kept_span_Not_1.l0]) (Ev.neg (by omega) (Ev.now _)), hi.done (by omega)⟩
  | succ d ih =>
    intro out at_ hd h0 hi
    by_cases hlt : at_ < 1000000000
    · have na := next_gt ha hlt
      have nb := next_gt hb hlt
      have hs := hi.step ha hb h0 hlt
      have hlen : out.length < 8796093022208 := by have := chk_len hi.upto.chk; omega
      obtain ⟨r, hr, hk⟩ := ih _ _ (by omega) (by omega) hs
      refine ⟨r, Ev.step (fun k => by rw [span_kept_span_Not_1.l0]) (Ev.pos hlt (Ev.bind (next_ev at_ ha) (Ev.bind (next_ev at_ hb) (Ev.bind (has_ev at_ ha) (Ev.bind (has_ev at_ hb) (Ev.bindc (told_Not _ _) ?_)))))), hk⟩
      simp only [mn_min]
      by_cases hc : KNot (mem a at_) (mem b at_) = true
      · rw [if_pos hc] at hr
        exact Ev.pos hc (Ev.bindc (add_f ⟨at_, min (nextR a at_) (nextR b at_)⟩ hlen) hr)
      · rw [if_neg hc] at hr
        exact Ev.neg hc hr
    · exact ⟨out, Ev.step (fun k => by rw [span_kept_span_Not_1.l0]) (Ev.neg hlt (Ev.now _)), hi.done hlt⟩
theorem meet_ev {a b : List S123} (ha : Chk (-1) a) (hb : Chk (-1) b) : ∃ r, Ev (fun k => span_Meet.f k a b) r ∧ IsKept KMeet a b r := by
  obtain ⟨r, hr, hk⟩ := kept_Meet_ev ha hb _ [] 0 (Nat.le_refl _) (Int.le_refl _) (KInv.start _ _ _)
  exact ⟨r, Ev.bind hr (Ev.now _), hk⟩
theorem not_ev {a : List S123} (ha : Chk (-1) a) : ∃ r, Ev (fun k => span_Not.f k a) r ∧ IsKept KNot a [] r := by
  obtain ⟨r, hr, hk⟩ := kept_Not_ev ha (b := []) trivial _ [] 0 (Nat.le_refl _) (Int.le_refl _) (KInv.start _ _ _)
  exact ⟨r, Ev.bind hr (Ev.now _), hk⟩
theorem check_ev (l : List S123) (hl : (l.length : Int) ≤ 9223372036854775807) : Ev (fun k => span_Check.f k l) (chkB (-1) l) := by
  suffices h : ∀ d i : Nat, l.length - i = d → i ≤ l.length → ∀ e, Ev (fun k => span_Check.l0 k e l (l.length : Int) i) (chkB e (l.drop i)) from h l.length 0 rfl (by omega) _
  intro d
  induction d with
  | zero =>
    intro i hd hi e
    rw [List.drop_eq_nil_of_le (by omega)]
    exact Ev.step (fun k => by rw [span_Check.l0]) (Ev.neg (by omega) (Ev.const (o := some true) rfl))
  | succ d ih =>
    intro i hd hi e
    rw [drop_cons l i (by omega)]
    have ih' := ih (i + 1) (by omega) (by omega) (rd_T123 l i).f1
    refine Ev.step (fun k => by rw [span_Check.l0]) (Ev.pos (by omega) (Ev.pos (by omega) (Ev.pos (by omega) ?_)))
    simp only [chkB]
    by_cases h1 : (rd_T123 l i).f0 ≤ e
    · exact Ev.pos h1 (Ev.const (by rw [decide_eq_false (by omega)]; rfl))
    · refine Ev.neg h1 ?_
      rw [decide_eq_true (p := e < _) (by omega), Bool.true_and]
      by_cases h2 : (rd_T123 l i).f0 ≥ (rd_T123 l i).f1
      · exact Ev.pos h2 (Ev.const (by rw [decide_eq_false (by omega)]; rfl))
      · refine Ev.neg h2 ?_
        rw [decide_eq_true (p := _ < (rd_T123 l i).f1) (by omega), Bool.true_and]
        by_cases h3 : (rd_T123 l i).f1 > 1000000000
        · exact Ev.pos h3 (Ev.const (by rw [decide_eq_false (by omega)]; rfl))
        · refine Ev.neg h3 ?_
          rw [decide_eq_true (by omega), Bool.true_and, wrap_of (by omega) (by omega)]
          exact ih'
/-! The set of any spans. -/
structure IsSet (f : Int → Bool) (r : List S123) : Prop where
  chk : Chk (-1) r
  mem_ : ∀ p, mem r p = (decide (0 ≤ p) && decide (p < 1000000000) && f p)
theorem IsKept.set {K : Bool → Bool → Bool} {a b r : List S123} (h : IsKept K a b r) : IsSet (fun p => K (mem a p) (mem b p)) r := ⟨h.chk, h.mem_⟩
theorem IsSet.unique {f : Int → Bool} {r r' : List S123} (h : IsSet f r) (h' : IsSet f r') : r = r' := h.chk.canon h'.chk fun p => by rw [h.mem_, h'.mem_]
theorem IsSet.congr {f g : Int → Bool} {r : List S123} (h : IsSet f r) (hfg : ∀ p, 0 ≤ p → p < 1000000000 → f p = g p) : IsSet g r := ⟨h.chk, fun p => by
  rw [h.mem_]
  by_cases h0 : 0 ≤ p
  · by_cases h1 : p < 1000000000
    · rw [hfg p h0 h1]
    · simp [h1]
  · simp [h0]⟩
theorem IsSet.self {a : List S123} (h : Chk (-1) a) : IsSet (mem a) a := ⟨h, fun p => by
  by_cases h0 : 0 ≤ p
  · by_cases h1 : p < 1000000000
    · simp [h0, h1]
    · rw [mem_high h (by omega)]; simp
  · rw [mem_low h (by omega)]; simp⟩
def clampS (s : S123) : S123 := ⟨max s.f0 0, min s.f1 1000000000⟩
def heldR : List S123 → List S123
  | [] => []
  | s :: t => if (clampS s).f0 < (clampS s).f1 then clampS s :: heldR t else heldR t
theorem heldR_mem (l : List S123) (p : Int) : mem (heldR l) p = (decide (0 ≤ p) && decide (p < 1000000000) && mem l p) := by
  induction l with
  | nil => simp [heldR, mem_nil]
  | cons s t ih =>
    simp only [heldR]
    split
    · rename_i hn
      have e1 : (decide ((clampS s).f0 ≤ p) && decide (p < (clampS s).f1)) = true ↔ (max s.f0 0 ≤ p ∧ p < min s.f1 1000000000) := by
        rw [Bool.and_eq_true, decide_eq_true_eq, decide_eq_true_eq]; rfl
      rw [mem_cons, ih, mem_cons, Bool.eq_iff_iff, Bool.or_eq_true, e1]
      simp only [Bool.or_eq_true, Bool.and_eq_true, decide_eq_true_eq]
      constructor
      · rintro (h | h)
        · exact ⟨⟨by omega, by omega⟩, .inl ⟨by omega, by omega⟩⟩
        · exact ⟨h.1, .inr h.2⟩
      · rintro ⟨h, h1 | h2⟩
        · exact .inl ⟨by omega, by omega⟩
        · exact .inr ⟨h, h2⟩
    · rename_i hn
      rw [ih, mem_cons, Bool.eq_iff_iff]
      simp only [clampS] at hn
      simp only [Bool.or_eq_true, Bool.and_eq_true, decide_eq_true_eq]
      constructor
      · rintro ⟨h, h1⟩
        exact ⟨h, .inr h1⟩
      · rintro ⟨h, h1 | h2⟩
        · omega
        · exact ⟨h, h2⟩
def Fit1 (s : S123) : Prop := 0 ≤ s.f0 ∧ s.f0 < s.f1 ∧ s.f1 ≤ 1000000000
theorem heldR_fit (l : List S123) : ∀ s, s ∈ heldR l → Fit1 s := by
  induction l with
  | nil => intro s h; simp [heldR] at h
  | cons a t ih =>
    intro s h
    simp only [heldR] at h
    split at h
    · rename_i hl
      rcases List.mem_cons.1 h with rfl | h
      · unfold Fit1
        simp only [clampS] at hl ⊢
        omega
      · exact ih s h
    · exact ih s h
theorem heldR_len (l : List S123) : (heldR l).length ≤ l.length := by
  induction l with
  | nil => exact Nat.le_refl _
  | cons a t ih => simp only [heldR]; split <;> simp only [List.length_cons] <;> omega
def addAll : List S123 → List S123 → List S123
  | out, [] => out
  | out, s :: t => addAll (addR out s) t
theorem addAll_set : ∀ (l out : List S123) (a : Int), Upto out a → (∀ s, s ∈ l → a ≤ s.f0) → l.Pairwise (fun x y => x.f0 ≤ y.f0) → (∀ s, s ∈ l → Fit1 s) →
    Chk (-1) (addAll out l) ∧ ∀ p, mem (addAll out l) p = (mem out p || mem l p)
  | [], out, a, hu, _, _, _ => ⟨hu.chk, fun p => by simp [addAll, mem_nil]⟩
  | s :: t, out, a, hu, ha, hp, hf => by
    have hs := hf s (by simp)
    have hu' : Upto out s.f0 := hu.mono (ha s (by simp))
    obtain ⟨h1, h2⟩ := addAll_set t (addR out s) s.f0 (addR_upto hu' hs.1 hs.2.1 hs.2.2) (fun x hx => List.rel_of_pairwise_cons hp hx) (List.Pairwise.of_cons hp) (fun x hx => hf x (by simp [hx]))
    exact ⟨h1, fun p => by rw [addAll, h2, addR_mem hu', mem_cons, Bool.or_assoc]⟩
theorem lt_swo : Go.Sort.SWO slices_SortFunc_api_Span_span_Of_1.lt where
  irrefl x := by simp [slices_SortFunc_api_Span_span_Of_1.lt]
  trans x y z h1 h2 := by simp [slices_SortFunc_api_Span_span_Of_1.lt] at *; omega
  ntrans x y z h1 h2 := by simp [slices_SortFunc_api_Span_span_Of_1.lt] at *; omega
theorem sort_f (l : List S123) (hl : l.length < 4611686018427387904) : ∃ r, slices_SortFunc_api_Span_span_Of_1.f l = some r ∧ r.Perm l ∧ r.Pairwise (fun x y => x.f0 ≤ y.f0) := by
  letI : Inhabited S123 := ⟨z123⟩
  have hs := Go.Sort.pdq_sorts slices_SortFunc_api_Span_span_Of_1.lt lt_swo l.toArray 0 l.toArray.size (Go.Lib.bitLen l.length) true true (Nat.zero_le _) (Nat.le_refl _) (Or.inl rfl)
  obtain ⟨⟨h1, _, h2⟩, h3⟩ := hs
  have hsz : l.toArray.size = l.length := by simp
  rw [hsz] at h1 h2 h3
  refine ⟨_, if_pos hl, ?_, ?_⟩
  · generalize Go.Sort.pdq slices_SortFunc_api_Span_span_Of_1.lt l.toArray 0 l.length (Go.Lib.bitLen l.length) true true = A at h1 h2 h3 ⊢
    rw [Array.extract_eq_self_of_le (by omega), Array.extract_eq_self_of_le (by simp)] at h2
    exact h2
  · generalize Go.Sort.pdq slices_SortFunc_api_Span_span_Of_1.lt l.toArray 0 l.length (Go.Lib.bitLen l.length) true true = A at h1 h2 h3 ⊢
    rw [List.pairwise_iff_getElem]
    intro i j hi hj hij
    simp only [Array.length_toList] at hi hj
    have := h3 i j (Nat.zero_le _) hij (by omega)
    rw [getElem!_pos A j hj, getElem!_pos A i hi] at this
    simp [slices_SortFunc_api_Span_span_Of_1.lt] at this
    simpa using this
theorem of1_ev (L : List S123) (hL : (L.length : Int) ≤ 1000000000000) (hp : L.Pairwise (fun x y => x.f0 ≤ y.f0)) (hf : ∀ s, s ∈ L → Fit1 s) : Ev (fun k => span_Of.l1 k [] L (L.length : Int) 0) (addAll [] L) := by
  suffices h : ∀ d i : Nat, L.length - i = d → i ≤ L.length → ∀ out : List S123, out.length ≤ i → Ev (fun k => span_Of.l1 k out L (L.length : Int) i) (addAll out (L.drop i)) from h L.length 0 rfl (by omega) [] (Nat.le_refl _)
  intro d
  induction d with
  | zero =>
    intro i hd hi out ho
    rw [List.drop_eq_nil_of_le (by omega)]
    exact Ev.step (fun k => by rw [span_Of.l1]) (Ev.neg (by omega) (Ev.const (o := some out) rfl))
  | succ d ih =>
    intro i hd hi out ho
    rw [drop_cons L i (by omega)]
    have hlen : (addR out (rd_T123 L i)).length ≤ i + 1 := by
      rcases snoc_cases out with rfl | ⟨o, x, rfl⟩
      · simp [addR]
      · rw [addR_snoc]; split <;> simp at ho ⊢ <;> omega
    have ih' := ih (i + 1) (by omega) (by omega) (addR out (rd_T123 L i)) hlen
    refine Ev.step (fun k => by rw [span_Of.l1]) (Ev.pos (by omega) (Ev.pos (by omega) (Ev.pos (by omega) (Ev.bindc (add_f _ (by omega)) ?_))))
    rw [wrap_of (by omega) (by omega)]
    exact ih'
theorem of_ev (l : List S123) (hl : (l.length : Int) ≤ 1000000000000) : ∃ r, Ev (fun k => span_Of.f k l) r ∧ IsSet (mem l) r := by
  obtain ⟨L, hL, hperm, hpair⟩ := sort_f (heldR l) (by have := heldR_len l; omega)
  have hfit : ∀ s, s ∈ L → Fit1 s := fun s hs => heldR_fit l s (hperm.mem_iff.1 hs)
  have hlen : (L.length : Int) ≤ 1000000000000 := by rw [hperm.length_eq]; have := heldR_len l; omega
  obtain ⟨hc, hm⟩ := addAll_set L [] 0 (Upto.nil 0) (fun s hs => (hfit s hs).1) hpair hfit
  refine ⟨addAll [] L, ?_, hc, fun p => by rw [hm, mem_nil, Bool.false_or, mem_perm hperm, heldR_mem]⟩
  suffices h : ∀ d i : Nat, l.length - i = d → i ≤ l.length → ∀ out : List S123, out.length ≤ i → out ++ heldR (l.drop i) = heldR l → Ev (fun k => span_Of.l0 k out l (l.length : Int) i) (addAll [] L) from h l.length 0 rfl (by omega) [] (Nat.le_refl _) rfl
  intro d
  induction d with
  | zero =>
    intro i hd hi out ho he
    rw [List.drop_eq_nil_of_le (by omega), heldR, List.append_nil] at he
    subst he
    refine Ev.step (fun k => by rw [span_Of.l0]) (Ev.neg (by omega) (Ev.bindc hL ?_))
    rw [← hperm.length_eq]
    exact of1_ev L hlen hpair hfit
  | succ d ih =>
    intro i hd hi out ho he
    rw [drop_cons l i (by omega)] at he
    refine Ev.step (fun k => by rw [span_Of.l0]) (Ev.pos (by omega) (Ev.pos (by omega) (Ev.pos (by omega) ?_)))
    rw [mx_max, mn_min, wrap_of (x := (i : Int) + 1) (by omega) (by omega)]
    simp only [heldR] at he
    by_cases hc : (clampS (rd_T123 l i)).f0 < (clampS (rd_T123 l i)).f1
    · rw [if_pos hc] at he
      refine Ev.pos hc (Ev.pos (by omega) ?_)
      exact ih (i + 1) (by omega) (by omega) _ (by simp; omega) (by rw [← he]; simp [clampS])
    · rw [if_neg hc] at he
      exact Ev.neg hc (ih (i + 1) (by omega) (by omega) out (by omega) he)
theorem awake_ev : Ev (fun k => compradorlaw06_awake.f k) true := by
  obtain ⟨r, hr, hs⟩ := of_ev [⟨5, 9⟩, ⟨1, 5⟩] (by simp)
  obtain rfl : r = [⟨1, 9⟩] := hs.unique ⟨by simp [Chk], fun p => by
    rw [Bool.eq_iff_iff]; simp [mem]; omega⟩
  have c9 : Chk (-1) [(⟨1, 9⟩ : S123)] := by simp [Chk]
  have c12 : Chk (-1) [(⟨8, 12⟩ : S123)] := by simp [Chk]
  obtain ⟨n, hn, ns⟩ := not_ev c9
  obtain rfl : n = [⟨0, 1⟩, ⟨9, 1000000000⟩] := ns.set.unique ⟨by simp [Chk], fun p => by
    rw [Bool.eq_iff_iff]; simp [mem, KNot]; omega⟩
  obtain ⟨m, hm, ms⟩ := meet_ev c9 c12
  obtain rfl : m = [⟨8, 9⟩] := ms.set.unique ⟨by simp [Chk], fun p => by
    rw [Bool.eq_iff_iff]; simp [mem, KMeet]; omega⟩
  exact Ev.bind hr (Ev.bind hn (Ev.bind hm (Ev.const (by decide))))
/-! The set of one place. -/
theorem one_f (p : Int) (h0 : -9223372036854775808 ≤ p) : span_One.f p = some (if 0 ≤ p ∧ p < 1000000000 then [⟨p, p + 1⟩] else []) := by
  unfold span_One.f
  by_cases h : p < 0
  · rw [if_pos h, if_neg (by omega)]
  · by_cases h2 : p ≥ 1000000000
    · rw [if_neg h, if_pos h2, if_neg (by omega)]
    · rw [if_neg h, if_neg h2, if_pos (by omega), wrap_of (by omega) (by omega)]
/-! Lists that are alike. -/
def sameB : List S123 → List S123 → Bool
  | [], [] => true
  | s :: t, s' :: t' => s.f0 == s'.f0 && s.f1 == s'.f1 && sameB t t'
  | _, _ => false
theorem sameB_iff : ∀ a b : List S123, sameB a b = true ↔ a = b
  | [], [] => by simp [sameB]
  | [], s' :: t' => by simp [sameB]
  | s :: t, [] => by simp [sameB]
  | s :: t, s' :: t' => by
    simp only [sameB, Bool.and_eq_true, beq_iff_eq, sameB_iff t t', List.cons.injEq]
    constructor
    · rintro ⟨⟨h1, h2⟩, h3⟩; exact ⟨S123_ext h1 h2, h3⟩
    · rintro ⟨rfl, h⟩; exact ⟨⟨rfl, rfl⟩, h⟩
theorem sameB_refl (a : List S123) : sameB a a = true := (sameB_iff a a).2 rfl
theorem sameB_len {a b : List S123} (h : a.length ≠ b.length) : sameB a b = false := by
  cases hs : sameB a b with
  | false => rfl
  | true => exact absurd (congrArg List.length ((sameB_iff a b).1 hs)) h
theorem equal_ev (a b : List S123) (hl : (a.length : Int) ≤ 9223372036854775807) : Ev (fun k => slices_Equal_api_Span.f k a b) (sameB a b) := by
  refine Ev.congr (fun k => by rw [slices_Equal_api_Span.f]) ?_
  by_cases hne : (a.length : Int) = b.length
  · refine Ev.pos hne ?_
    suffices h : ∀ d i : Nat, a.length - i = d → i ≤ a.length → Ev (fun k => slices_Equal_api_Span.l0 k a b (a.length : Int) i) (sameB (a.drop i) (b.drop i)) from h a.length 0 rfl (by omega)
    intro d
    induction d with
    | zero =>
      intro i hd hi
      rw [List.drop_eq_nil_of_le (by omega), List.drop_eq_nil_of_le (by omega)]
      exact Ev.step (fun k => by rw [slices_Equal_api_Span.l0]) (Ev.neg (by omega) (Ev.const (o := some true) rfl))
    | succ d ih =>
      intro i hd hi
      rw [drop_cons a i (by omega), drop_cons b i (by omega)]
      refine Ev.step (fun k => by rw [slices_Equal_api_Span.l0]) (Ev.pos (by omega) (Ev.pos (by omega) (Ev.pos (by omega) (Ev.pos (by omega) ?_))))
      simp only [sameB]
      cases h0 : ((rd_T123 a i).f0 == (rd_T123 b i).f0) <;> cases h1 : ((rd_T123 a i).f1 == (rd_T123 b i).f1)
      · exact Ev.pos rfl (Ev.const rfl)
      · exact Ev.pos rfl (Ev.const rfl)
      · exact Ev.pos rfl (Ev.const rfl)
      · refine Ev.neg (by decide) ?_
        rw [wrap_of (by omega) (by omega)]
        exact Ev.eq (ih (i + 1) (by omega) (by omega)) (by simp)
  · exact Ev.neg hne (Ev.const (by rw [sameB_len (by omega)]))
theorem same_ev (a b : List S123) (hl : (a.length : Int) ≤ 9223372036854775807) : Ev (fun k => span_Same.f k a b) (sameB a b) := Ev.bind (equal_ev a b hl) (Ev.now _)
/-! What the document's own answers for spans tell. -/
theorem rsame_ev (a b : List S123) (hl : (a.length : Int) ≤ 9223372036854775807) : Ev (fun k => compradorref06_Same.f k a b) (sameB a b) := by
  refine Ev.congr (fun k => by rw [compradorref06_Same.f]) ?_
  by_cases hne : (a.length : Int) = b.length
  · refine Ev.pos hne ?_
    suffices h : ∀ d i : Nat, a.length - i = d → i ≤ a.length → Ev (fun k => compradorref06_Same.l0 k a b i) (sameB (a.drop i) (b.drop i)) from h a.length 0 rfl (by omega)
    intro d
    induction d with
    | zero =>
      intro i hd hi
      rw [List.drop_eq_nil_of_le (by omega), List.drop_eq_nil_of_le (by omega)]
      exact Ev.step (fun k => by rw [compradorref06_Same.l0]) (Ev.neg (by omega) (Ev.const (o := some true) rfl))
    | succ d ih =>
      intro i hd hi
      rw [drop_cons a i (by omega), drop_cons b i (by omega)]
      refine Ev.step (fun k => by rw [compradorref06_Same.l0]) (Ev.pos (by omega) (Ev.pos (by omega) (Ev.pos (by omega) ?_)))
      simp only [sameB]
      cases h0 : ((rd_T123 a i).f0 == (rd_T123 b i).f0) <;> cases h1 : ((rd_T123 a i).f1 == (rd_T123 b i).f1)
      · exact Ev.pos rfl (Ev.const rfl)
      · exact Ev.pos rfl (Ev.const rfl)
      · exact Ev.pos rfl (Ev.const rfl)
      · refine Ev.neg (by decide) ?_
        rw [wrap_of (by omega) (by omega)]
        exact Ev.eq (ih (i + 1) (by omega) (by omega)) (by simp)
  · exact Ev.neg hne (Ev.const (by rw [sameB_len (by omega)]))
theorem rcheck_ev (l : List S123) (hl : (l.length : Int) ≤ 9223372036854775807) : Ev (fun k => compradorref06_Check.f k l) (chkB (-1) l) := by
  suffices h : ∀ d i : Nat, l.length - i = d → i ≤ l.length → ∀ e, (i = 0 → e = -1) → (0 < i → e = (rd_T123 l ((i : Int) - 1)).f1 ∧ 0 ≤ e) → Ev (fun k => compradorref06_Check.l0 k l i) (chkB e (l.drop i)) from h l.length 0 rfl (by omega) _ (fun _ => rfl) (fun h => by omega)
  intro d
  induction d with
  | zero =>
    intro i hd hi e _ _
    rw [List.drop_eq_nil_of_le (by omega)]
    exact Ev.step (fun k => by rw [compradorref06_Check.l0]) (Ev.neg (by omega) (Ev.const (o := some true) rfl))
  | succ d ih =>
    intro i hd hi e he0 he1
    rw [drop_cons l i (by omega)]
    refine Ev.step (fun k => by rw [compradorref06_Check.l0]) (Ev.pos (by omega) (Ev.pos (by omega) ?_))
    simp only [chkB]
    have hlow : -1 ≤ e := by
      rcases Nat.eq_zero_or_pos i with h | h
      · rw [he0 h]; omega
      · have := (he1 h).2; omega
    by_cases h1 : (rd_T123 l i).f0 < 0
    · exact Ev.pos h1 (Ev.const (by rw [decide_eq_false (p := e < _) (by omega)]; rfl))
    · refine Ev.neg h1 ?_
      by_cases h3 : (rd_T123 l i).f1 > 1000000000
      · exact Ev.pos h3 (Ev.const (by rw [decide_eq_false (p := _ ≤ 1000000000) (by omega)]; simp))
      · refine Ev.neg h3 ?_
        rw [decide_eq_true (p := _ ≤ 1000000000) (by omega), Bool.and_true]
        by_cases h2 : (rd_T123 l i).f0 ≥ (rd_T123 l i).f1
        · exact Ev.pos h2 (Ev.const (by rw [decide_eq_false (p := _ < (rd_T123 l i).f1) (by omega)]; simp))
        · refine Ev.neg h2 ?_
          rw [decide_eq_true (p := _ < (rd_T123 l i).f1) (by omega), Bool.and_true]
          have ih' := ih (i + 1) (by omega) (by omega) (rd_T123 l i).f1 (fun h => by omega) (fun _ => ⟨by congr 2; omega, by omega⟩)
          rcases Nat.eq_zero_or_pos i with h | h
          · subst h
            refine Ev.neg (by omega) ?_
            rw [he0 rfl, decide_eq_true (p := -1 < _) (by omega), Bool.true_and, wrap_of (by omega) (by omega)]
            exact ih'
          · refine Ev.pos (by omega) ?_
            rw [wrap_of (x := (i : Int) - 1) (by omega) (by omega), ← (he1 h).1, wrap_of (x := (i : Int) + 1) (by omega) (by omega)]
            refine Ev.pos (by omega) (Ev.pos (by omega) ?_)
            by_cases h5 : (rd_T123 l i).f0 ≤ e
            · exact Ev.pos h5 (Ev.const (by rw [decide_eq_false (p := e < _) (by omega)]; rfl))
            · refine Ev.neg h5 ?_
              rw [decide_eq_true (p := e < _) (by omega), Bool.true_and]
              exact ih'
theorem rhas_ev (l : List S123) (p : Int) (hl : (l.length : Int) ≤ 4611686018427387904) : Ev (fun k => compradorref06_Has.f k l p) (decide (0 ≤ p) && decide (p < 1000000000) && mem l p) := by
  suffices h : ∀ d i : Nat, l.length - i = d → i ≤ l.length → Ev (fun k => compradorref06_Has.l0 k l p i) (decide (0 ≤ p) && decide (p < 1000000000) && mem (l.drop i) p) from h l.length 0 rfl (by omega)
  intro d
  induction d with
  | zero =>
    intro i hd hi
    rw [List.drop_eq_nil_of_le (by omega), mem_nil, Bool.and_false]
    exact Ev.step (fun k => by rw [compradorref06_Has.l0]) (Ev.neg (by omega) (Ev.now _))
  | succ d ih =>
    intro i hd hi
    rw [drop_cons l i (by omega), mem_cons]
    have ih' := ih (i + 1) (by omega) (by omega)
    refine Ev.step (fun k => by rw [compradorref06_Has.l0]) (Ev.pos (by omega) (Ev.pos (by omega) ?_))
    rw [wrap_of (by omega) (by omega)]
    by_cases h1 : (rd_T123 l i).f0 ≤ p
    · refine Ev.pos h1 ?_
      by_cases h2 : p < (rd_T123 l i).f1
      · refine Ev.pos h2 ?_
        rw [decide_eq_true h1, decide_eq_true h2, Bool.true_and, Bool.true_or, Bool.and_true]
        by_cases h3 : p ≥ 0
        · exact Ev.pos h3 (Ev.const (by rw [decide_eq_true (p := 0 ≤ p) h3, Bool.true_and]))
        · exact Ev.neg h3 (Ev.const (by rw [decide_eq_false (p := 0 ≤ p) (by omega), Bool.false_and]))
      · exact Ev.neg h2 (Ev.eq ih' (by rw [decide_eq_false h2, Bool.and_false, Bool.false_or]))
    · exact Ev.neg h1 (Ev.eq ih' (by rw [decide_eq_false h1, Bool.false_and, Bool.false_or]))
def insR (p : Int) : List Int → List Int
  | [] => [p]
  | x :: t => if p ≤ x then (if p = x then x :: t else p :: x :: t) else x :: insR p t
def cl (p : Int) : Int := min (max p 0) 1000000000
theorem insR_len (p : Int) (l : List Int) : (insR p l).length ≤ l.length + 1 := by
  induction l with
  | nil => simp [insR]
  | cons x t ih => simp only [insR]; split <;> (try split) <;> simp only [List.length_cons] <;> omega
theorem insR_mem (p : Int) (l : List Int) (x : Int) : x ∈ insR p l ↔ x = p ∨ x ∈ l := by
  induction l with
  | nil => simp [insR]
  | cons y t ih =>
    simp only [insR]
    split
    · split
      · rename_i h; subst h; simp
      · simp
    · simp only [List.mem_cons, ih]
      constructor
      · rintro (h | h | h) <;> simp [h]
      · rintro (h | h | h) <;> simp [h]
theorem insR_sorted (p : Int) (l : List Int) (h : l.Pairwise (· < ·)) : (insR p l).Pairwise (· < ·) := by
  induction l with
  | nil => simp [insR]
  | cons y t ih =>
    have h1 : ∀ x, x ∈ t → y < x := fun x hx => List.rel_of_pairwise_cons h hx
    have h2 := List.Pairwise.of_cons h
    simp only [insR]
    split
    · split
      · exact h
      · refine List.pairwise_cons.2 ⟨fun x hx => ?_, h⟩
        rcases List.mem_cons.1 hx with rfl | hx
        · omega
        · have := h1 x hx; omega
    · refine List.pairwise_cons.2 ⟨fun x hx => ?_, ih h2⟩
      rcases (insR_mem p t x).1 hx with rfl | hx
      · omega
      · exact h1 x hx
theorem rdI_nat (l : List Int) (i : Nat) : rd l (i : Int) = l.getD i 0 := by unfold rd; rw [Int.toNat_natCast]
theorem dropI_cons (l : List Int) (i : Nat) (h : i < l.length) : l.drop i = rd l (i : Int) :: l.drop (i + 1) := by
  rw [rdI_nat, List.drop_eq_getElem_cons h, List.getD_eq_getElem?_getD, List.getElem?_eq_getElem h]; rfl
theorem put_ev (l : List Int) (p : Int) (hl : l.length ≤ 1000000000000) : Ev (fun k => compradorref06_put.f k l p) (insR (cl p) l) := by
  refine Ev.congr (fun k => by rw [compradorref06_put.f, mn_min, mx_max]) ?_
  show Ev (fun k => compradorref06_put.l0 k l (cl p) [] false 0) _
  generalize cl p = q
  suffices h : ∀ d i : Nat, l.length - i = d → i ≤ l.length → ∀ (out : List Int) (b : Bool), out.length ≤ i + (if b then 1 else 0) → Ev (fun k => compradorref06_put.l0 k l q out b i) (out ++ if b then l.drop i else insR q (l.drop i)) from h l.length 0 rfl (by omega) [] false (by simp)
  intro d
  induction d with
  | zero =>
    intro i hd hi out b ho
    rw [List.drop_eq_nil_of_le (by omega)]
    refine Ev.step (fun k => by rw [compradorref06_put.l0]) (Ev.neg (by omega) ?_)
    cases b with
    | true => exact Ev.pos rfl (Ev.const (by simp))
    | false =>
      simp only [Bool.false_eq_true, if_false, Nat.add_zero] at ho
      exact Ev.neg (by decide) (Ev.pos (by omega) (Ev.const (by simp [insR])))
  | succ d ih =>
    intro i hd hi out b ho
    rw [dropI_cons l i (by omega)]
    have w1 : wrap64 ((i : Int) + 1) = ((i + 1 : Nat) : Int) := by rw [wrap_of (by omega) (by omega)]; omega
    refine Ev.step (fun k => by rw [compradorref06_put.l0]) (Ev.pos (by omega) ?_)
    have plain : ∀ b', out.length ≤ i + (if b' then 1 else 0) → (b' = true ∨ ¬ q ≤ rd l i) → Ev (fun k => compradorref06_put.j1 k l q out b' i false) (out ++ if b' then rd l i :: l.drop (i + 1) else insR q (rd l i :: l.drop (i + 1)))   := fun b' ho hb => by
      refine Ev.step (fun k => by rw [compradorref06_put.j1]) (Ev.neg (by decide) (Ev.pos (by omega) (Ev.pos (by omega) ?_)))
      have hb1 : (if b' = true then 1 else 0 : Nat) ≤ 1 := by cases b' <;> decide
      have hlen : out.length < 17592186044416 := by omega
      · refine Ev.pos hlen ?_
        rw [w1]
        refine Ev.eq (ih (i + 1) (by omega) (by omega) _ b' (by rw [List.length_append, List.length_singleton]; omega)) ?_
        cases b' with
        | true => simp
        | false =>
          have hn : ¬ q ≤ rd l i := by rcases hb with h | h; cases h; exact h
          simp [insR, hn]
    cases b with
    | true => exact Ev.pos rfl (plain true ho (.inl rfl))
    | false =>
      refine Ev.neg (by decide) (Ev.pos (by omega) ?_)
      by_cases hq : q ≤ rd l i
      · rw [decide_eq_true hq]
        simp only [Bool.false_eq_true, if_false, Nat.add_zero] at ho
        refine Ev.step (fun k => by rw [compradorref06_put.j1]) (Ev.pos rfl ?_)
        refine Ev.pos (by omega) ?_
        refine Ev.bindc (g := some (out ++ [q])) (a := out ++ [q]) rfl ?_
        refine Ev.pos (by omega) ?_
        refine Ev.pos (by omega) ?_
        rw [w1]
        by_cases he : q = rd l i
        · refine Ev.pos he (Ev.eq (ih (i + 1) (by omega) (by omega) _ true (by simp; omega)) ?_)
          simp [insR, he]
        · refine Ev.neg he (Ev.pos (by simp; omega) ?_)
          refine Ev.eq (ih (i + 1) (by omega) (by omega) _ true (by simp; omega)) ?_
          simp [insR, hq, he]
      · rw [decide_eq_false hq]
        exact plain false ho (.inr hq)
def cutS (l : List Int) (s : S123) : List Int := insR (cl s.f1) (insR (cl s.f0) l)
def cutsR (a b : List S123) : List Int := b.foldl cutS (a.foldl cutS [0, 1000000000])
theorem cutS_len (l : List Int) (s : S123) : (cutS l s).length ≤ l.length + 2 := by
  have h1 := insR_len (cl s.f1) (insR (cl s.f0) l)
  have h2 := insR_len (cl s.f0) l
  unfold cutS; omega
theorem fold_len (a : List S123) : ∀ l, (a.foldl cutS l).length ≤ l.length + 2 * a.length := by
  induction a with
  | nil => intro l; simp
  | cons s t ih => intro l; have := ih (cutS l s); have := cutS_len l s; simp only [List.foldl_cons, List.length_cons]; omega
theorem cuts_ev (a b : List S123) (ha : a.length ≤ 100000) (hb : b.length ≤ 100000) : Ev (fun k => compradorref06_cuts.f k a b) (cutsR a b) := by
  have h1 : ∀ L : List Int, L.length ≤ 1000000 → Ev (fun k => compradorref06_cuts.l1 k b L 0) (b.foldl cutS L) := by
    intro L hL
    suffices h : ∀ d i : Nat, b.length - i = d → i ≤ b.length → ∀ l : List Int, l.length ≤ 1000000 + 2 * i → Ev (fun k => compradorref06_cuts.l1 k b l i) ((b.drop i).foldl cutS l) from h b.length 0 rfl (by omega) L (by omega)
    intro d
    induction d with
    | zero =>
      intro i hd hi l hl
      rw [List.drop_eq_nil_of_le (by omega)]
      exact Ev.step (fun k => by rw [compradorref06_cuts.l1]) (Ev.neg (by omega) (Ev.const (o := some l) rfl))
    | succ d ih =>
      intro i hd hi l hl
      rw [drop_cons b i (by omega)]
      have l1 := insR_len (cl (rd_T123 b i).f0) l
      have l2 := cutS_len l (rd_T123 b i)
      refine Ev.step (fun k => by rw [compradorref06_cuts.l1]) (Ev.pos (by omega) (Ev.pos (by omega) (Ev.bind (put_ev l _ (by omega)) (Ev.bind (put_ev (insR (cl (rd_T123 b i).f0) l) _ (by omega)) ?_))))
      rw [wrap_of (by omega) (by omega)]
      exact ih (i + 1) (by omega) (by omega) (cutS l (rd_T123 b i)) (by omega)
  suffices h : ∀ d i : Nat, a.length - i = d → i ≤ a.length → ∀ l : List Int, l.length ≤ 2 + 2 * i → Ev (fun k => compradorref06_cuts.l0 k a b l i) (b.foldl cutS ((a.drop i).foldl cutS l)) from h a.length 0 rfl (by omega) [0, 1000000000] (by simp)
  intro d
  induction d with
  | zero =>
    intro i hd hi l hl
    rw [List.drop_eq_nil_of_le (by omega)]
    exact Ev.step (fun k => by rw [compradorref06_cuts.l0]) (Ev.neg (by omega) (h1 l (by omega)))
  | succ d ih =>
    intro i hd hi l hl
    rw [drop_cons a i (by omega)]
    have l1 := insR_len (cl (rd_T123 a i).f0) l
    have l2 := cutS_len l (rd_T123 a i)
    refine Ev.step (fun k => by rw [compradorref06_cuts.l0]) (Ev.pos (by omega) (Ev.pos (by omega) (Ev.bind (put_ev l _ (by omega)) (Ev.bind (put_ev (insR (cl (rd_T123 a i).f0) l) _ (by omega)) ?_))))
    rw [wrap_of (by omega) (by omega)]
    exact ih (i + 1) (by omega) (by omega) (cutS l (rd_T123 a i)) (by omega)
/-- Places that rise, from 0 to the top. -/
structure Rise (L : List Int) : Prop where
  sorted : L.Pairwise (· < ·)
  zero : 0 ∈ L
  top : 1000000000 ∈ L
  inside : ∀ x, x ∈ L → 0 ≤ x ∧ x ≤ 1000000000
theorem Rise.cut {L : List Int} (h : Rise L) (s : S123) : Rise (cutS L s) ∧ (∀ x, x ∈ L → x ∈ cutS L s) ∧ cl s.f0 ∈ cutS L s ∧ cl s.f1 ∈ cutS L s := by
  refine ⟨⟨insR_sorted _ _ (insR_sorted _ _ h.sorted), ?_, ?_, fun x hx => ?_⟩, fun x hx => ?_, ?_, ?_⟩
  · simp [cutS, insR_mem, h.zero]
  · simp [cutS, insR_mem, h.top]
  · simp only [cutS, insR_mem] at hx
    rcases hx with rfl | rfl | hx
    · unfold cl; omega
    · unfold cl; omega
    · exact h.inside x hx
  · simp [cutS, insR_mem, hx]
  · simp [cutS, insR_mem]
  · simp [cutS, insR_mem]
theorem Rise.fold (a : List S123) : ∀ L, Rise L → Rise (a.foldl cutS L) ∧ (∀ x, x ∈ L → x ∈ a.foldl cutS L) ∧ ∀ s, s ∈ a → cl s.f0 ∈ a.foldl cutS L ∧ cl s.f1 ∈ a.foldl cutS L := by
  induction a with
  | nil => intro L h; exact ⟨h, fun x hx => hx, by simp⟩
  | cons s t ih =>
    intro L h
    obtain ⟨c1, c2, c3, c4⟩ := h.cut s
    obtain ⟨i1, i2, i3⟩ := ih (cutS L s) c1
    refine ⟨i1, fun x hx => i2 x (c2 x hx), fun x hx => ?_⟩
    rcases List.mem_cons.1 hx with rfl | hx
    · exact ⟨i2 _ c3, i2 _ c4⟩
    · exact i3 x hx
theorem cuts_rise (a b : List S123) : Rise (cutsR a b) ∧ (∀ s, s ∈ a → cl s.f0 ∈ cutsR a b ∧ cl s.f1 ∈ cutsR a b) ∧ ∀ s, s ∈ b → cl s.f0 ∈ cutsR a b ∧ cl s.f1 ∈ cutsR a b := by
  have h0 : Rise [0, 1000000000] := ⟨by simp, by simp, by simp, by simp⟩
  obtain ⟨a1, a2, a3⟩ := Rise.fold a _ h0
  obtain ⟨b1, b2, b3⟩ := Rise.fold b _ a1
  exact ⟨b1, fun s hs => ⟨b2 _ (a3 s hs).1, b2 _ (a3 s hs).2⟩, b3⟩
theorem mem_same (l : List S123) (x y : Int) (hxy : y ≤ x) (h : ∀ s, s ∈ l → ¬ (y < s.f0 ∧ s.f0 ≤ x) ∧ ¬ (y < s.f1 ∧ s.f1 ≤ x)) : mem l x = mem l y := by
  induction l with
  | nil => rfl
  | cons s t ih =>
    rw [mem_cons, mem_cons, ih fun s' hs => h s' (by simp [hs])]
    have := h s (by simp)
    congr 1
    rw [Bool.eq_iff_iff]
    simp only [Bool.and_eq_true, decide_eq_true_eq]
    omega
theorem KInv.stepTo {K : Bool → Bool → Bool} {a b out : List S123} {at_ to_ : Int} (h : KInv K a b out at_) (h0 : 0 ≤ at_) (hlt : at_ < to_) (hle : to_ ≤ 1000000000) (same : ∀ x, at_ ≤ x → x < to_ → K (mem a x) (mem b x) = K (mem a at_) (mem b at_)) :
    KInv K a b (if K (mem a at_) (mem b at_) = true then addR out ⟨at_, to_⟩ else out) to_ := by
  split
  · rename_i hk
    have hu : Upto out (S123.mk at_ to_).f0 := h.upto
    refine ⟨(addR_upto hu h0 hlt hle).mono (Int.le_of_lt hlt), fun x hx => ?_, fun x hx hy => ?_⟩
    · rw [addR_mem hu, h.none_ x (by omega)]; simp only [Bool.false_or]; rw [decide_eq_false (p := x < _) (by show ¬ x < to_; omega), Bool.and_false]
    · rw [addR_mem hu]
      by_cases hc : x < at_
      · rw [h.some_ x hx hc, decide_eq_false (p := _ ≤ x) (by show ¬ at_ ≤ x; omega), Bool.false_and, Bool.or_false]
      · rw [h.none_ x (by omega), same x (by omega) hy, hk, decide_eq_true (p := _ ≤ x) (by show at_ ≤ x; omega), decide_eq_true (p := x < _) (by show x < to_; exact hy)]; rfl
  · rename_i hk
    refine ⟨h.upto.mono (Int.le_of_lt hlt), fun x hx => h.none_ x (by omega), fun x hx hy => ?_⟩
    by_cases hc : x < at_
    · exact h.some_ x hx hc
    · rw [h.none_ x (by omega), same x (by omega) hy]; simpa using hk
theorem KInv.lastHi {K : Bool → Bool → Bool} {a b i : List S123} {x : S123} {at_ : Int} (h : KInv K a b (i ++ [x]) at_) : x.f1 ≤ at_ := by
  obtain ⟨c1, c2, c3, c4⟩ := Chk_snoc.1 h.upto.chk
  refine Int.not_lt.1 fun hlt => ?_
  have := h.none_ (x.f1 - 1) (by omega)
  rw [mem_append, mem_one, decide_eq_true (by omega), decide_eq_true (p := _ < x.f1) (by omega)] at this
  simp at this
def Kref (op : Int) : Bool → Bool → Bool := fun x y => if op = 0 then x || y else if op = 1 then x && y else !x
theorem rtold_f (op : Int) (x y : Bool) : compradorref06_told.f op x y = some (Kref op x y) := by
  unfold compradorref06_told.f Kref
  split
  · cases x <;> rfl
  · split
    · cases x <;> rfl
    · rfl
theorem gap_none {L : List Int} (hs : L.Pairwise (· < ·)) (i : Nat) (hi : i + 1 < L.length) (z : Int) (hz : z ∈ L) : ¬ (L.getD i 0 < z ∧ z < L.getD (i + 1) 0) := by
  obtain ⟨j, hj, rfl⟩ := List.mem_iff_getElem.1 hz
  rw [List.getD_eq_getElem?_getD, List.getD_eq_getElem?_getD, List.getElem?_eq_getElem (by omega), List.getElem?_eq_getElem hi]
  simp only [Option.getD_some]
  rintro ⟨h1, h2⟩
  have hp := List.pairwise_iff_getElem.1 hs
  rcases Nat.lt_trichotomy j i with h | h | h
  · have := hp j i hj (by omega) h; omega
  · subst h; omega
  · rcases Nat.lt_or_ge (i + 1) j with h' | h'
    · have := hp (i + 1) j hi hj h'; omega
    · have : j = i + 1 := by omega
      subst this; omega
theorem do_ev (op : Int) (a b : List S123) (ha : a.length ≤ 100000) (hb : b.length ≤ 100000) : ∃ r, Ev (fun k => compradorref06_Do.f k op a b) r ∧ IsKept (Kref op) a b r := by
  obtain ⟨hr, hca, hcb⟩ := cuts_rise a b
  have hlen : (cutsR a b).length ≤ 1000000 := by
    have h1 := fold_len a [0, 1000000000]
    have h2 := fold_len b (a.foldl cutS [0, 1000000000])
    simp only [List.length_cons, List.length_nil] at h1
    unfold cutsR; omega
  generalize hL : cutsR a b = L at hr hca hcb hlen
  have hp := List.pairwise_iff_getElem.1 hr.sorted
  have hne : 0 < L.length := List.length_pos_of_mem hr.zero
  have hfirst : L.getD 0 0 = 0 := by
    obtain ⟨j, hj, h⟩ := List.mem_iff_getElem.1 hr.zero
    rw [List.getD_eq_getElem?_getD, List.getElem?_eq_getElem hne, Option.getD_some]
    have := (hr.inside _ (List.getElem_mem hne)).1
    rcases Nat.eq_zero_or_pos j with h' | h'
    · subst h'; exact h
    · have := hp 0 j hne hj h'; omega
  have hlast : L.getD (L.length - 1) 0 = 1000000000 := by
    obtain ⟨j, hj, h⟩ := List.mem_iff_getElem.1 hr.top
    rw [List.getD_eq_getElem?_getD, List.getElem?_eq_getElem (by omega), Option.getD_some]
    have := (hr.inside _ (List.getElem_mem (show L.length - 1 < L.length by omega))).2
    rcases Nat.lt_or_ge j (L.length - 1) with h' | h'
    · have := hp j (L.length - 1) hj (by omega) h'; omega
    · have : j = L.length - 1 := by omega
      subst this; exact h
  have hin : ∀ i, i < L.length → 0 ≤ L.getD i 0 ∧ L.getD i 0 ≤ 1000000000 := fun i hi => by
    rw [List.getD_eq_getElem?_getD, List.getElem?_eq_getElem hi]; exact hr.inside _ (List.getElem_mem hi)
  have same1 : ∀ (l : List S123), (∀ s, s ∈ l → cl s.f0 ∈ L ∧ cl s.f1 ∈ L) → ∀ i, i + 1 < L.length → ∀ x, L.getD i 0 ≤ x → x < L.getD (i + 1) 0 → mem l x = mem l (L.getD i 0) := fun l hl i hi x hx hy => by
    refine mem_same l x _ hx fun s hs => ?_
    obtain ⟨h1, h2⟩ := hl s hs
    have g1 := gap_none hr.sorted i hi _ h1
    have g2 := gap_none hr.sorted i hi _ h2
    have b1 := hin i (by omega)
    have b2 := hin (i + 1) hi
    unfold cl at g1 g2
    omega
  suffices h : ∀ d i : Nat, L.length - 1 - i = d → i + 1 ≤ L.length → ∀ out : List S123, out.length ≤ i → KInv (Kref op) a b out (L.getD i 0) → ∃ r, Ev (fun k => compradorref06_Do.l0 k op a b out L i) r ∧ IsKept (Kref op) a b r by
    obtain ⟨r, he, hk⟩ := h (L.length - 1) 0 rfl (by omega) [] (by simp) (by rw [hfirst]; exact KInv.start _ _ _)
    exact ⟨r, Ev.bind (by rw [← hL]; exact cuts_ev a b ha hb) he, hk⟩
  intro d
  induction d with
  | zero =>
    intro i hd hi out ho hk
    refine ⟨out, Ev.step (fun k => by rw [compradorref06_Do.l0]) (Ev.neg (by rw [wrap_of (by omega) (by omega)]; omega) (Ev.now _)), hk.done ?_⟩
    rw [show i = L.length - 1 by omega, hlast]; omega
  | succ d ih =>
    intro i hd hi out ho hk
    have hi1 : i + 1 < L.length := by omega
    have b1 := hin i (by omega)
    have b2 := hin (i + 1) hi1
    have hlt : L.getD i 0 < L.getD (i + 1) 0 := by
      rw [List.getD_eq_getElem?_getD, List.getD_eq_getElem?_getD, List.getElem?_eq_getElem (by omega), List.getElem?_eq_getElem hi1]
      exact hp i (i + 1) (by omega) hi1 (by omega)
    have hs := hk.stepTo b1.1 hlt b2.2 fun x hx hy => by rw [same1 a hca i hi1 x hx hy, same1 b hcb i hi1 x hx hy]
    have hi64 : i < 4611686018427387904 := by omega
    have q1 : L.length - 1 - (i + 1) = d := by omega
    have q2 : i + 1 + 1 ≤ L.length := by omega
    have hda : (decide (0 ≤ L.getD i 0) && decide (L.getD i 0 < 1000000000) && mem a (L.getD i 0)) = mem a (L.getD i 0) := by rw [decide_eq_true b1.1, decide_eq_true (by omega)]; rfl
    have hdb : (decide (0 ≤ L.getD i 0) && decide (L.getD i 0 < 1000000000) && mem b (L.getD i 0)) = mem b (L.getD i 0) := by rw [decide_eq_true b1.1, decide_eq_true (by omega)]; rfl
    have go : ∀ out' : List S123, out'.length ≤ i + 1 → KInv (Kref op) a b out' (L.getD (i + 1) 0) → ∃ r, Ev (fun k => compradorref06_Do.l0 k op a b out' L ((i + 1 : Nat) : Int)) r ∧ IsKept (Kref op) a b r := fun out' h1 h2 => ih (i + 1) q1 q2 out' h1 h2
    have head : ∀ (r : List S123) (T : Nat → Option (List S123)), Ev T r → (∀ k, (if Kref op (mem a (L.getD i 0)) (mem b (L.getD i 0)) = true then (if (wrap64 ((out.length : Int) - 1)) ≥ 0 then (if 0 ≤ (wrap64 ((out.length : Int) - 1)) then (if (wrap64 ((out.length : Int) - 1)) < (out.length : Int) then (if ((rd_T123 out (wrap64 ((out.length : Int) - 1))).f1) = L.getD i 0 then (if 0 ≤ ((i + 1 : Nat) : Int) then (compradorref06_Do.l0 k op a b (out.set ((wrap64 ((out.length : Int) - 1)) : Int).toNat (⟨(rd_T123 out (wrap64 ((out.length : Int) - 1))).f0, L.getD (i + 1) 0⟩ : S123)) L ((i + 1 : Nat) : Int)) else (none)) else (if 0 ≤ ((i + 1 : Nat) : Int) then (if out.length < 8796093022208 then (compradorref06_Do.l0 k op a b (out ++ [(⟨L.getD i 0, L.getD (i + 1) 0⟩ : S123)]) L ((i + 1 : Nat) : Int)) else (none)) else (none))) else (none)) else (none)) else (if 0 ≤ ((i + 1 : Nat) : Int) then (if out.length < 8796093022208 then (compradorref06_Do.l0 k op a b (out ++ [(⟨L.getD i 0, L.getD (i + 1) 0⟩ : S123)]) L ((i + 1 : Nat) : Int)) else (none)) else (none))) else (compradorref06_Do.l0 k op a b out L ((i + 1 : Nat) : Int))) = T k) → Ev (fun k => compradorref06_Do.l0 k op a b out L i) r := fun r T hT he => by
      refine Ev.step (fun k => by rw [compradorref06_Do.l0, wrap_succ i hi64, rdI_nat, rdI_nat]) (Ev.pos (by omega) (Ev.pos (by omega) (Ev.pos (by omega) (Ev.bind (Ev.eq (rhas_ev a _ (by omega)) hda) (Ev.bind (Ev.eq (rhas_ev b _ (by omega)) hdb) (Ev.bindc (rtold_f op _ _) (Ev.congr he hT)))))))
    by_cases hc : Kref op (mem a (L.getD i 0)) (mem b (L.getD i 0)) = true
    · rw [if_pos hc] at hs
      rcases snoc_cases out with rfl | ⟨o, x, rfl⟩
      · obtain ⟨r, he, hk'⟩ := go _ (by simp [addR]) hs
        refine ⟨r, head r _ he fun k => ?_, hk'⟩
        have e0 : wrap64 ((([] : List S123).length : Int) - 1) = -1 := by rw [wrap_of (by simp) (by simp)]; rfl
        rw [if_pos hc, e0, if_neg (by decide), if_pos (by omega), if_pos (by decide)]; rfl
      · have hx := hk.lastHi
        have hl1 : ((o ++ [x]).length : Int) - 1 = (o.length : Int) := by simp
        have hlo : (o ++ [x]).length = o.length + 1 := by simp
        have hrd : rd_T123 (o ++ [x]) (o.length : Int) = x := by rw [rd_nat]; simp
        obtain ⟨r, he, hk'⟩ := go _ (by rw [addR_snoc]; split <;> simp at ho ⊢ <;> omega) hs
        refine ⟨r, head r _ he fun k => ?_, hk'⟩
        rw [if_pos hc, hl1, wrap_of (by omega) (by omega), if_pos (by omega), if_pos (by omega), if_pos (by omega), hrd, addR_snoc]
        by_cases hxe : x.f1 = L.getD i 0
        · rw [if_pos hxe, if_pos (by omega), if_pos (show L.getD i 0 ≤ x.f1 by omega), Int.toNat_natCast, show max x.f1 (L.getD (i + 1) 0) = L.getD (i + 1) 0 by omega]
          simp
        · rw [if_neg hxe, if_pos (by omega), if_pos (by omega), if_neg (show ¬ L.getD i 0 ≤ x.f1 by omega)]
    · rw [if_neg hc] at hs
      obtain ⟨r, he, hk'⟩ := go _ (by omega) hs
      exact ⟨r, head r _ he fun k => if_neg hc, hk'⟩
end Go.Proofs.Ytjemihhhkhdbeaa.PSs
