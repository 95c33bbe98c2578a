/- Plain facts for the proof of a statement of the seat; conditions: none but those each states. -/
import Derived.Test.YtlndfdiigjhhnaaPSlx0
import Derived.Test.YtlndfdiigjhhnaaPSlx2
import Derived.Test.YtlndfdiigjhhnaaPSlx4
import Derived.Test.YtlndfdiigjhhnaaPSlx5
import Derived.Test.YtlndfdiigjhhnaaPSlx6
import Derived.Test.YtlndfdiigjhhnaaPSlx7
import Derived.Test.YtlndfdiigjhhnaaPSlx8
import Derived.Test.YtlndfdiigjhhnaaPSlx9
import Derived.Test.YtlndfdiigjhhnaaPSlx10
import Derived.Test.YtlndfdiigjhhnaaPSlx11
import Derived.Test.YtlndfdiigjhhnaaPSlx12
import Derived.Test.YtlndfdiigjhhnaaPSlx13
import Derived.Test.YtlndfdiigjhhnaaPSlx14
import Derived.Test.YtlndfdiigjhhnaaPSlx15
import Derived.Test.YtlndfdiigjhhnaaPSlx16
import Derived.Test.YtlndfdiigjhhnaaPSlx17
import Derived.Test.YtlndfdiigjhhnaaPSlx18
import Derived.Test.YtlndfdiigjhhnaaPSlx21
import Derived.Test.YtlndfdiigjhhnaaPSlx22
namespace Go.Proofs.Ytlndfdiigjhhnaa.PSl
open Go.RowKit Go.Proofs.YtlndfdiigjhhnaaW.PrintWords Go.Proofs.YtlndfdiigjhhnaaW.PrintLast Go.Proofs.YtlndfdiigjhhnaaW.PrintMore
set_option linter.unusedVariables false
set_option linter.unusedSimpArgs false
/-! Sets of places as lists of spans: plain facts. Nothing of Go here but the printed struct of a span. -/
def mem (l : List S70) (p : Int) : Bool := l.any fun s => decide (s.f0 ≤ p) && decide (p < s.f1)
def Chk : Int → List S70 → Prop
  | _, [] => True
  | e, s :: t => e < s.f0 ∧ s.f0 < s.f1 ∧ s.f1 ≤ 1000000000 ∧ Chk s.f1 t
theorem mem_nil (p : Int) : mem [] p = false := rfl
theorem mem_cons (s : S70) (t : List S70) (p : Int) : mem (s :: t) p = ((decide (s.f0 ≤ p) && decide (p < s.f1)) || mem t p) := rfl
theorem mem_append (a b : List S70) (p : Int) : mem (a ++ b) p = (mem a p || mem b p) := by simp [mem]
theorem mem_one (s : S70) (p : Int) : mem [s] p = (decide (s.f0 ≤ p) && decide (p < s.f1)) := by simp [mem]
theorem mem_perm {a b : List S70} (h : a.Perm b) (p : Int) : mem a p = mem b p := by unfold mem; exact h.any_eq
theorem Chk.weaken {e e' : Int} {l : List S70} (h : Chk e l) (he : e' ≤ e) : Chk e' l := by
  cases l with
  | nil => trivial
  | cons s t => exact ⟨by have := h.1; omega, h.2⟩
theorem Chk.lower {l : List S70} : ∀ {e p : Int}, Chk e l → mem l p = true → e < p := by
  induction l with
  | nil => intro e p _ h; simp [mem_nil] at h
  | cons s t ih =>
    intro e p hc h
    obtain ⟨h1, h2, h3, h4⟩ := hc
    rw [mem_cons, Bool.or_eq_true, Bool.and_eq_true, decide_eq_true_eq, decide_eq_true_eq] at h
    rcases h with h | h
    · omega
    · have := ih h4 h; omega
theorem Chk.upper {l : List S70} : ∀ {e p : Int}, Chk e l → mem l p = true → p < 1000000000 := by
  induction l with
  | nil => intro e p _ h; simp [mem_nil] at h
  | cons s t ih =>
    intro e p hc h
    obtain ⟨h1, h2, h3, h4⟩ := hc
    rw [mem_cons, Bool.or_eq_true, Bool.and_eq_true, decide_eq_true_eq, decide_eq_true_eq] at h
    rcases h with h | h
    · omega
    · exact ih h4 h
theorem mem_low {l : List S70} {e p : Int} (h : Chk e l) (hp : p ≤ e) : mem l p = false := by
  cases hm : mem l p with
  | false => rfl
  | true => have := h.lower hm; omega
theorem mem_high {l : List S70} {e p : Int} (h : Chk e l) (hp : 1000000000 ≤ p) : mem l p = false := by
  cases hm : mem l p with
  | false => rfl
  | true => have := h.upper hm; omega
theorem S70_ext {x y : S70} (h0 : x.f0 = y.f0) (h1 : x.f1 = y.f1) : x = y := by cases x; cases y; simp_all
/-- Two sets that have the same places are one list. -/
theorem Chk.canon {a : List S70} : ∀ {b : List S70} {e : Int}, Chk e a → Chk e b → (∀ p, mem a p = mem b p) → a = b := by
  induction a with
  | nil =>
    intro b e _ hb h
    cases b with
    | nil => rfl
    | cons s t =>
      have := h s.f0
      rw [mem_nil, mem_cons] at this
      simp [hb.2.1] at this
  | cons s t ih =>
    intro b e ha hb h
    cases b with
    | nil =>
      have := h s.f0
      rw [mem_nil, mem_cons] at this
      simp [ha.2.1] at this
    | cons s' t' =>
      obtain ⟨a1, a2, a3, a4⟩ := ha
      obtain ⟨b1, b2, b3, b4⟩ := hb
      have e0 : s.f0 = s'.f0 := by
        rcases Int.lt_trichotomy s.f0 s'.f0 with hl | hl | hl
        · have := h s.f0
          rw [mem_cons, mem_cons, mem_low b4 (by omega)] at this
          simp [show ¬ s'.f0 ≤ s.f0 by omega, a2] at this
        · exact hl
        · have := h s'.f0
          rw [mem_cons, mem_cons, mem_low a4 (by omega)] at this
          simp [show ¬ s.f0 ≤ s'.f0 by omega, b2] at this
      have e1 : s.f1 = s'.f1 := by
        rcases Int.lt_trichotomy s.f1 s'.f1 with hl | hl | hl
        · have := h s.f1
          rw [mem_cons, mem_cons, mem_low a4 (by omega)] at this
          simp [show s'.f0 ≤ s.f1 by omega, hl] at this
        · exact hl
        · have := h s'.f1
          rw [mem_cons, mem_cons, mem_low b4 (by omega)] at this
          simp [show s.f0 ≤ s'.f1 by omega, hl] at this
      obtain rfl : s = s' := S70_ext e0 e1
      congr 1
      refine ih a4 b4 fun p => ?_
      by_cases hp : p ≤ s.f1
      · rw [mem_low a4 hp, mem_low b4 hp]
      · have := h p
        rw [mem_cons, mem_cons] at this
        simpa [show ¬ p < s.f1 by omega] using this
/-! The first span that ends behind a place. -/
def cnt : List S70 → Int → Nat
  | [], _ => 0
  | s :: t, p => if s.f1 ≤ p then cnt t p + 1 else 0
def hasR : List S70 → Int → Bool
  | [], _ => false
  | s :: t, p => if s.f1 ≤ p then hasR t p else decide (s.f0 ≤ p)
def nextR : List S70 → Int → Int
  | [], _ => 1000000000
  | s :: t, p => if s.f1 ≤ p then nextR t p else if s.f0 > p then s.f0 else s.f1
theorem cnt_le (l : List S70) (p : Int) : cnt l p ≤ l.length := by
  induction l with
  | nil => exact Nat.le_refl _
  | cons s t ih => simp only [cnt, List.length_cons]; split <;> omega
theorem cnt_before (l : List S70) (p : Int) : ∀ i, i < cnt l p → (l.getD i z70).f1 ≤ p := by
  induction l with
  | nil => intro i h; simp [cnt] at h
  | cons s t ih =>
    intro i h
    simp only [cnt] at h
    split at h
    · cases i with
      | zero => simpa using ‹s.f1 ≤ p›
      | succ i => simpa using ih i (by omega)
    · omega
theorem Chk.f1_gt {l : List S70} : ∀ {e : Int}, Chk e l → ∀ i, i < l.length → e < (l.getD i z70).f1 := by
  induction l with
  | nil => intro e _ i h; simp at h
  | cons s t ih =>
    intro e hc i h
    obtain ⟨h1, h2, h3, h4⟩ := hc
    cases i with
    | zero => show e < s.f1; omega
    | succ i => have := ih h4 i (by simpa using h); simp only [List.getD_cons_succ]; omega
theorem cnt_behind {l : List S70} : ∀ {e p : Int}, Chk e l → ∀ i, cnt l p ≤ i → i < l.length → p < (l.getD i z70).f1 := by
  induction l with
  | nil => intro e p _ i _ h; simp at h
  | cons s t ih =>
    intro e p hc i h hl
    obtain ⟨h1, h2, h3, h4⟩ := hc
    simp only [cnt] at h
    split at h
    · cases i with
      | zero => omega
      | succ i => simpa using ih h4 i (by omega) (by simpa using hl)
    · rename_i hn
      cases i with
      | zero => show p < s.f1; omega
      | succ i => have := h4.f1_gt i (by simpa using hl); simp only [List.getD_cons_succ]; omega
theorem cnt_has (l : List S70) (p : Int) : hasR l p = if cnt l p < l.length then decide ((l.getD (cnt l p) z70).f0 ≤ p) else false := by
  induction l with
  | nil => rfl
  | cons s t ih =>
    simp only [hasR, cnt]
    split
    · rw [ih]; simp only [List.length_cons, Nat.add_lt_add_iff_right, List.getD_cons_succ]
    · simp
theorem cnt_next (l : List S70) (p : Int) : nextR l p = if cnt l p < l.length then (if (l.getD (cnt l p) z70).f0 > p then (l.getD (cnt l p) z70).f0 else (l.getD (cnt l p) z70).f1) else 1000000000 := by
  induction l with
  | nil => rfl
  | cons s t ih =>
    simp only [nextR, cnt]
    split
    · rw [ih]; simp only [List.length_cons, Nat.add_lt_add_iff_right, List.getD_cons_succ]
    · simp
theorem has_mem {l : List S70} : ∀ {e p : Int}, Chk e l → hasR l p = mem l p := by
  induction l with
  | nil => intros; rfl
  | cons s t ih =>
    intro e p hc
    obtain ⟨h1, h2, h3, h4⟩ := hc
    rw [mem_cons]
    simp only [hasR]
    split
    · rw [ih h4]; simp [show ¬ p < s.f1 by omega]
    · rw [mem_low h4 (by omega)]; simp [show p < s.f1 by omega]
theorem next_gt {l : List S70} : ∀ {e p : Int}, Chk e l → p < 1000000000 → p < nextR l p ∧ nextR l p ≤ 1000000000 := by
  induction l with
  | nil => intro e p _ h; simp only [nextR]; omega
  | cons s t ih =>
    intro e p hc h
    obtain ⟨h1, h2, h3, h4⟩ := hc
    simp only [nextR]
    split
    · exact ih h4 h
    · split <;> omega
theorem next_same {l : List S70} : ∀ {e p : Int}, Chk e l → ∀ x, p ≤ x → x < nextR l p → mem l x = mem l p := by
  induction l with
  | nil => intros; rfl
  | cons s t ih =>
    intro e p hc x hx hn
    obtain ⟨h1, h2, h3, h4⟩ := hc
    rw [mem_cons, mem_cons]
    simp only [nextR] at hn
    split at hn
    · rw [ih h4 x hx hn]; simp [show ¬ p < s.f1 by omega, show ¬ x < s.f1 by omega]
    · split at hn
      · rw [mem_low h4 (by omega), mem_low h4 (by omega)]; simp [show ¬ s.f0 ≤ p by omega, show ¬ s.f0 ≤ x by omega]
      · rw [mem_low h4 (by omega), mem_low h4 (by omega)]; simp [show s.f0 ≤ p by omega, show s.f0 ≤ x by omega, show x < s.f1 by omega, show p < s.f1 by omega]
/-! A span put behind others. -/
def lastHi : Int → List S70 → Int
  | e, [] => e
  | _, s :: t => lastHi s.f1 t
theorem Chk_snoc {l : List S70} {s : S70} : ∀ {e : Int}, Chk e (l ++ [s]) ↔ Chk e l ∧ lastHi e l < s.f0 ∧ s.f0 < s.f1 ∧ s.f1 ≤ 1000000000 := by
  induction l with
  | nil => intro e; simp [Chk, lastHi]
  | cons a t ih => intro e; simp only [List.cons_append, Chk, lastHi, ih]; constructor <;> (intro h; simp_all)
theorem lastHi_snoc (l : List S70) (s : S70) : ∀ e, lastHi e (l ++ [s]) = s.f1 := by
  induction l with
  | nil => intro e; rfl
  | cons a t ih => intro e; exact ih _
def addR (l : List S70) (s : S70) : List S70 := match l.getLast? with
  | none => [s]
  | some x => if s.f0 ≤ x.f1 then l.dropLast ++ [⟨x.f0, max x.f1 s.f1⟩] else l ++ [s]
theorem snoc_cases {α : Type} (l : List α) : l = [] ∨ ∃ i x, l = i ++ [x] := by
  rcases List.eq_nil_or_concat l with h | ⟨i, x, h⟩
  · exact .inl h
  · exact .inr ⟨i, x, by simpa using h⟩
theorem addR_snoc (i : List S70) (x s : S70) : addR (i ++ [x]) s = if s.f0 ≤ x.f1 then i ++ [⟨x.f0, max x.f1 s.f1⟩] else i ++ [x] ++ [s] := by simp [addR]
/-- What a set is that begins no later than a span, with the span. -/
structure Upto (l : List S70) (at_ : Int) : Prop where
  chk : Chk (-1) l
  low : ∀ x, l.getLast? = some x → x.f0 ≤ at_
theorem Upto.nil (a : Int) : Upto [] a := ⟨trivial, fun x h => by simp at h⟩
theorem Upto.mono {l : List S70} {a b : Int} (h : Upto l a) (hb : a ≤ b) : Upto l b := ⟨h.chk, fun x hx => Int.le_trans (h.low x hx) hb⟩
theorem addR_upto {l : List S70} {s : S70} (h : Upto l s.f0) (h0 : 0 ≤ s.f0) (h1 : s.f0 < s.f1) (h2 : s.f1 ≤ 1000000000) : Upto (addR l s) s.f0 := by
  rcases snoc_cases l with rfl | ⟨i, x, rfl⟩
  · refine ⟨⟨by omega, h1, h2, trivial⟩, fun y hy => ?_⟩
    obtain rfl : s = y := by simpa [addR] using hy
    omega
  · obtain ⟨c1, c2, c3, c4⟩ := Chk_snoc.1 h.chk
    have hx := h.low x (by simp)
    rw [addR_snoc]
    split
    · refine ⟨Chk_snoc.2 ⟨c1, c2, ?_, ?_⟩, fun y hy => ?_⟩
      · show x.f0 < max x.f1 s.f1; omega
      · show max x.f1 s.f1 ≤ _; omega
      · obtain rfl : _ = y := by simpa using hy
        exact hx
    · refine ⟨Chk_snoc.2 ⟨h.chk, by rw [lastHi_snoc]; omega, h1, h2⟩, fun y hy => ?_⟩
      obtain rfl : s = y := by simpa using hy
      omega
theorem addR_mem {l : List S70} {s : S70} (h : Upto l s.f0) (p : Int) : mem (addR l s) p = (mem l p || (decide (s.f0 ≤ p) && decide (p < s.f1))) := by
  rcases snoc_cases l with rfl | ⟨i, x, rfl⟩
  · simp [addR, mem]
  · obtain ⟨c1, c2, c3, c4⟩ := Chk_snoc.1 h.chk
    have hx := h.low x (by simp)
    rw [addR_snoc]
    split
    · rw [mem_append, mem_append, mem_one, mem_one, Bool.or_assoc]
      congr 1
      rw [Bool.eq_iff_iff]
      simp only [Bool.and_eq_true, Bool.or_eq_true, decide_eq_true_eq]
      omega
    · rw [mem_append, mem_one]
theorem Chk.length_le {l : List S70} : ∀ {e : Int}, Chk e l → e ≤ 1000000000 → (l.length : Int) + e ≤ 1000000000 := by
  induction l with
  | nil => intro e _ h; simpa using h
  | cons s t ih =>
    intro e hc _
    obtain ⟨h1, h2, h3, h4⟩ := hc
    have := ih h4 h3
    simp only [List.length_cons]
    omega
/-! Which lists are sets, told by a look. -/
def chkB : Int → List S70 → Bool
  | _, [] => true
  | e, s :: t => decide (e < s.f0) && decide (s.f0 < s.f1) && decide (s.f1 ≤ 1000000000) && chkB s.f1 t
theorem chkB_iff {l : List S70} : ∀ {e : Int}, chkB e l = true ↔ Chk e l := by
  induction l with
  | nil => intro e; simp [chkB, Chk]
  | cons s t ih => intro e; simp [chkB, Chk, ih, and_assoc]
/-! What is kept of two sets. -/
structure IsKept (K : Bool → Bool → Bool) (a b r : List S70) : Prop where
  chk : Chk (-1) r
  mem_ : ∀ p, mem r p = (decide (0 ≤ p) && decide (p < 1000000000) && K (mem a p) (mem b p))
theorem IsKept.unique {K : Bool → Bool → Bool} {a b r r' : List S70} (h : IsKept K a b r) (h' : IsKept K a b r') : r = r' := h.chk.canon h'.chk fun p => by rw [h.mem_, h'.mem_]
structure KInv (K : Bool → Bool → Bool) (a b out : List S70) (at_ : Int) : Prop where
  upto : Upto out at_
  none_ : ∀ x, at_ ≤ x → mem out x = false
  some_ : ∀ x, 0 ≤ x → x < at_ → mem out x = K (mem a x) (mem b x)
theorem KInv.start (K : Bool → Bool → Bool) (a b : List S70) : KInv K a b [] 0 := ⟨Upto.nil 0, fun _ _ => rfl, fun x h0 h1 => by omega⟩
theorem KInv.step {K : Bool → Bool → Bool} {a b out : List S70} {at_ : Int} (ha : Chk (-1) a) (hb : Chk (-1) b) (h : KInv K a b out at_) (h0 : 0 ≤ at_) (h1 : at_ < 1000000000) :
    KInv K a b (if K (mem a at_) (mem b at_) = true then addR out ⟨at_, min (nextR a at_) (nextR b at_)⟩ else out) (min (nextR a at_) (nextR b at_)) := by
  have na := next_gt ha h1
  have nb := next_gt hb h1
  have hlt : at_ < min (nextR a at_) (nextR b at_) := by omega
  have hle : min (nextR a at_) (nextR b at_) ≤ 1000000000 := by omega
  have same : ∀ x, at_ ≤ x → x < min (nextR a at_) (nextR b at_) → K (mem a x) (mem b x) = K (mem a at_) (mem b at_) := fun x hx hy => by
    rw [next_same ha x hx (by omega), next_same hb x hx (by omega)]
  split
  · rename_i hk
    have hu : Upto out (S70.mk at_ (min (nextR a at_) (nextR b at_))).f0 := h.upto
    refine ⟨(addR_upto hu h0 hlt hle).mono (Int.le_of_lt hlt), fun x hx => ?_, fun x hx hy => ?_⟩
    · rw [addR_mem hu, h.none_ x (by omega)]; simp only [Bool.false_or]; rw [decide_eq_false (p := x < _) (by show ¬ x < min (nextR a at_) (nextR b at_); omega), Bool.and_false]
    · rw [addR_mem hu]
      by_cases hc : x < at_
      · rw [h.some_ x hx hc, decide_eq_false (p := _ ≤ x) (by show ¬ at_ ≤ x; omega), Bool.false_and, Bool.or_false]
      · rw [h.none_ x (by omega), same x (by omega) hy, hk, decide_eq_true (p := _ ≤ x) (by show at_ ≤ x; omega), decide_eq_true (p := x < _) (by show x < min (nextR a at_) (nextR b at_); exact hy)]; rfl
  · rename_i hk
    refine ⟨h.upto.mono (Int.le_of_lt hlt), fun x hx => h.none_ x (by omega), fun x hx hy => ?_⟩
    by_cases hc : x < at_
    · exact h.some_ x hx hc
    · rw [h.none_ x (by omega), same x (by omega) hy]; simpa using hk
theorem KInv.done {K : Bool → Bool → Bool} {a b out : List S70} {at_ : Int} (h : KInv K a b out at_) (h1 : ¬ at_ < 1000000000) : IsKept K a b out := by
  refine ⟨h.upto.chk, fun p => ?_⟩
  by_cases h0 : 0 ≤ p
  · by_cases hp : p < 1000000000
    · rw [h.some_ p h0 (by omega)]; simp [h0, hp]
    · rw [mem_high h.upto.chk (by omega)]; simp [hp]
  · rw [mem_low h.upto.chk (by omega)]; simp [h0]
/-! Within, and how many. -/
def withinR : List S70 → List S70 → Bool
  | [], _ => true
  | s :: t, b => decide (cnt b s.f0 < b.length) && decide ((b.getD (cnt b s.f0) z70).f0 ≤ s.f0) && decide (s.f1 ≤ (b.getD (cnt b s.f0) z70).f1) && withinR t b
theorem mem_getD (l : List S70) (i : Nat) (h : i < l.length) (p : Int) (h0 : (l.getD i z70).f0 ≤ p) (h1 : p < (l.getD i z70).f1) : mem l p = true := by
  unfold mem
  rw [List.any_eq_true]
  refine ⟨l.getD i z70, ?_, by simp [-List.getD_eq_getElem?_getD, h0, h1]⟩
  rw [List.getD_eq_getElem?_getD, List.getElem?_eq_getElem h]; exact List.getElem_mem h
theorem Chk.gap {l : List S70} : ∀ {e : Int}, Chk e l → ∀ i, i < l.length → mem l (l.getD i z70).f1 = false := by
  induction l with
  | nil => intro e _ i h; simp at h
  | cons s t ih =>
    intro e hc i h
    obtain ⟨h1, h2, h3, h4⟩ := hc
    rw [mem_cons]
    cases i with
    | zero => rw [List.getD_cons_zero, mem_low h4 (Int.le_refl _)]; simp
    | succ i =>
      have hg := h4.f1_gt i (by simpa using h)
      rw [List.getD_cons_succ, ih h4 i (by simpa using h)]; simp only [Bool.or_false]; rw [decide_eq_false (p := _ < s.f1) (by omega), Bool.and_false]
theorem withinR_iff {b : List S70} (hb : Chk (-1) b) : ∀ {e : Int} {a : List S70}, Chk e a → (withinR a b = true ↔ ∀ p, mem a p = true → mem b p = true) := by
  intro e a
  induction a generalizing e with
  | nil => intro _; simp [withinR, mem_nil]
  | cons s t ih =>
    intro hc
    obtain ⟨h1, h2, h3, h4⟩ := hc
    have ih' := ih h4
    simp only [withinR, Bool.and_eq_true, decide_eq_true_eq]
    constructor
    · rintro ⟨⟨⟨g1, g2⟩, g3⟩, g4⟩ p hp
      rw [mem_cons, Bool.or_eq_true, Bool.and_eq_true, decide_eq_true_eq, decide_eq_true_eq] at hp
      rcases hp with hp | hp
      · exact mem_getD b _ g1 p (by omega) (by omega)
      · exact ih'.1 g4 p hp
    · intro h
      have hm : mem b s.f0 = true := h s.f0 (by rw [mem_cons]; simp [h2])
      rw [← has_mem hb, cnt_has] at hm
      by_cases g1 : cnt b s.f0 < b.length
      · rw [if_pos g1] at hm
        have g2 := of_decide_eq_true hm
        refine ⟨⟨⟨g1, g2⟩, ?_⟩, ih'.2 fun p hp => h p (by rw [mem_cons, hp, Bool.or_true])⟩
        refine Int.not_lt.1 fun hlt => ?_
        have hgap := hb.gap _ g1
        have hgt := cnt_behind hb _ (Nat.le_refl _) g1
        have := h _ (show mem (s :: t) (b.getD (cnt b s.f0) z70).f1 = true by rw [mem_cons, decide_eq_true (by omega), decide_eq_true hlt]; rfl)
        rw [hgap] at this; exact Bool.noConfusion this
      · rw [if_neg g1] at hm; exact Bool.noConfusion hm
def countR : List S70 → Int
  | [] => 0
  | s :: t => s.f1 - s.f0 + countR t
/-- How many places below n has a set of places? -/
def b2i : Bool → Int
  | true => 1
  | false => 0
def card (f : Int → Bool) : Nat → Int
  | 0 => 0
  | n + 1 => card f n + b2i (f n)
theorem card_congr {f g : Int → Bool} {n : Nat} (h : ∀ i : Nat, i < n → f i = g i) : card f n = card g n := by
  induction n with
  | zero => rfl
  | succ n ih => simp only [card]; rw [ih fun i hi => h i (by omega), h n (by omega)]
theorem card_none {f : Int → Bool} {n : Nat} (h : ∀ i : Nat, i < n → f i = false) : card f n = 0 := by
  induction n with
  | zero => rfl
  | succ n ih => simp only [card]; rw [ih fun i hi => h i (by omega), h n (by omega)]; rfl
theorem card_seg (a b : Int) (h0 : 0 ≤ a) (h1 : a ≤ b) : ∀ n : Nat, card (fun x => decide (a ≤ x) && decide (x < b)) n = max 0 (min b n - a) := by
  intro n
  induction n with
  | zero => simp only [card]; omega
  | succ n ih =>
    simp only [card]; rw [ih]
    by_cases h : a ≤ (n : Int) ∧ (n : Int) < b
    · rw [decide_eq_true h.1, decide_eq_true h.2]; simp only [Bool.and_self, b2i]; push_cast; omega
    · have : (decide (a ≤ (n : Int)) && decide ((n : Int) < b)) = false := by rw [Bool.and_eq_false_iff]; simp only [decide_eq_false_iff_not]; omega
      rw [this]; simp only [b2i]; push_cast; omega
theorem card_or {f g : Int → Bool} (n : Nat) (h : ∀ x, f x = true → g x = false) : card (fun x => f x || g x) n = card f n + card g n := by
  induction n with
  | zero => rfl
  | succ n ih =>
    simp only [card]; rw [ih]
    cases hf : f n with
    | true => rw [h _ hf]; simp [b2i]; omega
    | false => cases g n <;> simp [b2i] <;> omega
theorem card_both (f g : Int → Bool) (n : Nat) : card (fun x => f x || g x) n + card (fun x => f x && g x) n = card f n + card g n := by
  induction n with
  | zero => rfl
  | succ n ih => simp only [card]; cases f n <;> cases g n <;> simp [b2i] <;> omega
theorem card_not (f : Int → Bool) (n : Nat) : card f n + card (fun x => !f x) n = n := by
  induction n with
  | zero => rfl
  | succ n ih => simp only [card]; cases f n <;> simp [b2i] <;> omega
theorem count_card {l : List S70} : ∀ {e : Int}, -1 ≤ e → Chk e l → countR l = card (mem l) 1000000000 := by
  induction l with
  | nil => intro e _ _; exact (card_none fun _ _ => rfl).symm
  | cons s t ih =>
    intro e he hc
    obtain ⟨h1, h2, h3, h4⟩ := hc
    have hs := card_seg s.f0 s.f1 (by omega) (by omega) 1000000000
    have ho := card_or (f := fun x => decide (s.f0 ≤ x) && decide (x < s.f1)) (g := mem t) 1000000000 fun x hx => by
      rw [Bool.and_eq_true, decide_eq_true_eq, decide_eq_true_eq] at hx; exact mem_low h4 (by omega)
    rw [show mem (s :: t) = fun x => (decide (s.f0 ≤ x) && decide (x < s.f1)) || mem t x from funext fun x => mem_cons s t x, ho, hs, ← ih (by omega) h4]
    simp only [countR]; omega
theorem countR_nonneg {l : List S70} : ∀ {e : Int}, Chk e l → 0 ≤ countR l ∧ countR l ≤ 1000000000 - e ∨ l = [] := by
  induction l with
  | nil => intro e _; exact .inr rfl
  | cons s t ih =>
    intro e hc
    obtain ⟨h1, h2, h3, h4⟩ := hc
    left
    simp only [countR]
    rcases ih h4 with h | rfl
    · omega
    · simp only [countR]; omega
/-! What the printed functions of package span tell. -/
theorem Ev.pos {α : Type} {c : Prop} [Decidable c] {f g : Nat → Option α} {r : α} (h : c) (e : Ev f r) : Ev (fun k => if c then f k else g k) r := Ev.congr (fun _ => if_pos h) e
theorem Ev.neg {α : Type} {c : Prop} [Decidable c] {f g : Nat → Option α} {r : α} (h : ¬ c) (e : Ev g r) : Ev (fun k => if c then f k else g k) r := Ev.congr (fun _ => if_neg h) e
theorem Ev.eq {α : Type} {f : Nat → Option α} {a b : α} (e : Ev f a) (h : a = b) : Ev f b := h ▸ e
theorem Ev.const {α : Type} {o : Option α} {r : α} (h : o = some r) : Ev (fun _ => o) r := ⟨0, fun _ _ => h⟩
theorem Ev.bindc {α β : Type} {g : Option α} {f : Nat → α → Option β} {a : α} {r : β} (h : g = some a) (k : Ev (fun n => f n a) r) : Ev (fun n => g.bind (f n)) r := Ev.bind (Ev.const h) k
theorem wrap_of {x : Int} (h0 : -9223372036854775808 ≤ x) (h1 : x ≤ 9223372036854775807) : wrap64 x = x := by unfold wrap64; omega
theorem wrap_succ (i : Nat) (h : i < 4611686018427387904) : wrap64 ((i : Int) + 1) = ((i + 1 : Nat) : Int) := by rw [wrap_of (by omega) (by omega)]; omega
theorem rd_nat (l : List S70) (i : Nat) : rd_T70 l (i : Int) = l.getD i z70 := by unfold rd_T70; rw [Int.toNat_natCast]
theorem drop_cons (l : List S70) (i : Nat) (h : i < l.length) : l.drop i = rd_T70 l (i : Int) :: l.drop (i + 1) := by
  rw [rd_nat, List.drop_eq_getElem_cons h, List.getD_eq_getElem?_getD, List.getElem?_eq_getElem h]; rfl
theorem chk_len {l : List S70} (h : Chk (-1) l) : (l.length : Int) ≤ 1000000001 := by have := h.length_le (by omega); omega
theorem half (i j : Nat) (h : i + j < 4611686018427387904) : wrap64 (IntKind.u64.wrap (wrap64 ((i : Int) + j)) / 2) = (((i + j) / 2 : Nat) : Int) := by
  rw [wrap_of (x := (i : Int) + j) (by omega) (by omega)]
  have : IntKind.u64.wrap ((i : Int) + j) = (i : Int) + j := by simp [IntKind.wrap, IntKind.bits, IntKind.signed]; omega
  rw [this, wrap_of (by omega) (by omega)]; omega
theorem bs_ev (l : List S70) (p : Int) (hc : Chk (-1) l) : ∀ d i j : Nat, j - i ≤ d → i ≤ cnt l p → cnt l p ≤ j → j ≤ l.length →
    Ev (fun k => slices_BinarySearchFunc_int_span_after_1.l0 k l p (l.length : Int) i j) ((cnt l p : Int), false) := by
  have hlen := chk_len hc
  intro d
  induction d with
  | zero =>
    intro i j hd h1 h2 h3
    have e : i = cnt l p := by omega
    have e' : j = cnt l p := by omega
    refine Ev.step (fun k => by rw [slices_BinarySearchFunc_int_span_after_1.l0]) (Ev.neg (by omega) ?_)
    by_cases hl : cnt l p < l.length
    · refine Ev.pos (by omega) (Ev.pos (by omega) (Ev.pos (by omega) ?_))
      have := cnt_behind hc (cnt l p) (Nat.le_refl _) hl
      refine Ev.bindc (a := 1) ?_ (Ev.const (by rw [e]; rfl))
      rw [e, rd_nat, span_after_1.f, if_neg (by omega)]
    · exact Ev.neg (by omega) (Ev.const (by rw [e]))
  | succ d ih =>
    intro i j hd h1 h2 h3
    by_cases hij : i < j
    · refine Ev.step (fun k => by rw [slices_BinarySearchFunc_int_span_after_1.l0]) (Ev.pos (by omega) ?_)
      rw [half i j (by omega)]
      refine Ev.pos (by omega) (Ev.pos (by omega) ?_)
      by_cases hm : (i + j) / 2 < cnt l p
      · have := cnt_before l p _ hm
        refine Ev.bindc (a := -1) (by rw [rd_nat, span_after_1.f, if_pos this]) (Ev.pos (by omega) ?_)
        rw [wrap_of (by omega) (by omega)]
        exact ih ((i + j) / 2 + 1) j (by omega) (by omega) h2 h3
      · have := cnt_behind (p := p) hc ((i + j) / 2) (by omega) (by omega)
        refine Ev.bindc (a := 1) (by rw [rd_nat, span_after_1.f, if_neg (by omega)]) (Ev.neg (by omega) ?_)
        exact ih i ((i + j) / 2) (by omega) h1 (by omega) (by omega)
    · exact ih i j (by omega) h1 h2 h3
theorem after_ev {l : List S70} (p : Int) (hc : Chk (-1) l) : Ev (fun k => span_after.f k l p) (cnt l p : Int) :=
  Ev.bind (bs_ev l p hc l.length 0 l.length (by omega) (by omega) (cnt_le l p) (Nat.le_refl _)) (Ev.now _)
theorem has_ev {l : List S70} (p : Int) (hc : Chk (-1) l) : Ev (fun k => span_Has.f k l p) (mem l p) := by
  refine Ev.bind (after_ev p hc) ?_
  rw [← has_mem hc, cnt_has]
  by_cases h : cnt l p < l.length
  · rw [if_pos h]
    exact Ev.pos (by omega) (Ev.pos (by omega) (Ev.const (by rw [rd_nat])))
  · rw [if_neg h]
    exact Ev.neg (by omega) (Ev.now _)
theorem next_ev {l : List S70} (p : Int) (hc : Chk (-1) l) : Ev (fun k => span_next.f k l p) (nextR l p) := by
  have hle := cnt_le l p
  refine Ev.bind (after_ev p hc) ?_
  rw [cnt_next]
  by_cases h : cnt l p < l.length
  · rw [if_pos h]
    refine Ev.neg (by omega) (Ev.pos (by omega) (Ev.pos (by omega) ?_))
    rw [rd_nat]
    by_cases h2 : (l.getD (cnt l p) z70).f0 > p
    · exact Ev.eq (Ev.pos h2 (Ev.now _)) (if_pos h2).symm
    · exact Ev.eq (Ev.neg h2 (Ev.now _)) (if_neg h2).symm
  · rw [if_neg h]
    exact Ev.pos (by omega) (Ev.now _)
theorem mn_min (a b : Int) : mn a b = min a b := by unfold mn; omega
theorem mx_max (a b : Int) : mx a b = max a b := by unfold mx; omega
theorem add_f {l : List S70} (s : S70) (hl : l.length < 8796093022208) : span_add.f l s.f0 s.f1 = some (addR l s) := by
  unfold span_add.f
  rw [wrap_of (by omega) (by omega)]
  rcases snoc_cases l with rfl | ⟨i, x, rfl⟩
  · rw [if_neg (by simp), if_pos hl]; rfl
  · have hlen : ((i ++ [x]).length : Int) - 1 = (i.length : Int) := by simp
    have hrd : rd_T70 (i ++ [x]) (i.length : Int) = x := by rw [rd_nat]; simp
    rw [hlen, hrd, if_pos (by omega), if_pos (by omega), if_pos (by rw [List.length_append]; simp only [List.length_singleton]; omega), addR_snoc]
    split
    · rw [mx_max, Int.toNat_natCast]; simp
    · first | rw [if_pos hl] | rfl
def KUnion : Bool → Bool → Bool := fun x y => x || y
theorem told_Union (x y : Bool) : span_Union_1.f x y = some (KUnion x y) := by cases x <;> cases y <;> rfl
theorem kept_Union_ev {a b : List S70} (ha : Chk (-1) a) (hb : Chk (-1) b) : ∀ (d : Nat) (out : List S70) (at_ : Int), (1000000000 - at_).toNat ≤ d → 0 ≤ at_ → KInv KUnion a b out at_ →
    ∃ r, Ev (fun k => span_kept_span_Union_1.l0 k a b out at_) r ∧ IsKept KUnion a b r := by
  intro d
  induction d with
  | zero =>
    intro out at_ hd h0 hi
    exact ⟨out, Ev.step (fun k => by rw [span_kept_span_Union_1.l0]) (Ev.neg (by omega) (Ev.now _)), hi.done (by omega)⟩
  | succ d ih =>
    intro out at_ hd h0 hi
    by_cases hlt : at_ < 1000000000
    · have na := next_gt ha hlt
      have nb := next_gt hb hlt
      have hs := hi.step ha hb h0 hlt
      have hlen : out.length < 8796093022208 := by have := chk_len hi.upto.chk; omega
      obtain ⟨r, hr, hk⟩ := ih _ _ (by omega) (by omega) hs
      refine ⟨r, Ev.step (fun k => by rw [span_kept_span_Union_1.l0]) (Ev.pos hlt (Ev.bind (next_ev at_ ha) (Ev.bind (next_ev at_ hb) (Ev.bind (has_ev at_ ha) (Ev.bind (has_ev at_ hb) (Ev.bindc (told_Union _ _) ?_)))))), hk⟩
      simp only [mn_min]
      by_cases hc : KUnion (mem a at_) (mem b at_) = true
      · rw [if_pos hc] at hr
        exact Ev.pos hc (Ev.bindc (add_f ⟨at_, min (nextR a at_) (nextR b at_)⟩ hlen) hr)
      · rw [if_neg hc] at hr
        exact Ev.neg hc hr
    · exact ⟨out, Ev.step (fun k => by rw [span_kept_span_Union_1.l0]) (Ev.neg hlt (Ev.now _)), hi.done hlt⟩
def KMeet : Bool → Bool → Bool := fun x y => x && y
theorem told_Meet (x y : Bool) : span_Meet_1.f x y = some (KMeet x y) := by cases x <;> cases y <;> rfl
theorem kept_Meet_ev {a b : List S70} (ha : Chk (-1) a) (hb : Chk (-1) b) : ∀ (d : Nat) (out : List S70) (at_ : Int), (1000000000 - at_).toNat ≤ d → 0 ≤ at_ → KInv KMeet a b out at_ →
    ∃ r, Ev (fun k => span_kept_span_Meet_1.l0 k a b out at_) r ∧ IsKept KMeet a b r := by
  intro d
  induction d with
  | zero =>
    intro out at_ hd h0 hi
    exact ⟨out, Ev.step (fun k => by rw [span_kept_span_Meet_1.l0]) (Ev.neg (by omega) (Ev.now _)), hi.done (by omega)⟩
  | succ d ih =>
    intro out at_ hd h0 hi
    by_cases hlt : at_ < 1000000000
    · have na := next_gt ha hlt
      have nb := next_gt hb hlt
      have hs := hi.step ha hb h0 hlt
      have hlen : out.length < 8796093022208 := by have := chk_len hi.upto.chk; omega
      obtain ⟨r, hr, hk⟩ := ih _ _ (by omega) (by omega) hs
      refine ⟨r, Ev.step (fun k => by rw [span_kept_span_Meet_1.l0]) (Ev.pos hlt (Ev.bind (next_ev at_ ha) (Ev.bind (next_ev at_ hb) (Ev.bind (has_ev at_ ha) (Ev.bind (has_ev at_ hb) (Ev.bindc (told_Meet _ _) ?_)))))), hk⟩
      simp only [mn_min]
      by_cases hc : KMeet (mem a at_) (mem b at_) = true
      · rw [if_pos hc] at hr
        exact Ev.pos hc (Ev.bindc (add_f ⟨at_, min (nextR a at_) (nextR b at_)⟩ hlen) hr)
      · rw [if_neg hc] at hr
        exact Ev.neg hc hr
    · exact ⟨out, Ev.step (fun k => by rw [span_kept_span_Meet_1.l0]) (Ev.neg hlt (Ev.now _)), hi.done hlt⟩
def KNot : Bool → Bool → Bool := fun x y => !x
theorem told_Not (x y : Bool) : span_Not_1.f x y = some (KNot x y) := by cases x <;> cases y <;> rfl
theorem kept_Not_ev {a b : List S70} (ha : Chk (-1) a) (hb : Chk (-1) b) : ∀ (d : Nat) (out : List S70) (at_ : Int), (1000000000 - at_).toNat ≤ d → 0 ≤ at_ → KInv KNot a b out at_ →
    ∃ r, Ev (fun k => span_kept_span_Not_1.l0 k a b out at_) r ∧ IsKept KNot a b r := by
  intro d
  induction d with
  | zero =>
    intro out at_ hd h0 hi
    exact ⟨out, Ev.step (fun k => by rw [span_kept_span_Not_1.l0]) (Ev.neg (by omega) (Ev.now _)), hi.done (by omega)⟩
  | succ d ih =>
    intro out at_ hd h0 hi
    by_cases hlt : at_ < 1000000000
    · have na := next_gt ha hlt
      have nb := next_gt hb hlt
      have hs := hi.step ha hb h0 hlt
      have hlen : out.length < 8796093022208 := by have := chk_len hi.upto.chk; omega
      obtain ⟨r, hr, hk⟩ := ih _ _ (by omega) (by omega) hs
      refine ⟨r, Ev.step (fun k => by rw [span_kept_span_Not_1.l0]) (Ev.pos hlt (Ev.bind (next_ev at_ ha) (Ev.bind (next_ev at_ hb) (Ev.bind (has_ev at_ ha) (Ev.bind (has_ev at_ hb) (Ev.bindc (told_Not _ _) ?_)))))), hk⟩
      simp only [mn_min]
      by_cases hc : KNot (mem a at_) (mem b at_) = true
      · rw [if_pos hc] at hr
        exact Ev.pos hc (Ev.bindc (add_f ⟨at_, min (nextR a at_) (nextR b at_)⟩ hlen) hr)
      · rw [if_neg hc] at hr
        exact Ev.neg hc hr
    · exact ⟨out, Ev.step (fun k => by rw [span_kept_span_Not_1.l0]) (Ev.neg hlt (Ev.now _)), hi.done hlt⟩
theorem union_ev {a b : List S70} (ha : Chk (-1) a) (hb : Chk (-1) b) : ∃ r, Ev (fun k => span_Union.f k a b) r ∧ IsKept KUnion a b r := by
  obtain ⟨r, hr, hk⟩ := kept_Union_ev ha hb _ [] 0 (Nat.le_refl _) (Int.le_refl _) (KInv.start _ _ _)
  exact ⟨r, Ev.bind hr (Ev.now _), hk⟩
theorem meet_ev {a b : List S70} (ha : Chk (-1) a) (hb : Chk (-1) b) : ∃ r, Ev (fun k => span_Meet.f k a b) r ∧ IsKept KMeet a b r := by
  obtain ⟨r, hr, hk⟩ := kept_Meet_ev ha hb _ [] 0 (Nat.le_refl _) (Int.le_refl _) (KInv.start _ _ _)
  exact ⟨r, Ev.bind hr (Ev.now _), hk⟩
theorem not_ev {a : List S70} (ha : Chk (-1) a) : ∃ r, Ev (fun k => span_Not.f k a) r ∧ IsKept KNot a [] r := by
  obtain ⟨r, hr, hk⟩ := kept_Not_ev ha (b := []) trivial _ [] 0 (Nat.le_refl _) (Int.le_refl _) (KInv.start _ _ _)
  exact ⟨r, Ev.bind hr (Ev.now _), hk⟩
theorem check_ev (l : List S70) (hl : (l.length : Int) ≤ 9223372036854775807) : Ev (fun k => span_Check.f k l) (chkB (-1) l) := by
  suffices h : ∀ d i : Nat, l.length - i = d → i ≤ l.length → ∀ e, Ev (fun k => span_Check.l0 k e l (l.length : Int) i) (chkB e (l.drop i)) from h l.length 0 rfl (by omega) _
  intro d
  induction d with
  | zero =>
    intro i hd hi e
    rw [List.drop_eq_nil_of_le (by omega)]
    exact Ev.step (fun k => by rw [span_Check.l0]) (Ev.neg (by omega) (Ev.const (o := some true) rfl))
  | succ d ih =>
    intro i hd hi e
    rw [drop_cons l i (by omega)]
    have ih' := ih (i + 1) (by omega) (by omega) (rd_T70 l i).f1
    refine Ev.step (fun k => by rw [span_Check.l0]) (Ev.pos (by omega) (Ev.pos (by omega) (Ev.pos (by omega) ?_)))
    simp only [chkB]
    by_cases h1 : (rd_T70 l i).f0 ≤ e
    · exact Ev.pos h1 (Ev.const (by rw [decide_eq_false (by omega)]; rfl))
    · refine Ev.neg h1 ?_
      rw [decide_eq_true (p := e < _) (by omega), Bool.true_and]
      by_cases h2 : (rd_T70 l i).f0 ≥ (rd_T70 l i).f1
      · exact Ev.pos h2 (Ev.const (by rw [decide_eq_false (by omega)]; rfl))
      · refine Ev.neg h2 ?_
        rw [decide_eq_true (p := _ < (rd_T70 l i).f1) (by omega), Bool.true_and]
        by_cases h3 : (rd_T70 l i).f1 > 1000000000
        · exact Ev.pos h3 (Ev.const (by rw [decide_eq_false (by omega)]; rfl))
        · refine Ev.neg h3 ?_
          rw [decide_eq_true (by omega), Bool.true_and, wrap_of (by omega) (by omega)]
          exact ih'
theorem within_ev {a b : List S70} (ha : Chk (-1) a) (hb : Chk (-1) b) : Ev (fun k => span_Within.f k a b) (withinR a b) := by
  have hla := chk_len ha
  suffices h : ∀ d i : Nat, a.length - i = d → i ≤ a.length → Ev (fun k => span_Within.l0 k b a (a.length : Int) i) (withinR (a.drop i) b) from h a.length 0 rfl (by omega)
  intro d
  induction d with
  | zero =>
    intro i hd hi
    rw [List.drop_eq_nil_of_le (by omega)]
    exact Ev.step (fun k => by rw [span_Within.l0]) (Ev.neg (by omega) (Ev.const (o := some true) rfl))
  | succ d ih =>
    intro i hd hi
    rw [drop_cons a i (by omega)]
    have ih' := ih (i + 1) (by omega) (by omega)
    refine Ev.step (fun k => by rw [span_Within.l0]) (Ev.pos (by omega) (Ev.pos (by omega) (Ev.pos (by omega) (Ev.bind (after_ev _ hb) ?_))))
    simp only [withinR]
    have hle := cnt_le b (rd_T70 a i).f0
    by_cases h1 : cnt b (rd_T70 a i).f0 < b.length
    · refine Ev.neg (by omega) (Ev.pos (by omega) (Ev.pos (by omega) ?_))
      rw [rd_nat b, decide_eq_true h1, Bool.true_and]
      by_cases h2 : (b.getD (cnt b (rd_T70 a i).f0) z70).f0 > (rd_T70 a i).f0
      · exact Ev.pos h2 (Ev.const (by rw [decide_eq_false (by omega)]; rfl))
      · refine Ev.neg h2 ?_
        rw [decide_eq_true (p := _ ≤ (rd_T70 a i).f0) (by omega), Bool.true_and]
        by_cases h3 : (b.getD (cnt b (rd_T70 a i).f0) z70).f1 < (rd_T70 a i).f1
        · exact Ev.pos h3 (Ev.const (by rw [decide_eq_false (by omega)]; rfl))
        · refine Ev.neg h3 ?_
          rw [decide_eq_true (by omega), Bool.true_and, wrap_of (by omega) (by omega)]
          exact ih'
    · exact Ev.pos (by omega) (Ev.const (by rw [decide_eq_false h1]; rfl))
theorem countR_le {l : List S70} : ∀ {e : Int}, Chk e l → -1 ≤ e → 0 ≤ countR l ∧ countR l ≤ 1000000000 := by
  intro e h he
  rw [count_card he h]
  have := card_not (mem l) 1000000000
  have p1 : ∀ (f : Int → Bool) n, 0 ≤ card f n := fun f n => by
    induction n with
    | zero => exact Int.le_refl _
    | succ n ih => simp only [card]; cases f n <;> simp only [b2i] <;> omega
  have h1 := p1 (mem l) 1000000000
  have h2 := p1 (fun x => !mem l x) 1000000000
  omega
theorem Chk.drop {l : List S70} : ∀ {e : Int} (i : Nat), Chk e l → ∃ e', e ≤ e' ∧ Chk e' (l.drop i) := by
  induction l with
  | nil => intro e i h; exact ⟨e, Int.le_refl _, by simpa using h⟩
  | cons s t ih =>
    intro e i h
    cases i with
    | zero => exact ⟨e, Int.le_refl _, h⟩
    | succ i =>
      obtain ⟨h1, h2, h3, h4⟩ := h
      obtain ⟨e', he, hc⟩ := ih i h4
      exact ⟨e', by omega, hc⟩
theorem count_ev {l : List S70} (hc : Chk (-1) l) : Ev (fun k => span_Count.f k l) (countR l) := by
  have hl := chk_len hc
  suffices h : ∀ d i : Nat, l.length - i = d → i ≤ l.length → ∀ n : Int, 0 ≤ n → n + countR (l.drop i) ≤ 1000000000 → Ev (fun k => span_Count.l0 k n l (l.length : Int) i) (n + countR (l.drop i)) by
    have := h l.length 0 rfl (by omega) 0 (by omega) (by have := countR_le hc (by omega); rw [List.drop_zero]; omega)
    rwa [List.drop_zero, Int.zero_add] at this
  intro d
  induction d with
  | zero =>
    intro i hd hi n h0 h1
    rw [List.drop_eq_nil_of_le (by omega)]
    exact Ev.step (fun k => by rw [span_Count.l0]) (Ev.neg (by omega) (Ev.const (by simp [countR])))
  | succ d ih =>
    intro i hd hi n h0 h1
    obtain ⟨e, he, hd'⟩ := hc.drop i
    rw [drop_cons l i (by omega)] at hd' h1 ⊢
    have hb := countR_le (l := rd_T70 l i :: l.drop (i + 1)) hd' he
    obtain ⟨c1, c2, c3, c4⟩ := hd'
    have hb2 := countR_le c4 (by omega)
    simp only [countR] at hb h1 ⊢
    refine Ev.step (fun k => by rw [span_Count.l0]) (Ev.pos (by omega) (Ev.pos (by omega) (Ev.pos (by omega) ?_)))
    rw [wrap_of (x := (rd_T70 l i).f1 - (rd_T70 l i).f0) (by omega) (by omega)]
    rw [wrap_of (x := n + _) (by omega) (by omega), wrap_of (x := (i : Int) + 1) (by omega) (by omega)]
    exact Ev.eq (ih (i + 1) (by omega) (by omega) _ (by omega) (by omega)) (by omega)
/-! The set of any spans. -/
structure IsSet (f : Int → Bool) (r : List S70) : Prop where
  chk : Chk (-1) r
  mem_ : ∀ p, mem r p = (decide (0 ≤ p) && decide (p < 1000000000) && f p)
theorem IsKept.set {K : Bool → Bool → Bool} {a b r : List S70} (h : IsKept K a b r) : IsSet (fun p => K (mem a p) (mem b p)) r := ⟨h.chk, h.mem_⟩
theorem IsSet.unique {f : Int → Bool} {r r' : List S70} (h : IsSet f r) (h' : IsSet f r') : r = r' := h.chk.canon h'.chk fun p => by rw [h.mem_, h'.mem_]
theorem IsSet.congr {f g : Int → Bool} {r : List S70} (h : IsSet f r) (hfg : ∀ p, 0 ≤ p → p < 1000000000 → f p = g p) : IsSet g r := ⟨h.chk, fun p => by
  rw [h.mem_]
  by_cases h0 : 0 ≤ p
  · by_cases h1 : p < 1000000000
    · rw [hfg p h0 h1]
    · simp [h1]
  · simp [h0]⟩
theorem IsSet.self {a : List S70} (h : Chk (-1) a) : IsSet (mem a) a := ⟨h, fun p => by
  by_cases h0 : 0 ≤ p
  · by_cases h1 : p < 1000000000
    · simp [h0, h1]
    · rw [mem_high h (by omega)]; simp
  · rw [mem_low h (by omega)]; simp⟩
def clampS (s : S70) : S70 := ⟨max s.f0 0, min s.f1 1000000000⟩
def heldR : List S70 → List S70
  | [] => []
  | s :: t => if (clampS s).f0 < (clampS s).f1 then clampS s :: heldR t else heldR t
theorem heldR_mem (l : List S70) (p : Int) : mem (heldR l) p = (decide (0 ≤ p) && decide (p < 1000000000) && mem l p) := by
  induction l with
  | nil => simp [heldR, mem_nil]
  | cons s t ih =>
    simp only [heldR]
    split
    · rename_i hn
      have e1 : (decide ((clampS s).f0 ≤ p) && decide (p < (clampS s).f1)) = true ↔ (max s.f0 0 ≤ p ∧ p < min s.f1 1000000000) := by
        rw [Bool.and_eq_true, decide_eq_true_eq, decide_eq_true_eq]; rfl
      rw [mem_cons, ih, mem_cons, Bool.eq_iff_iff, Bool.or_eq_true, e1]
      simp only [Bool.or_eq_true, Bool.and_eq_true, decide_eq_true_eq]
      constructor
      · rintro (h | h)
        · exact ⟨⟨by omega, by omega⟩, .inl ⟨by omega, by omega⟩⟩
        · exact ⟨h.1, .inr h.2⟩
      · rintro ⟨h, h1 | h2⟩
        · exact .inl ⟨by omega, by omega⟩
        · exact .inr ⟨h, h2⟩
    · rename_i hn
      rw [ih, mem_cons, Bool.eq_iff_iff]
      simp only [clampS] at hn
      simp only [Bool.or_eq_true, Bool.and_eq_true, decide_eq_true_eq]
      constructor
      · rintro ⟨h, h1⟩
        exact ⟨h, .inr h1⟩
      · rintro ⟨h, h1 | h2⟩
        · omega
        · exact ⟨h, h2⟩
def Fit1 (s : S70) : Prop := 0 ≤ s.f0 ∧ s.f0 < s.f1 ∧ s.f1 ≤ 1000000000
theorem heldR_fit (l : List S70) : ∀ s, s ∈ heldR l → Fit1 s := by
  induction l with
  | nil => intro s h; simp [heldR] at h
  | cons a t ih =>
    intro s h
    simp only [heldR] at h
    split at h
    · rename_i hl
      rcases List.mem_cons.1 h with rfl | h
      · unfold Fit1
        simp only [clampS] at hl ⊢
        omega
      · exact ih s h
    · exact ih s h
theorem heldR_len (l : List S70) : (heldR l).length ≤ l.length := by
  induction l with
  | nil => exact Nat.le_refl _
  | cons a t ih => simp only [heldR]; split <;> simp only [List.length_cons] <;> omega
def addAll : List S70 → List S70 → List S70
  | out, [] => out
  | out, s :: t => addAll (addR out s) t
theorem addAll_set : ∀ (l out : List S70) (a : Int), Upto out a → (∀ s, s ∈ l → a ≤ s.f0) → l.Pairwise (fun x y => x.f0 ≤ y.f0) → (∀ s, s ∈ l → Fit1 s) →
    Chk (-1) (addAll out l) ∧ ∀ p, mem (addAll out l) p = (mem out p || mem l p)
  | [], out, a, hu, _, _, _ => ⟨hu.chk, fun p => by simp [addAll, mem_nil]⟩
  | s :: t, out, a, hu, ha, hp, hf => by
    have hs := hf s (by simp)
    have hu' : Upto out s.f0 := hu.mono (ha s (by simp))
    obtain ⟨h1, h2⟩ := addAll_set t (addR out s) s.f0 (addR_upto hu' hs.1 hs.2.1 hs.2.2) (fun x hx => List.rel_of_pairwise_cons hp hx) (List.Pairwise.of_cons hp) (fun x hx => hf x (by simp [hx]))
    exact ⟨h1, fun p => by rw [addAll, h2, addR_mem hu', mem_cons, Bool.or_assoc]⟩
theorem lt_swo : Go.Sort.SWO slices_SortFunc_api_Span_span_Of_1.lt where
  irrefl x := by simp [slices_SortFunc_api_Span_span_Of_1.lt]
  trans x y z h1 h2 := by simp [slices_SortFunc_api_Span_span_Of_1.lt] at *; omega
  ntrans x y z h1 h2 := by simp [slices_SortFunc_api_Span_span_Of_1.lt] at *; omega
theorem sort_f (l : List S70) (hl : l.length < 4611686018427387904) : ∃ r, slices_SortFunc_api_Span_span_Of_1.f l = some r ∧ r.Perm l ∧ r.Pairwise (fun x y => x.f0 ≤ y.f0) := by
  letI : Inhabited S70 := ⟨z70⟩
  have hs := Go.Sort.pdq_sorts slices_SortFunc_api_Span_span_Of_1.lt lt_swo l.toArray 0 l.toArray.size (Go.Lib.bitLen l.length) true true (Nat.zero_le _) (Nat.le_refl _) (Or.inl rfl)
  obtain ⟨⟨h1, _, h2⟩, h3⟩ := hs
  have hsz : l.toArray.size = l.length := by simp
  rw [hsz] at h1 h2 h3
  refine ⟨_, if_pos hl, ?_, ?_⟩
  · generalize Go.Sort.pdq slices_SortFunc_api_Span_span_Of_1.lt l.toArray 0 l.length (Go.Lib.bitLen l.length) true true = A at h1 h2 h3 ⊢
    rw [Array.extract_eq_self_of_le (by omega), Array.extract_eq_self_of_le (by simp)] at h2
    exact h2
  · generalize Go.Sort.pdq slices_SortFunc_api_Span_span_Of_1.lt l.toArray 0 l.length (Go.Lib.bitLen l.length) true true = A at h1 h2 h3 ⊢
    rw [List.pairwise_iff_getElem]
    intro i j hi hj hij
    simp only [Array.length_toList] at hi hj
    have := h3 i j (Nat.zero_le _) hij (by omega)
    rw [getElem!_pos A j hj, getElem!_pos A i hi] at this
    simp [slices_SortFunc_api_Span_span_Of_1.lt] at this
    simpa using this
theorem of1_ev (L : List S70) (hL : (L.length : Int) ≤ 1000000000000) (hp : L.Pairwise (fun x y => x.f0 ≤ y.f0)) (hf : ∀ s, s ∈ L → Fit1 s) : Ev (fun k => span_Of.l1 k [] L (L.length : Int) 0) (addAll [] L) := by
  suffices h : ∀ d i : Nat, L.length - i = d → i ≤ L.length → ∀ out : List S70, out.length ≤ i → Ev (fun k => span_Of.l1 k out L (L.length : Int) i) (addAll out (L.drop i)) from h L.length 0 rfl (by omega) [] (Nat.le_refl _)
  intro d
  induction d with
  | zero =>
    intro i hd hi out ho
    rw [List.drop_eq_nil_of_le (by omega)]
    exact Ev.step (fun k => by rw [span_Of.l1]) (Ev.neg (by omega) (Ev.const (o := some out) rfl))
  | succ d ih =>
    intro i hd hi out ho
    rw [drop_cons L i (by omega)]
    have hlen : (addR out (rd_T70 L i)).length ≤ i + 1 := by
      rcases snoc_cases out with rfl | ⟨o, x, rfl⟩
      · simp [addR]
      · rw [addR_snoc]; split <;> simp at ho ⊢ <;> omega
    have ih' := ih (i + 1) (by omega) (by omega) (addR out (rd_T70 L i)) hlen
    refine Ev.step (fun k => by rw [span_Of.l1]) (Ev.pos (by omega) (Ev.pos (by omega) (Ev.pos (by omega) (Ev.bindc (add_f _ (by omega)) ?_))))
    rw [wrap_of (by omega) (by omega)]
    exact ih'
theorem of_ev (l : List S70) (hl : (l.length : Int) ≤ 1000000000000) : ∃ r, Ev (fun k => span_Of.f k l) r ∧ IsSet (mem l) r := by
  obtain ⟨L, hL, hperm, hpair⟩ := sort_f (heldR l) (by have := heldR_len l; omega)
  have hfit : ∀ s, s ∈ L → Fit1 s := fun s hs => heldR_fit l s (hperm.mem_iff.1 hs)
  have hlen : (L.length : Int) ≤ 1000000000000 := by rw [hperm.length_eq]; have := heldR_len l; omega
  obtain ⟨hc, hm⟩ := addAll_set L [] 0 (Upto.nil 0) (fun s hs => (hfit s hs).1) hpair hfit
  refine ⟨addAll [] L, ?_, hc, fun p => by rw [hm, mem_nil, Bool.false_or, mem_perm hperm, heldR_mem]⟩
  suffices h : ∀ d i : Nat, l.length - i = d → i ≤ l.length → ∀ out : List S70, out.length ≤ i → out ++ heldR (l.drop i) = heldR l → Ev (fun k => span_Of.l0 k out l (l.length : Int) i) (addAll [] L) from h l.length 0 rfl (by omega) [] (Nat.le_refl _) rfl
  intro d
  induction d with
  | zero =>
    intro i hd hi out ho he
    rw [List.drop_eq_nil_of_le (by omega), heldR, List.append_nil] at he
    subst he
    refine Ev.step (fun k => by rw [span_Of.l0]) (Ev.neg (by omega) (Ev.bindc hL ?_))
    rw [← hperm.length_eq]
    exact of1_ev L hlen hpair hfit
  | succ d ih =>
    intro i hd hi out ho he
    rw [drop_cons l i (by omega)] at he
    refine Ev.step (fun k => by rw [span_Of.l0]) (Ev.pos (by omega) (Ev.pos (by omega) (Ev.pos (by omega) ?_)))
    rw [mx_max, mn_min, wrap_of (x := (i : Int) + 1) (by omega) (by omega)]
    simp only [heldR] at he
    by_cases hc : (clampS (rd_T70 l i)).f0 < (clampS (rd_T70 l i)).f1
    · rw [if_pos hc] at he
      refine Ev.pos hc (Ev.pos (by omega) ?_)
      exact ih (i + 1) (by omega) (by omega) _ (by simp; omega) (by rw [← he]; simp [clampS])
    · rw [if_neg hc] at he
      exact Ev.neg hc (ih (i + 1) (by omega) (by omega) out (by omega) he)
theorem awake_ev : Ev (fun k => compradorlaw06_awake.f k) true := by
  obtain ⟨r, hr, hs⟩ := of_ev [⟨5, 9⟩, ⟨1, 5⟩] (by simp)
  obtain rfl : r = [⟨1, 9⟩] := hs.unique ⟨by simp [Chk], fun p => by
    rw [Bool.eq_iff_iff]; simp [mem]; omega⟩
  have c9 : Chk (-1) [(⟨1, 9⟩ : S70)] := by simp [Chk]
  have c12 : Chk (-1) [(⟨8, 12⟩ : S70)] := by simp [Chk]
  obtain ⟨n, hn, ns⟩ := not_ev c9
  obtain rfl : n = [⟨0, 1⟩, ⟨9, 1000000000⟩] := ns.set.unique ⟨by simp [Chk], fun p => by
    rw [Bool.eq_iff_iff]; simp [mem, KNot]; omega⟩
  obtain ⟨m, hm, ms⟩ := meet_ev c9 c12
  obtain rfl : m = [⟨8, 9⟩] := ms.set.unique ⟨by simp [Chk], fun p => by
    rw [Bool.eq_iff_iff]; simp [mem, KMeet]; omega⟩
  exact Ev.bind hr (Ev.bind hn (Ev.bind hm (Ev.const (by decide))))
end Go.Proofs.Ytlndfdiigjhhnaa.PSl
