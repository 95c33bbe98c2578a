/- Versions that rise, and sets of spans. Conditions: none. -/
import Derived.Test.YtihenfpnilliiaaMnA
import Derived.Test.YtihenfpnilliiaaSpOf
set_option linter.unusedVariables false
set_option linter.unusedSimpArgs false
namespace Go.Proofs.Ytihenfpnilliiaa.Mn
open Go Go.Eng
theorem chkS_iff : ∀ (l : List Sp) (e : Int), chkS e l = true ↔ Sp.Chk e l
  | [], e => by simp [chkS, Sp.Chk]
  | s :: t, e => by simp only [chkS, Bool.and_eq_true, decide_eq_true_eq, chkS_iff t, Sp.Chk]
def Rise : Int → List Int → Prop
  | _, [] => True
  | e, v :: t => e < v ∧ v < 1000000000 ∧ Rise v t
theorem Rise.gt : ∀ {l : List Int} {e : Int}, Rise e l → ∀ v ∈ l, e < v ∧ v < 1000000000
  | [], _, _, v, h => by cases h
  | a :: t, e, ⟨h1, h2, h3⟩, v, h => by
    rcases List.mem_cons.1 h with rfl | h
    · exact ⟨h1, h2⟩
    · have := h3.gt v h; omega
theorem Rise.pw : ∀ {l : List Int} {e : Int}, Rise e l → l.Pairwise (· < ·)
  | [], _, _ => List.Pairwise.nil
  | a :: t, e, ⟨h1, h2, h3⟩ => List.Pairwise.cons (fun v hv => (h3.gt v hv).1) h3.pw
def vs (l : List Rl) : List Int := l.map (·.ver)
theorem chk_rise : ∀ (l : List Rl) (e : Int), goOn okRl (fun _ r => r.ver) e l = true → Rise e (vs l)
  | [], _, _ => trivial
  | r :: t, e, h => by
    simp only [goOn, okRl, Bool.and_eq_true, decide_eq_true_eq] at h
    exact ⟨h.1.1, h.1.2.1, chk_rise t _ h.2⟩
def vsp (l : List Int) : List Sp := l.map fun v => ⟨v, v + 1⟩
theorem mem_vsp (p : Int) : ∀ l : List Int, Sp.mem (vsp l) p = decide (p ∈ l)
  | [] => rfl
  | v :: t => by
    show Sp.mem (⟨v, v + 1⟩ :: vsp t) p = _
    rw [Sp.mem_cons, mem_vsp p t, Bool.eq_iff_iff]
    simp only [Bool.or_eq_true, Bool.and_eq_true, decide_eq_true_eq, List.mem_cons]
    constructor
    · rintro (h | h)
      · left; omega
      · exact .inr h
    · rintro (h | h)
      · left; omega
      · exact .inr h
theorem card_list (n : Nat) : ∀ l : List Int, l.Nodup → (∀ x ∈ l, 0 ≤ x ∧ x < n) → Sp.card (fun x => decide (x ∈ l)) n = l.length
  | [], _, _ => Sp.card_none fun i _ => by simp
  | v :: t, hn, hb => by
    rw [List.nodup_cons] at hn
    have hv := hb v (by simp)
    have h1 := card_list n t hn.2 fun x hx => hb x (by simp [hx])
    have h2 := Sp.card_seg v (v + 1) hv.1 (by omega) n
    have h3 := Sp.card_or (f := fun x => decide (v ≤ x) && decide (x < v + 1)) (g := fun x => decide (x ∈ t)) n (fun x hx => by
      simp only [Bool.and_eq_true, decide_eq_true_eq] at hx
      have : x = v := by omega
      rw [this]; exact decide_eq_false hn.1)
    rw [Sp.card_congr (g := fun x => (decide (v ≤ x) && decide (x < v + 1)) || decide (x ∈ t)) (fun i _ => by
      rw [Bool.eq_iff_iff]
      simp only [Bool.or_eq_true, Bool.and_eq_true, decide_eq_true_eq, List.mem_cons]
      constructor
      · rintro (h | h)
        · left; omega
        · exact .inr h
      · rintro (h | h)
        · left; omega
        · exact .inr h), h3, h1, h2, List.length_cons]
    omega
theorem last_bound (p : Int) : ∀ {l : List Sp} {e : Int}, Sp.Chk e l → e ≤ Sp.lastHi e l ∧ (Sp.mem l p = true → p < Sp.lastHi e l)
  | [], e, _ => ⟨Int.le_refl _, fun h => by cases h⟩
  | s :: t, e, ⟨h1, h2, h3, h4⟩ => by
    have ih := last_bound p h4
    refine ⟨by show e ≤ Sp.lastHi s.f1 t; omega, fun h => ?_⟩
    show p < Sp.lastHi s.f1 t
    rw [Sp.mem_cons, Bool.or_eq_true, Bool.and_eq_true, decide_eq_true_eq, decide_eq_true_eq] at h
    rcases h with h | h
    · omega
    · exact ih.2 h
/-- The greatest place of a set. -/
theorem top_mem {l : List Sp} (h : Sp.Chk (-1) l) (hl : l.length ≠ 0) : Sp.mem l ((Sp.rd_T123 l ((l.length - 1 : Nat) : Int)).f1 - 1) = true ∧ ∀ p, Sp.mem l p = true → p ≤ (Sp.rd_T123 l ((l.length - 1 : Nat) : Int)).f1 - 1 := by
  rcases Sp.snoc_cases l with rfl | ⟨i, x, rfl⟩
  · exact absurd rfl hl
  · have hx : Sp.rd_T123 (i ++ [x]) (((i ++ [x]).length - 1 : Nat) : Int) = x := by
      rw [Sp.rd_nat]; simp [List.getD_eq_getElem?_getD]
    rw [hx]
    obtain ⟨h1, h2, h3, h4⟩ := Sp.Chk_snoc.1 h
    refine ⟨?_, fun p hp => ?_⟩
    · rw [Sp.mem_append, Sp.mem_one, Bool.or_eq_true, Bool.and_eq_true, decide_eq_true_eq, decide_eq_true_eq]
      right; omega
    · have := (last_bound p h).2 hp
      rw [Sp.lastHi_snoc] at this
      omega
theorem mem_none {l : List Sp} (h : Sp.Chk (-1) l) (hn : ∀ p, Sp.mem l p = false) : l.length = 0 := by
  by_cases hl : l.length = 0
  · exact hl
  · have := (top_mem h hl).1
    rw [hn] at this; cases this
/-- The versions in a set, the newest first. -/
def dn (l : List Int) (inn : List Sp) : List Int := l.reverse.filter fun v => Sp.mem inn v
theorem mem_dn {l : List Int} {inn : List Sp} {p : Int} : p ∈ dn l inn ↔ p ∈ l ∧ Sp.mem inn p = true := by
  simp [dn, List.mem_filter]
theorem dn_pw {l : List Int} {e : Int} (inn : List Sp) (h : Rise e l) : (dn l inn).Pairwise (· > ·) := by
  refine List.Pairwise.filter _ ?_
  rw [List.pairwise_reverse]
  exact h.pw
structure Both (l : List Int) (inn b : List Sp) : Prop where
  chk : Sp.Chk (-1) b
  mem_ : ∀ p, Sp.mem b p = decide (p ∈ dn l inn)
theorem Both.of {l : List Int} {inn v b : List Sp} (hr : Rise (-1) l) (hv : Sp.IsSet (Sp.mem (vsp l)) v) (hb : Sp.IsKept Sp.KMeet v inn b) : Both l inn b := by
  refine ⟨hb.chk, fun p => ?_⟩
  rw [hb.mem_, hv.mem_, mem_vsp, Bool.eq_iff_iff]
  simp only [Sp.KMeet, Bool.and_eq_true, decide_eq_true_eq, mem_dn]
  constructor
  · rintro ⟨_, h1, h2⟩
    exact ⟨h1.2, h2⟩
  · rintro ⟨h1, h2⟩
    have := hr.gt p h1
    exact ⟨⟨by omega, by omega⟩, ⟨⟨by omega, by omega⟩, h1⟩, h2⟩
theorem Both.count {l : List Int} {inn b : List Sp} (hr : Rise (-1) l) (h : Both l inn b) : ((dn l inn).length : Int) = Sp.countR b := by
  rw [Sp.count_card (by omega) h.chk, Sp.card_congr (g := fun x => decide (x ∈ dn l inn)) (fun i _ => h.mem_ _), card_list]
  · exact (dn_pw inn hr).imp (by intro a b h; omega)
  · intro x hx
    have := hr.gt x (mem_dn.1 hx).1
    omega
theorem Both.top {l : List Int} {inn b : List Sp} (hr : Rise (-1) l) (h : Both l inn b) : (dn l inn = [] ∧ b.length = 0) ∨ ∃ d t, dn l inn = d :: t ∧ b.length ≠ 0 ∧ d = (Sp.rd_T123 b ((b.length - 1 : Nat) : Int)).f1 - 1 := by
  cases hd : dn l inn with
  | nil => exact .inl ⟨rfl, mem_none h.chk fun p => by rw [h.mem_, hd]; simp⟩
  | cons d t =>
    refine .inr ⟨d, t, rfl, fun hb => ?_, ?_⟩
    · have := h.mem_ d
      rw [hd] at this
      cases b with
      | nil => simp [Sp.mem] at this
      | cons _ _ => cases hb
    · have hb : b.length ≠ 0 := fun hb => by
        have := h.mem_ d
        rw [hd] at this
        cases b with
        | nil => simp [Sp.mem] at this
        | cons _ _ => cases hb
      obtain ⟨h1, h2⟩ := top_mem h.chk hb
      have g1 := h2 d (by rw [h.mem_, hd]; simp)
      rw [h.mem_, hd] at h1
      simp only [decide_eq_true_eq, List.mem_cons] at h1
      have hp := dn_pw inn hr
      rw [hd, List.pairwise_cons] at hp
      rcases h1 with h1 | h1
      · omega
      · have := hp.1 _ h1; omega
end Go.Proofs.Ytihenfpnilliiaa.Mn
