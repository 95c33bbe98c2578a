/- The law TurnFair, plainly. Conditions: the arguments have the forms of their types. -/
import Derived.Test.YtjemihhhkhdbeaaTu2
set_option linter.unusedVariables false
set_option linter.unusedSimpArgs false
namespace Go.Proofs.Ytjemihhhkhdbeaa.Mn
open Go Go.Eng
abbrev doSh : Sh := .pair (.int .i64) (.pair (.int .i64) (.pair .str .unit))
/-- Queues that may be looked at. -/
structure Tq (xs : List P) (n b : Nat) : Prop where
  len : xs.length = n
  ql : ∀ j, j < n → (qu xs j).length ≤ b
  nm : ∀ j, j < n → ∀ p ∈ qu xs j, p.toStr.size ≤ 60
  nl : ∀ j, j < n → (rd xs j).fst.isNil = true → qu xs j = []
theorem Tq.mono {xs : List P} {n b b' : Nat} (h : Tq xs n b) (hb : b ≤ b') : Tq xs n b' := ⟨h.len, fun j hj => Nat.le_trans (h.ql j hj) hb, h.nm, h.nl⟩
theorem Tq.put {xs : List P} {n b i : Nat} {f : Bool} {l : List P} (h : Tq xs n b) (hl : l.length ≤ b) (hm : ∀ p ∈ l, p.toStr.size ≤ 60) (hn : f = true → l = []) : Tq (putQ xs i f l) n b := by
  by_cases hi : i < xs.length
  · refine ⟨by rw [putQ_len]; exact h.len, fun j hj => ?_, fun j hj => ?_, fun j hj => ?_⟩
    · by_cases e : i = j
      · subst e; rw [putQ_same hi]; exact hl
      · rw [putQ_other e]; exact h.ql j hj
    · by_cases e : i = j
      · subst e; rw [putQ_same hi]; exact hm
      · rw [putQ_other e]; exact h.nm j hj
    · by_cases e : i = j
      · subst e; rw [putQ_same hi]; unfold putQ; rw [rd_set_eq hi]; exact hn
      · rw [putQ_other e]; unfold putQ; rw [rd_set_ne e]; exact h.nl j hj
  · have : putQ xs i f l = xs := by unfold putQ; exact List.set_eq_of_length_le (by omega)
    rw [this]; exact h
theorem Tq.push {xs : List P} {n b i : Nat} {s : P} (h : Tq xs n b) (hi : i < n) (hs : s.toStr.size ≤ 60) : Tq (pushQ xs i s) n (b + 1) := by
  unfold pushQ
  cases inQ s (qu xs i) with
  | true => exact h.mono (by omega)
  | false =>
    have h1 := h.ql i hi
    refine (h.mono (by omega : b ≤ b + 1)).put (by simp only [List.length_append, List.length_singleton]; omega) (fun p hp => ?_) (fun e => by simp at e)
    rcases List.mem_append.1 hp with hp | hp
    · exact h.nm i hi p hp
    · rw [List.mem_singleton.1 hp]; exact hs
theorem Tq.new (n : Nat) : Tq (List.replicate n (.pair (.list true []) .unit)) n 0 := by
  have hq : ∀ j, j < n → qu (List.replicate n (.pair (.list true []) .unit)) j = [] := fun j hj => by
    simp [qu, rd, hj, P.fst, P.xs]
  exact ⟨by simp, fun j hj => by rw [hq j hj]; simp, fun j hj => by rw [hq j hj]; simp, fun j hj _ => hq j hj⟩
/-! ### how many clients -/
def nT (c : Int) : Nat := (2 + (c.tmod 8 + 8).tmod 8).toNat
theorem tm_in (x n : Int) (hn : 0 < n) : ∃ j : Nat, (j : Int) < n ∧ (x.tmod n + n).tmod n = j := by
  have h1 := Int.tmod_lt_of_pos x hn
  have h2 := Int.lt_tmod_of_pos x hn
  have h3 := Int.tmod_lt_of_pos (x.tmod n + n) hn
  have h4 : 0 ≤ (x.tmod n + n).tmod n := Int.tmod_nonneg _ (by omega)
  exact ⟨((x.tmod n + n).tmod n).toNat, by omega, by omega⟩
theorem tm_wrap (x n : Int) (hn : 0 < n) (hb : n ≤ 1000) : IntKind.i64.wrap (x.tmod n + n) = x.tmod n + n := by
  have h1 := Int.tmod_lt_of_pos x hn
  have h2 := Int.lt_tmod_of_pos x hn
  exact wrap_of (by omega) (by omega)
theorem nT_eq (c : Int) : IntKind.i64.wrap (2 + (IntKind.i64.wrap (c.tmod 8 + 8)).tmod 8) = (nT c : Int) ∧ 2 ≤ nT c ∧ nT c ≤ 9 := by
  rw [tm_wrap c 8 (by omega) (by omega)]
  obtain ⟨j, h1, h2⟩ := tm_in c 8 (by omega)
  unfold nT
  rw [h2, wrap_of (by omega) (by omega)]
  omega
theorem fair1 (l last : P) (n : Nat) (hn : 0 < n) (hn9 : n ≤ 9) (hl : l.xs.length ≤ 150) (hd : ∀ d ∈ l.xs, d.snd.snd.fst.toStr.size ≤ 60) (nb0 : Bool) (xs0 : List P) (h0 : Tq xs0 n 0) :
    ∃ (nb : Bool) (xs : List P), Tq xs n 150 ∧ loopT f4_s250 FUEL [l, I (n : Int), I 0, last, .list nb0 xs0] = some (0, [I (n : Int), last, .list nb xs]) := by
  obtain ⟨b, h1, lp⟩ := loop_inv (step := f4_s250) (β := Bool × List P) (fun i b => Tq b.2 n i) (fun i b => [l, I (n : Int), I (i : Int), last, .list b.1 b.2]) (fun b => (0, [I (n : Int), last, .list b.1 b.2])) l.xs.length (by omega) (by
    rintro i ⟨nb, xs⟩ hi hq
    simp only at hq
    have hm := rd_in hi
    obtain ⟨j, hj, hje⟩ := tm_in (rd l.xs i).snd.fst.toInt (n : Int) (by omega)
    have hw := tm_wrap (rd l.xs i).snd.fst.toInt (n : Int) (by omega) (by omega)
    have hb := hq.ql j (by omega)
    obtain ⟨nb', hp⟩ := Push_told nb xs last j (rd l.xs i).snd.snd.fst (by rw [hq.len]; omega) (by omega)
    have hz : ((n : Int) == 0) = false := by rw [beq_eq_false_iff_ne]; omega
    refine ⟨(nb', pushQ xs j (rd l.xs i).snd.snd.fst), hq.push (by omega) (hd _ hm), fun K => ?_⟩
    simp only [f4_s250, Tree.run, Bool.cond_decide]
    simp only [Tree.run, lf0, lfs, toInt_int, toBool_bool, toStr_str, xs_list, nil_list, fst_pair, snd_pair, List.length_map, Option.bind_some, nb_same, cond_true, cond_false, decide_true, decide_false, eq_true (show (i : Int) < l.xs.length by omega), if_true, inb_nat hi, Int.toNat_natCast, hz, hw, hje, hp, wrap_succ i (by omega)]) (by
    rintro ⟨nb, xs⟩ _ K
    simp only [f4_s250, Tree.run, Bool.cond_decide]
    simp only [Tree.run, lf0, lfs, toInt_int, toBool_bool, toStr_str, xs_list, nil_list, fst_pair, snd_pair, List.length_map, Option.bind_some, nb_same, cond_true, cond_false, decide_true, decide_false, eq_false (show ¬ (l.xs.length : Int) < l.xs.length by omega), if_false]) (nb0, xs0) h0
  exact ⟨b.1, b.2, h1.mono hl, lp⟩
/-! ### the table -/
structure Tab (S : P) (E : Nat → Nat → Int) : Prop where
  len : S.xs.length = 9
  row : ∀ a, a < 9 → (rd S.xs a).xs.length = 9
  val : ∀ a b, a < 9 → b < 9 → (rd (rd S.xs a).xs b).toInt = E a b
theorem Tab.set {S : P} {E : Nat → Nat → Int} (h : Tab S E) {i c : Nat} (hi : i < 9) (hc : c < 9) (v : Int) (f g : Bool) :
    Tab (.list f (S.xs.set i (.list g ((rd S.xs i).xs.set c (I v))))) (fun a b => if a = i ∧ b = c then v else E a b) := by
  have hl := h.len
  have hr := h.row i hi
  refine ⟨by simp only [xs_list, List.length_set]; exact h.len, fun a ha => ?_, fun a b ha hb => ?_⟩
  · simp only [xs_list]
    by_cases e : i = a
    · subst e; rw [rd_set_eq (by omega)]; simp only [xs_list, List.length_set]; exact h.row i hi
    · rw [rd_set_ne e]; exact h.row a ha
  · simp only [xs_list]
    by_cases e : i = a
    · subst e
      rw [rd_set_eq (by omega)]
      simp only [xs_list]
      by_cases e2 : c = b
      · subst e2; rw [rd_set_eq (by omega), if_pos (by simp)]; rfl
      · rw [rd_set_ne e2, if_neg (fun x => e2 x.2.symm)]; exact h.val i b hi hb
    · rw [rd_set_ne e, if_neg (fun x => e x.1.symm)]; exact h.val a b ha hb
def S9 : P := .list false (List.replicate 9 (.list false (List.replicate 9 (I 0))))
theorem Tab.nine : Tab S9 (fun _ _ => 0) := ⟨rfl, by decide, fun a b ha hb => by
  have : ∀ a < 9, ∀ b < 9, (rd (rd S9.xs a).xs b).toInt = 0 := by decide
  exact this a ha b hb⟩
theorem bind_eq {z y : Option (Nat × List P)} {g : (Nat × List P) → Option (Nat × List P)} (h : z = y) : z.bind g = y.bind g := by rw [h]
theorem Tab.cong {S : P} {E F : Nat → Nat → Int} (h : Tab S E) (he : ∀ a b, a < 9 → b < 9 → E a b = F a b) : Tab S F := ⟨h.len, h.row, fun a b ha hb => by rw [h.val a b ha hb, he a b ha hb]⟩
/-- The table in the round i behind a turn of c. -/
def Fe (E : Nat → Nat → Int) (c i : Nat) : Nat → Nat → Int := fun a b => if a = c ∧ b < i then 0 else if b = c ∧ a < i then E a b + 1 else E a b
theorem Fe_succ (E : Nat → Nat → Int) (c i a b : Nat) : (if a = c ∧ b = i then 0 else if a = i ∧ b = c then Fe E c i i c + 1 else Fe E c i a b) = Fe E c (i + 1) a b := by
  unfold Fe
  by_cases h1 : a = c ∧ b = i
  · rw [if_pos h1, if_pos ⟨h1.1, by omega⟩]
  · rw [if_neg h1]
    by_cases h2 : a = i ∧ b = c
    · obtain ⟨rfl, rfl⟩ := h2
      have hne : a ≠ b := fun e => h1 ⟨e, e.symm⟩
      rw [if_pos ⟨rfl, rfl⟩, if_neg (fun x => hne x.1), if_neg (fun x => absurd x.2 (by omega)), if_neg (fun x => hne x.1), if_pos ⟨rfl, by omega⟩]
    · rw [if_neg h2]
      by_cases h3 : a = c ∧ b < i
      · rw [if_pos h3, if_pos ⟨h3.1, by omega⟩]
      · rw [if_neg h3]
        by_cases h4 : b = c ∧ a < i
        · rw [if_pos h4, if_neg (fun x => h1 ⟨x.1, by omega⟩), if_pos ⟨h4.1, by omega⟩]
        · rw [if_neg h4, if_neg (fun x => by rcases Nat.lt_succ_iff_lt_or_eq.1 x.2 with g | g; exact h3 ⟨x.1, g⟩; exact h1 ⟨x.1, g⟩), if_neg (fun x => by rcases Nat.lt_succ_iff_lt_or_eq.1 x.2 with g | g; exact h4 ⟨x.1, g⟩; exact h2 ⟨g, x.1⟩)]
theorem Fe_le {E : Nat → Nat → Int} {k : Nat} (c i a b : Nat) (h : 0 ≤ E a b ∧ E a b ≤ k) : 0 ≤ Fe E c i a b ∧ Fe E c i a b ≤ (k + 1 : Nat) := by
  unfold Fe; split
  · omega
  · split <;> omega
theorem inner (n c k : Nat) (hn : n ≤ 9) (hc : c < n) (hk : k ≤ 1000) (x1 x4 x5 x6 x7 x8 x9 last S0 : P) (nb : Bool) (xs : List P) (E : Nat → Nat → Int) (hq : Tq xs n 150) (hS : Tab S0 E) (hE : ∀ a b, a < 9 → b < 9 → 0 ≤ E a b ∧ E a b ≤ k)
    (hf : ∀ i, i < n → i ≠ c → qu xs i ≠ [] → E i c = 0) :
    ∃ S, Tab S (Fe E c n) ∧ loopT f4_s521374 FUEL [I (n : Int), x1, I (c : Int), I 0, x4, x5, x6, x7, x8, x9, last, S0, .list nb xs] = some (1, [I (n : Int), x1, x4, x5, x6, x7, x8, x9, last, S, .list nb xs]) := by
  obtain ⟨S, h1, lp⟩ := loop_inv (step := f4_s521374) (β := P) (fun i S => Tab S (Fe E c i)) (fun i S => [I (n : Int), x1, I (c : Int), I (i : Int), x4, x5, x6, x7, x8, x9, last, S, .list nb xs]) (fun S => (1, [I (n : Int), x1, x4, x5, x6, x7, x8, x9, last, S, .list nb xs])) n (by omega) (by
    intro i S hi hT
    have hlen := hq.len
    have hb := hq.ql i hi
    have hl := List_told nb xs last i (by omega) (Nat.le_trans hb (by omega)) (hq.nl i hi)
    have hv := hT.val i c (by omega) (by omega)
    have hle := Fe_le (E := E) (k := k) c i i c (hE i c (by omega) (by omega))
    have hw : IntKind.i64.wrap (Fe E c i i c + 1) = Fe E c i i c + 1 := wrap_of (by omega) (by omega)
    have t1 := hT.set (i := i) (c := c) (by omega) (by omega) (Fe E c i i c + 1) false false
    have t2 := (t1.set (i := c) (c := i) (by omega) (by omega) 0 false false).cong (F := Fe E c (i + 1)) (fun a b _ _ => Fe_succ E c i a b)
    have hrd : rd (rd (S.xs.set i (.list false ((rd S.xs i).xs.set c (I (Fe E c i i c + 1))))) i).xs c = I (Fe E c i i c + 1) := by
      have := hT.len; have := hT.row i (by omega)
      rw [rd_set_eq (by omega)]; simp only [xs_list]; rw [rd_set_eq (by omega)]
    refine ⟨_, t2, fun K => ?_⟩
    simp only [f4_s521374, Tree.run, Bool.cond_decide]
    simp only [Tree.run, lf0, lfs, toInt_int, toBool_bool, toStr_str, xs_list, nil_list, fst_pair, snd_pair, List.length_map, Option.bind_some, nb_same, cond_true, cond_false, decide_true, decide_false, eq_true (show (i : Int) < n by omega), if_true, inb_nat (show i < 9 by omega), inb_nat (show c < 9 by omega), Int.toNat_natCast, hv, hw, wrap_succ i (by omega)]
    by_cases e : i = c
    · have : ((i : Int) != (c : Int)) = false := by rw [e]; simp
      simp only [this, cond_false]
    · have : ((i : Int) != (c : Int)) = true := by rw [bne_iff_ne]; omega
      simp only [this, cond_true, hl, Tree.run, lf0, lfs, toInt_int, toBool_bool, toStr_str, xs_list, nil_list, fst_pair, snd_pair, List.length_map, Option.bind_some, nb_same, cond_true, cond_false, decide_true, decide_false]
      by_cases hz : qu xs i = []
      · have hz' : ¬ (((qu xs i).length : Int) > 0) := by rw [hz]; simp
        simp only [eq_false hz', if_false]
      · have hz' : ((qu xs i).length : Int) > 0 := by have := List.length_pos_iff.2 hz; omega
        have he : Fe E c i i c = 0 := by
          unfold Fe
          rw [if_neg (fun x => e x.1), if_neg (fun x => absurd x.2 (by omega))]
          exact hf i hi e hz
        rw [he] at hrd ⊢
        simp only [eq_true hz', if_true, hrd, toInt_int, eq_false (show ¬ ((0 : Int) + 1 > 1) by omega), if_false]) (by
    intro S _ K
    simp only [f4_s521374, Tree.run, Bool.cond_decide]
    simp only [Tree.run, lf0, lfs, toInt_int, toBool_bool, toStr_str, xs_list, nil_list, fst_pair, snd_pair, List.length_map, Option.bind_some, nb_same, cond_true, cond_false, decide_true, decide_false, eq_false (show ¬ (n : Int) < n by omega), if_false]) S0 (hS.cong fun a b _ _ => by unfold Fe; rw [if_neg (by omega), if_neg (by omega)])
  exact ⟨S, h1, lp⟩
/-! ### whose turn is next -/
def dd (n l j : Nat) : Nat := if l < j then j - l - 1 else j + n - l - 1
theorem cyc_dd {n l j : Nat} (hl : l < n) (hj : j < n) : cyc n l (dd n l j) = j ∧ dd n l j < n := by
  unfold cyc dd; split <;> split <;> omega
theorem dd_cyc {n l i : Nat} (hl : l < n) (hi : i < n) : dd n l (cyc n l i) = i := by
  unfold cyc dd; split <;> split <;> omega
theorem dd_next {n l c i j : Nat} (hl : l < n) (hc : c < n) (hi : i < n) (hj : j < n) (h1 : dd n l c < dd n l i) (h2 : dd n c j < dd n c i) : dd n l j < dd n l i := by
  unfold dd at *; (repeat' split at h1) <;> (repeat' split at h2) <;> (repeat' split) <;> omega
theorem dd_self {n c : Nat} (hc : c < n) {i : Nat} (hi : i < n) : ¬ dd n c c < dd n c i := by
  unfold dd; (repeat' split) <;> omega
structure Fst where
  nb : Bool
  xs : List P
  l : Nat
  S : P
  E : Nat → Nat → Int
structure Fr2 (n k : Nat) (b : Fst) : Prop where
  q : Tq b.xs n 150
  l : b.l < n
  t : Tab b.S b.E
  e : ∀ a c, a < 9 → c < 9 → 0 ≤ b.E a c ∧ b.E a c ≤ k
  f : ∀ i j, i < n → j < n → qu b.xs i ≠ [] → dd n b.l j < dd n b.l i → b.E i j = 0
theorem fair2 (n : Nat) (hn : n ≤ 9) (b0 : Fst) (h0 : Fr2 n 0 b0) :
    loopT f4_s1018 FUEL [I (n : Int), I 0, .pair (I (b0.l : Int)) .unit, b0.S, .list b0.nb b0.xs] = some (1, []) ∨
    loopT f4_s1018 FUEL [I (n : Int), I 0, .pair (I (b0.l : Int)) .unit, b0.S, .list b0.nb b0.xs] = some (0, [.bool true]) := by
  have := loop_inv3 (step := f4_s1018) (β := Fst) (z := (0, [.bool true])) (fun k b => Fr2 n k b) (fun k b => [I (n : Int), I (k : Int), .pair (I (b.l : Int)) .unit, b.S, .list b.nb b.xs]) (fun _ => (1, [])) 200 (by omega) (by
    rintro k ⟨nb, xs, l, S, E⟩ hk ⟨hq, hl, ht, he, hf⟩
    simp only at hq hl ht he hf
    have hlen := hq.len
    rcases Pop_told nb xs l .unit (by omega) (by omega) with ⟨h1, hp⟩ | ⟨i0, p, q, h1, h2, h3, hp⟩
    · have hall : ∀ j, j < xs.length → qu xs j = [] := fun j hj => by
        obtain ⟨g1, g2⟩ := cyc_dd (n := xs.length) (l := l) (by omega) hj
        have := h1 _ g2
        rwa [g1] at this
      have hL := Len_told nb xs (.pair (I (l : Int)) .unit) (by omega) (fun j hj => by rw [hall j hj]; simp)
      rw [tot_zero _ hall] at hL
      refine .inr fun K => ?_
      simp only [f4_s1018, Tree.run, Bool.cond_decide]
      simp only [Tree.run, lf0, lfs, toInt_int, toBool_bool, toStr_str, xs_list, nil_list, fst_pair, snd_pair, List.length_map, Option.bind_some, nb_same, cond_true, cond_false, decide_true, decide_false, eq_true (show (k : Int) < 200 by omega), if_true, hp, Bool.not_false, hL, show (((0 : Nat) : Int) == 0) = true from rfl, awake35_told]
    · rw [hlen] at h1 h2 h3 hp
      have hcl := cyc_lt (n := n) (l := l) hl h1
      have hdc := dd_cyc (n := n) hl h1
      generalize hc : cyc n l i0 = c at hcl hdc h3 hp
      have hps : p.toStr.size ≤ 60 := hq.nm c hcl p (by rw [h3]; simp)
      have hq' : Tq (putQ xs c (rd xs c).fst.isNil q) n 150 := by
        refine hq.put ?_ (fun x hx => hq.nm c hcl x (by rw [h3]; exact List.mem_cons_of_mem _ hx)) (fun e => ?_)
        · have := hq.ql c hcl; rw [h3] at this; simp at this; omega
        · have := hq.nl c hcl e; rw [h3] at this; cases this
      have hfar : ∀ i, i < n → i ≠ c → qu xs i ≠ [] → dd n l c < dd n l i := fun i hi hne hz => by
        obtain ⟨g1, g2⟩ := cyc_dd (n := n) (l := l) hl hi
        rcases Nat.lt_trichotomy (dd n l i) i0 with g | g | g
        · have := h2 _ g; rw [g1] at this; exact absurd this hz
        · rw [g, hc] at g1; exact absurd g1.symm hne
        · omega
      obtain ⟨S', t', lp⟩ := inner n c k hn hcl (by omega) (I (k : Int)) (I (c : Int)) (I (n : Int)) (.bool false) p (.int .i64 (p.toStr.size : Int)) (.bool false) (.pair (I (c : Int)) .unit) S false (putQ xs c (rd xs c).fst.isNil q) E hq' ht he (fun i hi hne hz => by
        rw [putQ_other (fun e => hne e.symm)] at hz
        exact hf i c hi hcl hz (hfar i hi hne hz))
      refine .inl ⟨⟨false, putQ xs c (rd xs c).fst.isNil q, c, S', Fe E c n⟩, ⟨hq', hcl, t', fun a b ha hb => Fe_le c n a b (he a b ha hb), fun i j hi hj hz hd => ?_⟩, fun K => ?_⟩
      · simp only at hz hd ⊢
        by_cases e : i = c
        · unfold Fe; rw [if_pos ⟨e, hj⟩]
        · have hjc : j ≠ c := fun e2 => by rw [e2] at hd; exact dd_self hcl hi hd
          rw [putQ_other (fun e2 => e e2.symm)] at hz
          unfold Fe
          rw [if_neg (fun x => e x.1), if_neg (fun x => hjc x.1)]
          exact hf i j hi hj hz (dd_next hl hcl hi hj (hfar i hi e hz) hd)
      · simp only [f4_s1018, Tree.run, Bool.cond_decide]
        simp only [Tree.run, lf0, lfs, toInt_int, toBool_bool, toStr_str, xs_list, nil_list, fst_pair, snd_pair, List.length_map, Option.bind_some, nb_same, cond_true, cond_false, decide_true, decide_false, eq_true (show (k : Int) < 200 by omega), if_true, hp, Bool.not_true, eq_false (show ¬ (c : Int) < 0 by omega), if_false, eq_false (show ¬ (c : Int) ≥ n by omega), eq_false (show ¬ (p.toStr.size : Int) > 60 by omega), decide_false]
        rw [show loopT f4_s521374 FUEL [.int .i64 (n : Int), .int .i64 (k : Int), .int .i64 (c : Int), .int .i64 0, .int .i64 (c : Int), .int .i64 (n : Int), _, p, .int .i64 (p.toStr.size : Int), _, .pair (.int .i64 (c : Int)) .unit, S, .list false (putQ xs c (rd xs c).fst.isNil q)] = _ from lp]
        simp only [Tree.run, lf0, lfs, toInt_int, toBool_bool, toStr_str, xs_list, nil_list, fst_pair, snd_pair, List.length_map, Option.bind_some, nb_same, cond_true, cond_false, decide_true, decide_false, nb_ne (show 1 ≠ 0 by omega), wrap_succ k (by omega)]) (by
    rintro b _ K
    simp only [f4_s1018, Tree.run, Bool.cond_decide]
    simp only [Tree.run, lf0, lfs, toInt_int, toBool_bool, toStr_str, xs_list, nil_list, fst_pair, snd_pair, List.length_map, Option.bind_some, nb_same, cond_true, cond_false, decide_true, decide_false, eq_false (show ¬ ((200 : Nat) : Int) < 200 by omega), if_false]) b0 h0
  rcases this with ⟨b, _, h⟩ | h
  · exact .inl h
  · exact .inr h
end Go.Proofs.Ytjemihhhkhdbeaa.Mn
namespace Go.Proofs.Ytjemihhhkhdbeaa
open Go Go.Eng Mn
theorem turnFair_pure {x0 x1 : P} (h0 : Cn (.int .i64) x0) (h1 : Cn (.slice doSh) x1) : f4_v [x0, x1] = some (0, [.bool true]) := by
  simp only [f4_v, f4_t, Tree.run, Bool.cond_decide]
  simp only [Tree.run, lf0, lfs, toInt_int, toBool_bool, toStr_str, xs_list, nil_list, fst_pair, snd_pair, List.length_map, Option.bind_some, nb_same, cond_true, cond_false, decide_true, decide_false, skip_told]
  cases hl : skB x1 with
  | true => simp only [Tree.run, lf0, lfs, toInt_int, toBool_bool, toStr_str, xs_list, nil_list, fst_pair, snd_pair, List.length_map, Option.bind_some, nb_same, cond_true, cond_false, decide_true, decide_false, awake35_told]
  | false =>
    obtain ⟨g1, g2⟩ := skB_no hl
    obtain ⟨n1, n2, n3⟩ := nT_eq x0.toInt
    have hnew := new_told (nT x0.toInt) (by omega) (by omega)
    obtain ⟨nb, xs, k1, k2⟩ := fair1 x1 (.pair (I ((nT x0.toInt - 1 : Nat) : Int)) .unit) (nT x0.toInt) (by omega) n3 g1 g2 false _ (Tq.new _)
    have k3 := fair2 (nT x0.toInt) n3 ⟨nb, xs, nT x0.toInt - 1, S9, fun _ _ => 0⟩ ⟨k1, by show nT x0.toInt - 1 < _; omega, Tab.nine, fun _ _ _ _ => by simp, fun _ _ _ _ _ _ => rfl⟩
    simp only [Tree.run, lf0, lfs, toInt_int, toBool_bool, toStr_str, xs_list, nil_list, fst_pair, snd_pair, List.length_map, Option.bind_some, nb_same, cond_true, cond_false, decide_true, decide_false, n1, show f26_v [.int .i64 (nT x0.toInt : Int)] = _ from hnew, nb_ne (show 1 ≠ 0 by omega)]
    rw [show loopT f4_s250 FUEL [x1, .int .i64 (nT x0.toInt : Int), .int .i64 0, .pair (I ((nT x0.toInt - 1 : Nat) : Int)) .unit, .list false (List.replicate (nT x0.toInt) (.pair (.list true []) .unit))] = _ from k2]
    simp only [Tree.run, lf0, lfs, toInt_int, toBool_bool, toStr_str, xs_list, nil_list, fst_pair, snd_pair, List.length_map, Option.bind_some, nb_same, cond_true, cond_false, decide_true, decide_false]
    rcases k3 with k3 | k3
    · refine (bind_eq k3).trans ?_
      simp only [Tree.run, lf0, lfs, toInt_int, toBool_bool, toStr_str, xs_list, nil_list, fst_pair, snd_pair, List.length_map, Option.bind_some, nb_same, cond_true, cond_false, decide_true, decide_false, nb_ne (show 1 ≠ 0 by omega), awake35_told]
    · refine (bind_eq k3).trans ?_
      simp only [Tree.run, lf0, lfs, toInt_int, toBool_bool, toStr_str, xs_list, nil_list, fst_pair, snd_pair, List.length_map, Option.bind_some, nb_same, cond_true, cond_false, decide_true, decide_false]
end Go.Proofs.Ytjemihhhkhdbeaa
