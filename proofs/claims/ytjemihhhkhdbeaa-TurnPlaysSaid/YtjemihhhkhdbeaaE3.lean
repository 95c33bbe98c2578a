/- The engine, part 3: what it reckons of the code is what the code does. Conditions: none but those each theorem states. -/
import Derived.Test.YtjemihhhkhdbeaaE2
import Derived.Scope
import Derived.Laws.Sem
/-! Regions whose order is drawn: where whatever may come up next reads alone, or is the only one that writes, every order comes to the same. Conditions: none. -/
section
set_option linter.unusedVariables false
set_option linter.unusedSimpArgs false
namespace Go.Eng
open Go.RowKit
section
variable {P : Program} {ops : Array Oper} {Q : Exit → Act → World → Prop}
theorem WpR.mono {o : Oper} {a : Act} {w : World} {K K' : Act → World → Prop} (h : ∀ a w, K a w → K' a w) (g : WpR P a w o K) : WpR P a w o K' := by
  obtain ⟨v, h1, h2⟩ := g; exact ⟨v, h1, h _ _ h2⟩
theorem stp_mono {o : Oper} {a : Act} {w : World} {K K' : Act → World → Prop} (h : ∀ a w, K a w → K' a w) (g : stp P ops Q o K a w) : stp P ops Q o K' a w := by
  unfold stp at *
  split
  · rename_i hw
    rw [if_pos hw] at g
    split
    · rename_i hr; rw [if_pos hr] at g; exact g.mono h
    · rename_i hr; rw [if_neg hr] at g; exact Oper.wp_mono h g
  · rename_i hw; rw [if_neg hw] at g; exact h _ _ g
/-- The reader yields v now. -/
def Yn (P : Program) (ops : Array Oper) (w : World) (o : Oper) (v : Value) (a : Act) : Prop :=
  (Region.wanted o (yielded ops a.tmps) = true ∧ (execOp a.eval o).run P w = .ok (.value v) w) ∨ (Region.wanted o (yielded ops a.tmps) = false ∧ v = undef)
theorem rd_sel {o : Oper} (h : opRd o.op = true) : ∀ cs b, o.op ≠ .select cs b := by
  intro cs b e; rw [e] at h; cases h
theorem stp_yn {o : Oper} {a : Act} {w : World} {K : Act → World → Prop} (hr : opRd o.op = true) (h : stp P ops Q o K a w) : ∃ v, Yn P ops w o v a ∧ K (a.put o.dst v) w := by
  unfold stp at h
  split at h
  · rename_i hw
    obtain ⟨v, h1, h2⟩ := h
    exact ⟨v, .inl ⟨hw, h1⟩, h2⟩
  · rename_i hw
    exact ⟨undef, .inr ⟨by simpa using hw, rfl⟩, h⟩
theorem Yn.of_same {o : Oper} {v : Value} {a a' : Act} {w : World} (hy : Yn P ops w o v a) (he : execOp a'.eval o = execOp a.eval o) (hw : Region.wanted o (yielded ops a'.tmps) = Region.wanted o (yielded ops a.tmps)) : Yn P ops w o v a' := by
  unfold Yn at *
  rw [he, hw]; exact hy
abbrev Q0 : Exit → Act → World → Prop := fun _ _ _ => False
theorem wp_strict {o : Oper} {a : Act} {w : World} {K : Act → World → Prop} {Q2 : Exit → Act → World → Prop} (h1 : ∀ c a w, ¬ Q (.panic c) a w) (h2 : ∀ a w, ¬ Q .outgrown a w) (h : o.wp P a w K Q) : o.wp P a w K Q2 := by
  unfold Oper.wp at *
  generalize (execOp a.eval o).run P w = r at *
  cases r with
  | ok n w' =>
    cases n <;> simp only [Oper.upon] at h ⊢
    case value v => exact h
    case skip => exact h
    case defer d => exact h
    case row row args => exact h
    case enter f args =>
      refine Calls.mono h fun e w'' he => ?_
      cases e with
      | returned v => exact he
      | panicked c => exact absurd he (h1 _ _ _)
      | outgrown => obtain ⟨a, w, he⟩ := he; exact absurd he (h2 _ _)
  | halt x w' => cases x <;> simp only [Oper.upon] at h ⊢; exact absurd h (h1 _ _ _)
theorem stp_strict {o : Oper} {a : Act} {w : World} {K : Act → World → Prop} {Q2 : Exit → Act → World → Prop} (h1 : ∀ c a w, ¬ Q (.panic c) a w) (h2 : ∀ a w, ¬ Q .outgrown a w) (h : stp P ops Q o K a w) : stp P ops Q2 o K a w := by
  unfold stp at *
  split
  · rename_i hw
    rw [if_pos hw] at h
    split
    · rename_i hr; rw [if_pos hr] at h; exact h
    · rename_i hr; rw [if_neg hr] at h; exact wp_strict h1 h2 h
  · rename_i hw; rw [if_neg hw] at h; exact h
/-- What is left to be seen of a reader that was carried out. -/
def still (P : Program) (ops : Array Oper) (o : Oper) (a : Act) (v : Value) : World → Prop := fun w => Region.wanted o (yielded ops a.tmps) = true → (execOp a.eval o).run P w = .ok (.value v) w
abbrev Gam := List (Nat × (World → Prop))
/-- What is checked of one order: makers (`Dn`: those that came up early) may come up ahead of any writer. -/
def sH (P : Program) (ops : Array Oper) (Q : Act → World → Prop) (fl : Nat → Nat → Bool) : Nat → List (Nat × Oper) → List Nat → Gam → Act → World → Prop
  | _, [], _, G, a, w => Q a w
  | 0, _ :: _, _, _, _, _ => False
  | n + 1, (i, o) :: r, Dn, G, a, w =>
    if memB i Dn = true then sH P ops Q fl n r Dn G a w
    else if opRd o.op = true then ∃ v, Yn P ops w o v a ∧ sH P ops Q fl n r Dn ((i, still P ops o a v) :: G) (a.put o.dst v) w
    else stp P ops Q0 o (fun a' w' => (∀ x ∈ G, fl x.1 i = true → x.2 w') ∧ sH P ops Q fl n r Dn G a' w') a w ∧
      ∀ y ∈ r, isMk y.2 = true → memB y.1 Dn = false → stp P ops Q0 y.2 (fun a' w' => (∀ x ∈ G, fl x.1 y.1 = true → x.2 w') ∧ sH P ops Q fl n ((i, o) :: r) (y.1 :: Dn) G a' w') a w
def anyG (P : Program) (ops : Array Oper) (Q : Act → World → Prop) (fl : Nat → Nat → Bool) : Nat → Gam → Array Bool → Act → World → Prop
  | 0, _, listed, a, w => Region.ready .any ops listed = [] ∧ Q a w
  | fuel + 1, G, listed, a, w => (Region.ready .any ops listed = [] → Q a w) ∧
    ∀ i ∈ Region.ready .any ops listed, ∀ o, ops[i]? = some o →
      if opRd o.op = true then ∃ v, Yn P ops w o v a ∧ anyG P ops Q fl fuel ((i, still P ops o a v) :: G) (listed.setIfInBounds i true) (a.put o.dst v) w
      else stp P ops Q0 o (fun a' w' => (∀ x ∈ G, fl x.1 i = true → x.2 w') ∧ anyG P ops Q fl fuel G (listed.setIfInBounds i true) a' w') a w
variable {Qn : Act → World → Prop} {fl : Nat → Nat → Bool}
theorem anyG_sub : ∀ (fuel : Nat) {G G' : Gam} {listed : Array Bool} {a : Act} {w : World}, (∀ x ∈ G', x ∈ G) → anyG P ops Qn fl fuel G listed a w → anyG P ops Qn fl fuel G' listed a w
  | 0, _, _, _, _, _, _, h => h
  | fuel + 1, G, G', listed, a, w, hs, h => by
    refine ⟨h.1, fun i hi o ho => ?_⟩
    have := h.2 i hi o ho
    split
    · rename_i hr
      rw [if_pos hr] at this
      obtain ⟨v, h1, h2⟩ := this
      exact ⟨v, h1, anyG_sub fuel (fun x hx => by
        rcases List.mem_cons.1 hx with hx | hx
        · exact hx ▸ List.mem_cons_self
        · exact List.mem_cons_of_mem _ (hs x hx)) h2⟩
    · rename_i hr
      rw [if_neg hr] at this
      exact stp_mono (fun a w h => ⟨fun x hx => h.1 x (hs x hx), anyG_sub fuel hs h.2⟩) this
theorem anyG_wp (hQ : ∀ a w, Qn a w → Q .normal a w) : ∀ (fuel : Nat) (G : Gam) (listed : Array Bool) (a : Act) (w : World), anyG P ops Qn fl fuel G listed a w → wpAny P .any ops Q fuel listed a w
  | 0, _, _, _, _, h => ⟨h.1, hQ _ _ h.2⟩
  | fuel + 1, G, listed, a, w, h => ⟨fun g => hQ _ _ (h.1 g), fun i hi => by
    obtain ⟨_, o, ho, _⟩ := mem_ready.1 hi
    have := h.2 i hi o ho
    unfold wpOp
    simp only [ho]
    split at this
    · rename_i hr
      obtain ⟨v, h1, h2⟩ := this
      have h3 := anyG_wp hQ fuel _ _ _ _ h2
      rcases h1 with ⟨hw, h1⟩ | ⟨hw, rfl⟩
      · rw [if_pos hw]; refine .inl ?_; unfold Oper.wp; rw [h1]; exact h3
      · rw [if_neg (by simp [hw])]; exact h3
    · rename_i hr
      have := stp_mono (K' := wpAny P .any ops Q fuel (listed.setIfInBounds i true)) (fun a w h => anyG_wp hQ fuel _ _ _ _ h.2) this
      unfold stp at this
      split
      · rename_i hw
        rw [if_pos hw, if_neg hr] at this
        exact .inl (wp_strict (fun _ _ _ => id) (fun _ _ => id) this)
      · rename_i hw; rw [if_neg hw] at this; exact this⟩

/-- A writer, whether the reader was carried out ahead of it or not. -/
theorem stp_putm {oi oj : Oper} {v : Value} (hap : oi.apart ops oj = true) (hsi : ∀ cs b, oi.op ≠ .select cs b) (hsj : ∀ cs b, oj.op ≠ .select cs b) (hrj : ¬ opRd oj.op = true)
    {K : Act → World → Prop} {a : Act} {w : World} (h : stp P ops Q0 oj K (a.put oi.dst v) w) :
    stp P ops Q0 oj (fun a' w' => (execOp a'.eval oi = execOp a.eval oi ∧ Region.wanted oi (yielded ops a'.tmps) = Region.wanted oi (yielded ops a.tmps)) ∧ K (a'.put oi.dst v) w') a w := by
  obtain ⟨h1, h2, h3⟩ := Oper.apart_spec hap
  have keep : ∀ u, execOp (a.put oj.dst u).eval oi = execOp a.eval oi ∧ Region.wanted oi (yielded ops (a.put oj.dst u).tmps) = Region.wanted oi (yielded ops a.tmps) := fun u =>
    ⟨execOp_put oi hsi a oj.dst u h3, wanted_put oi a oj.dst u h3⟩
  unfold stp at *
  rw [wanted_put oj a oi.dst v h1] at h
  split
  · rename_i hw
    rw [if_pos hw, if_neg hrj] at h
    unfold Oper.wp at *
    rw [execOp_put oj hsj a oi.dst v h1] at h
    generalize (execOp a.eval oj).run P w = r at *
    cases r with
    | ok n w' =>
      cases n <;> simp only [Oper.upon] at h ⊢
      case value u => exact ⟨keep u, by rw [← Act.put_comm a v u h2]; exact h⟩
      case skip => exact ⟨keep _, by rw [← Act.put_comm a v undef h2]; exact h⟩
      case defer d =>
        refine ⟨?_, ?_⟩
        · have e1 := execOp_put (ops := ops) oi hsi { a with defers := d :: a.defers } oj.dst undef h3
          have e2 := wanted_put (ops := ops) oi { a with defers := d :: a.defers } oj.dst undef h3
          exact ⟨e1, e2⟩
        · rw [← Act.put_comm _ v undef h2, ← Act.put_defers]
          exact h
      case enter f args =>
        refine Calls.mono h fun e w'' he => ?_
        cases e with
        | returned u => exact ⟨keep u, by rw [← Act.put_comm a v u h2]; exact he⟩
        | panicked c => exact he
        | outgrown => exact he
      case row row args => exact Rows.mono h fun u w'' he => ⟨keep u, by rw [← Act.put_comm a v u h2]; exact he⟩
    | halt x w' => cases x <;> simp only [Oper.upon] at h ⊢; exact h.elim
  · rename_i hw
    rw [if_neg hw] at h
    exact ⟨keep _, by rw [← Act.put_comm a v undef h2]; exact h⟩

/-- A reader is taken first. -/
theorem anyG_first {i : Nat} {oi : Oper} {v : Value} (hi : ops[i]? = some oi) (hri : opRd oi.op = true) (hns : Region.noSelect ops = true) (W : Nat → Prop)
    (hW : ∀ j, W j → ∃ o e, ops[j]? = some o ∧ e ∈ o.after ∧ Region.binds .any e = true ∧ (e.on = i ∨ W e.on)) :
    ∀ (fuel : Nat) (G : Gam) (listed : Array Bool) (a : Act) (w : World), (∀ j, W j → listed.getD j true = false) → listed.getD i true = false →
      (∀ j oj, ops[j]? = some oj → j ≠ i → listed.getD j true = false → W j ∨ (oi.apart ops oj = true ∧ (opRd oj.op = true ∨ fl i j = true))) →
      i ∈ Region.ready .any ops listed → Yn P ops w oi v a → anyG P ops Qn fl fuel ((i, still P ops oi a v) :: G) (listed.setIfInBounds i true) (a.put oi.dst v) w → anyG P ops Qn fl (fuel + 1) G listed a w := by
  intro fuel
  have same : ∀ (G : Gam) (listed : Array Bool) (a : Act) (w : World) (fuel : Nat) (o : Oper), ops[i]? = some o → Yn P ops w oi v a → anyG P ops Qn fl fuel ((i, still P ops oi a v) :: G) (listed.setIfInBounds i true) (a.put oi.dst v) w →
      if opRd o.op = true then ∃ v, Yn P ops w o v a ∧ anyG P ops Qn fl fuel ((i, still P ops o a v) :: G) (listed.setIfInBounds i true) (a.put o.dst v) w
      else stp P ops Q0 o (fun a' w' => (∀ x ∈ G, fl x.1 i = true → x.2 w') ∧ anyG P ops Qn fl fuel G (listed.setIfInBounds i true) a' w') a w := by
    intro G listed a w fuel o ho hy H
    rw [hi] at ho; obtain rfl := Option.some.inj ho
    rw [if_pos hri]; exact ⟨v, hy, H⟩
  induction fuel with
  | zero =>
    intro G listed a w _ _ _ hr hy H
    refine ⟨fun h => (by rw [h] at hr; cases hr), fun j hj oj hoj => ?_⟩
    by_cases hji : j = i
    · subst hji; exact same G listed a w 0 oj hoj hy H
    · have := ready_mono hj hji
      rw [H.1] at this
      cases this
  | succ fuel ih =>
    intro G listed a w hWl hil hfree hr hy H
    refine ⟨fun h => (by rw [h] at hr; cases hr), fun j hj oj hoj => ?_⟩
    by_cases hji : j = i
    · subst hji; exact same G listed a w _ oj hoj hy H
    · obtain ⟨hjun, oj', hoj', hall⟩ := mem_ready.1 hj
      rw [hoj] at hoj'; obtain rfl := Option.some.inj hoj'
      have hclash : ∀ k, listed.getD k true = false → listed.getD k false = true → False := by
        intro k h0 h1
        rcases Nat.lt_or_ge k listed.size with h' | h'
        · simp [h'] at h0 h1; rw [h0] at h1; cases h1
        · simp [Array.getElem?_eq_none h'] at h1
      have hnW : ¬ W j := by
        intro hw
        obtain ⟨o, e, g1, g2, g3, g4⟩ := hW j hw
        rw [hoj] at g1; obtain rfl := Option.some.inj g1
        have h1 := hall e g2 g3
        rcases g4 with g4 | g4
        · exact hclash i hil (by rw [← g4]; exact h1)
        · exact hclash _ (hWl _ g4) h1
      obtain ⟨hap, hrj⟩ := (hfree j oj hoj hji hjun).resolve_left hnW
      obtain ⟨h1, h2, h3⟩ := Oper.apart_spec hap
      have hsj := fun cs b => Region.noSelect_spec hns j oj cs b hoj
      have hH := H.2 j (ready_mono hj hji) oj hoj
      have side1 : ∀ k, W k → (listed.setIfInBounds j true).getD k true = false := fun k hk => by
        have : j ≠ k := fun e => hnW (e ▸ hk)
        rw [getD_set_ne true this]; exact hWl k hk
      have side2 : (listed.setIfInBounds j true).getD i true = false := by rw [getD_set_ne true hji]; exact hil
      have side3 : ∀ k ok, ops[k]? = some ok → k ≠ i → (listed.setIfInBounds j true).getD k true = false → W k ∨ (oi.apart ops ok = true ∧ (opRd ok.op = true ∨ fl i k = true)) := fun k ok hk hki hun => by
        refine hfree k ok hk hki ?_
        by_cases hjk : j = k
        · subst hjk; exact hjun
        · rw [getD_set_ne true hjk] at hun; exact hun
      by_cases hr' : opRd oj.op = true
      · rw [if_pos hr'] at hH ⊢
        obtain ⟨u, hyj, hK⟩ := hH
        have e1 := execOp_put oj (rd_sel hr') a oi.dst v h1
        have e2 := wanted_put oj a oi.dst v h1
        have e3 := execOp_put oi (rd_sel hri) a oj.dst u h3
        have e4 := wanted_put oi a oj.dst u h3
        refine ⟨u, hyj.of_same e1.symm e2.symm, ih _ (listed.setIfInBounds j true) _ w side1 side2 side3 (ready_mono hr (Ne.symm hji)) (hy.of_same e3 e4) ?_⟩
        rw [Array.setIfInBounds_comm _ _ hji, ← Act.put_comm a v u h2]
        have t1 : still P ops oj (a.put oi.dst v) u = still P ops oj a u := by unfold still; rw [e1, e2]
        have t2 : still P ops oi (a.put oj.dst u) v = still P ops oi a v := by unfold still; rw [e3, e4]
        rw [t2]; rw [t1] at hK
        exact anyG_sub fuel (fun x hx => by
          rcases List.mem_cons.1 hx with hx | hx
          · subst hx; simp
          · rcases List.mem_cons.1 hx with hx | hx
            · subst hx; simp
            · simp [hx]) hK
      · rw [if_neg hr'] at hH ⊢
        have hfl := hrj.resolve_left hr'
        refine stp_mono (fun a' w' hp => ?_) (stp_putm hap (rd_sel hri) hsj hr' hH)
        obtain ⟨⟨e3, e4⟩, hf, hK⟩ := hp
        refine ⟨fun x hx => hf x (List.mem_cons_of_mem _ hx), ?_⟩
        have hst := hf (i, still P ops oi a v) (by simp) hfl
        have t2 : still P ops oi a' v = still P ops oi a v := by unfold still; rw [e3, e4]
        have hy' : Yn P ops w' oi v a' := by
          unfold Yn
          rw [e3, e4]
          rcases hy with ⟨hw, _⟩ | ⟨hw, hv⟩
          · exact .inl ⟨hw, hst hw⟩
          · exact .inr ⟨hw, hv⟩
        refine ih G (listed.setIfInBounds j true) a' w' side1 side2 side3 (ready_mono hr (Ne.symm hji)) hy' ?_
        rw [Array.setIfInBounds_comm _ _ hji, t2]
        exact hK

/-! ### the order that is checked -/
theorem inIdx_iff {i : Nat} : ∀ {L : List (Nat × Oper)}, inIdx i L = true ↔ ∃ o, (i, o) ∈ L
  | [] => by simp [inIdx]
  | (j, o) :: r => by
    simp only [inIdx, Bool.or_eq_true, beq_iff, List.mem_cons, Prod.mk.injEq]
    rw [inIdx_iff (L := r)]
    constructor
    · rintro (rfl | ⟨o', h⟩)
      · exact ⟨o, .inl ⟨rfl, rfl⟩⟩
      · exact ⟨o', .inr h⟩
    · rintro ⟨o', ⟨h, _⟩ | h⟩
      · exact .inl h
      · exact .inr ⟨o', h⟩
theorem pickIn_spec {sz : Nat} {rd : Oper → Bool} {all : List (Nat × Oper)} : ∀ {L : List (Nat × Oper)} {x : Nat × Oper} {r : List (Nat × Oper)}, pickIn sz rd all L = some (x, r) → readyIn sz all x.2 = true ∧ L.Perm (x :: r)
  | [], x, r, h => by cases h
  | y :: q, x, r, h => by
    simp only [pickIn] at h
    cases hc : (readyIn sz all y.2 && rd y.2) with
    | true =>
      rw [hc, cond_true] at h
      obtain ⟨rfl, rfl⟩ := Prod.mk.inj (Option.some.inj h)
      rw [Bool.and_eq_true] at hc
      exact ⟨hc.1, List.Perm.refl _⟩
    | false =>
      rw [hc, cond_false] at h
      split at h
      · rename_i y' q' hp
        obtain ⟨rfl, rfl⟩ := Prod.mk.inj (Option.some.inj h)
        obtain ⟨h1, h2⟩ := pickIn_spec hp
        exact ⟨h1, (h2.cons y).trans (List.Perm.swap _ _ _)⟩
      · cases h
def WInv (i : Nat) (L : List (Nat × Oper)) (acc : List Nat) : Prop := ∀ j ∈ acc, ∃ o e, (j, o) ∈ L ∧ e ∈ o.after.toList ∧ Region.binds .any e = true ∧ (e.on = i ∨ e.on ∈ acc)
theorem waitIn_spec {i : Nat} {L : List (Nat × Oper)} : ∀ (r : List (Nat × Oper)) (acc : List Nat), (∀ x ∈ r, x ∈ L) → WInv i L acc → WInv i L (waitIn i r acc)
  | [], acc, _, h => h
  | (j, o) :: r, acc, hr, h => by
    simp only [waitIn]
    cases hc : o.after.toList.any (fun e => Region.binds .any e && (Nat.beq e.on i || memB e.on acc)) with
    | false => rw [cond_false]; exact waitIn_spec r acc (fun x hx => hr x (List.mem_cons_of_mem _ hx)) h
    | true =>
      rw [cond_true]
      refine waitIn_spec r (j :: acc) (fun x hx => hr x (List.mem_cons_of_mem _ hx)) fun k hk => ?_
      rcases List.mem_cons.1 hk with rfl | hk
      · obtain ⟨e, he, hb⟩ := List.any_eq_true.1 hc
        simp only [Bool.and_eq_true, Bool.or_eq_true, beq_iff, memB_iff] at hb
        exact ⟨o, e, hr _ (by simp), he, hb.1, hb.2.imp id (List.mem_cons_of_mem _)⟩
      · obtain ⟨o', e, g1, g2, g3, g4⟩ := h k hk
        exact ⟨o', e, g1, g2, g3, g4.imp id (List.mem_cons_of_mem _)⟩
/-- What is listed is what is not in L. -/
structure Lst (ops : Array Oper) (listed : Array Bool) (L : List (Nat × Oper)) : Prop where
  size : listed.size = ops.size
  mem : ∀ x ∈ L, ops[x.1]? = some x.2
  un : ∀ j, listed.getD j true = false ↔ inIdx j L = true
  nd : (L.map (·.1)).Nodup
theorem Lst.perm {listed : Array Bool} {L L' : List (Nat × Oper)} (h : Lst ops listed L) (hp : L.Perm L') : Lst ops listed L' :=
  ⟨h.size, fun x hx => h.mem x (hp.mem_iff.2 hx), fun j => by
    rw [h.un j, inIdx_iff, inIdx_iff]
    exact ⟨fun ⟨o, ho⟩ => ⟨o, hp.mem_iff.1 ho⟩, fun ⟨o, ho⟩ => ⟨o, hp.mem_iff.2 ho⟩⟩, (hp.map _).nodup_iff.1 h.nd⟩
theorem Lst.tail {listed : Array Bool} {x : Nat × Oper} {L : List (Nat × Oper)} (h : Lst ops listed (x :: L)) : Lst ops (listed.setIfInBounds x.1 true) L := by
  have hnd := h.nd
  rw [List.map_cons, List.nodup_cons] at hnd
  refine ⟨by simp [h.size], fun y hy => h.mem y (List.mem_cons_of_mem _ hy), fun j => ?_, hnd.2⟩
  by_cases e : x.1 = j
  · subst e
    have hlt : x.1 < listed.size := by
      have := (Array.getElem?_eq_some_iff.1 (h.mem x (by simp))).1
      rw [h.size]; exact this
    constructor
    · intro hf; simp [hlt] at hf
    · intro hi
      obtain ⟨o, ho⟩ := inIdx_iff.1 hi
      exact absurd (List.mem_map.2 ⟨_, ho, rfl⟩) hnd.1
  · rw [getD_set_ne true e, h.un j, inIdx_iff, inIdx_iff]
    constructor
    · rintro ⟨o, ho⟩
      rcases List.mem_cons.1 ho with ho | ho
      · exact absurd (by rw [← ho]) e
      · exact ⟨o, ho⟩
    · rintro ⟨o, ho⟩; exact ⟨o, List.mem_cons_of_mem _ ho⟩
theorem edge_listed {listed : Array Bool} {L : List (Nat × Oper)} (h : Lst ops listed L) {e : Edge} (he : edgeOk ops.size L e = true) (hb : Region.binds .any e = true) : listed.getD e.on false = true := by
  simp only [edgeOk, hb, Bool.not_true, Bool.false_or, Bool.and_eq_true, Bool.not_eq_true'] at he
  have hlt : e.on < listed.size := by rw [h.size]; exact Nat.blt_eq.mp he.1
  have := (not_congr (h.un e.on)).2 (by rw [he.2]; simp)
  simp [hlt] at this ⊢
  exact this
theorem ready_of {listed : Array Bool} {x : Nat × Oper} {L : List (Nat × Oper)} (h : Lst ops listed L) (hx : x ∈ L) (hr : readyIn ops.size L x.2 = true) : x.1 ∈ Region.ready .any ops listed := by
  rw [mem_ready]
  refine ⟨(h.un x.1).2 (inIdx_iff.2 ⟨x.2, hx⟩), x.2, h.mem x hx, fun e he hb => ?_⟩
  simp only [readyIn, List.all_eq_true] at hr
  exact edge_listed h (hr e (by simpa using he)) hb
theorem in_of_ready {listed : Array Bool} {L : List (Nat × Oper)} (h : Lst ops listed L) {j : Nat} (hj : j ∈ Region.ready .any ops listed) : ∃ o, (j, o) ∈ L ∧ blocked L (j, o) = false := by
  obtain ⟨h0, o, ho, hall⟩ := mem_ready.1 hj
  obtain ⟨o', ho'⟩ := inIdx_iff.1 ((h.un j).1 h0)
  have := h.mem _ ho'
  rw [ho] at this; obtain rfl := Option.some.inj this
  refine ⟨o, ho', ?_⟩
  cases hb : blocked L (j, o) with
  | false => rfl
  | true =>
    simp only [blocked] at hb
    obtain ⟨e, he, hb⟩ := List.any_eq_true.1 hb
    rw [Bool.and_eq_true] at hb
    have h1 := hall e (by simpa using he) hb.1
    have h2 := (h.un e.on).2 hb.2
    rcases Nat.lt_or_ge e.on listed.size with q | q
    · simp [q] at h1 h2; rw [h2] at h1; cases h1
    · simp [Array.getElem?_eq_none q] at h1

/-- What is not done yet. -/
def und (Dn : List Nat) (L : List (Nat × Oper)) : List (Nat × Oper) := L.filter fun x => !memB x.1 Dn
theorem mem_und {Dn : List Nat} {L : List (Nat × Oper)} {x : Nat × Oper} : x ∈ und Dn L ↔ x ∈ L ∧ memB x.1 Dn = false := by
  simp [und, List.mem_filter]
theorem und_done {Dn : List Nat} {x : Nat × Oper} {L : List (Nat × Oper)} (h : memB x.1 Dn = true) : und Dn (x :: L) = und Dn L := by
  simp [und, List.filter_cons, h]
theorem und_cons {Dn : List Nat} {x : Nat × Oper} {L : List (Nat × Oper)} (h : memB x.1 Dn = false) : und Dn (x :: L) = x :: und Dn L := by
  simp [und, List.filter_cons, h]
theorem und_perm {Dn : List Nat} {L L' : List (Nat × Oper)} (h : L.Perm L') : (und Dn L).Perm (und Dn L') := h.filter _
theorem memB_cons {a b : Nat} {l : List Nat} : memB a (b :: l) = (Nat.beq a b || memB a l) := rfl
theorem und_nin {Dn : List Nat} {j : Nat} : ∀ {L : List (Nat × Oper)}, (∀ x ∈ L, x.1 ≠ j) → und (j :: Dn) L = und Dn L
  | [], _ => rfl
  | z :: r, h => by
    have hz := h z (by simp)
    have ih := und_nin (Dn := Dn) (L := r) fun x hx => h x (List.mem_cons_of_mem _ hx)
    have e : memB z.1 (j :: Dn) = memB z.1 Dn := by
      rw [memB_cons]
      cases hb : Nat.beq z.1 j with
      | true => exact absurd (beq_iff.1 hb) hz
      | false => rfl
    cases hm : memB z.1 Dn with
    | true => rw [und_done hm, und_done (e.trans hm), ih]
    | false => rw [und_cons hm, und_cons (e.trans hm), ih]
theorem nodup_fst {y z : Nat × Oper} : ∀ {L : List (Nat × Oper)}, (L.map (·.1)).Nodup → y ∈ L → z ∈ L → y.1 = z.1 → y = z
  | [], _, h, _, _ => by cases h
  | x :: r, hnd, h1, h2, e => by
    rw [List.map_cons, List.nodup_cons] at hnd
    rcases List.mem_cons.1 h1 with h1 | h1
    · rcases List.mem_cons.1 h2 with h2 | h2
      · rw [h1, h2]
      · exact absurd (List.mem_map.2 ⟨z, h2, by rw [← e, h1]⟩) hnd.1
    · rcases List.mem_cons.1 h2 with h2 | h2
      · exact absurd (List.mem_map.2 ⟨y, h1, by rw [e, h2]⟩) hnd.1
      · exact nodup_fst hnd.2 h1 h2 e
theorem und_take {Dn : List Nat} {y : Nat × Oper} : ∀ {L : List (Nat × Oper)}, (L.map (·.1)).Nodup → y ∈ L → memB y.1 Dn = false → (und Dn L).Perm (y :: und (y.1 :: Dn) L)
  | [], _, h, _ => by cases h
  | z :: r, hnd, h, hm => by
    rw [List.map_cons, List.nodup_cons] at hnd
    rcases List.mem_cons.1 h with rfl | h
    · have e1 : memB y.1 (y.1 :: Dn) = true := by rw [memB_cons]; simp [beq_iff]
      rw [und_cons hm, und_done e1, und_nin fun x hx e => hnd.1 (List.mem_map.2 ⟨x, hx, e⟩)]
    · have hz : z.1 ≠ y.1 := fun e => hnd.1 (List.mem_map.2 ⟨y, h, e.symm⟩)
      have e : memB z.1 (y.1 :: Dn) = memB z.1 Dn := by
        rw [memB_cons]
        cases hb : Nat.beq z.1 y.1 with
        | true => exact absurd (beq_iff.1 hb) hz
        | false => rfl
      have ih := und_take (Dn := Dn) hnd.2 h hm
      cases hd : memB z.1 Dn with
      | true => rw [und_done hd, und_done (e.trans hd)]; exact ih
      | false => rw [und_cons hd, und_cons (e.trans hd)]; exact (ih.cons z).trans (List.Perm.swap _ _ _)
theorem isMk_spec {o : Oper} (h : isMk o = true) : o.guard = none ∧ (∃ t, o.op = .alloc t) ∧ (∃ d, o.dst = some d) ∧ ∀ e ∈ o.after.toList, Region.binds .any e = false := by
  unfold isMk at h
  split at h
  · rename_i t d h1 h2 h3
    refine ⟨h1, ⟨t, h2⟩, ⟨d, h3⟩, fun e he => ?_⟩
    have := List.all_eq_true.1 h e he
    simpa using this
  · cases h
theorem isMk_rd {o : Oper} (h : isMk o = true) : opRd o.op = false := by
  obtain ⟨_, ⟨t, ht⟩, _⟩ := isMk_spec h
  rw [ht]; rfl
theorem pick_spec {L : List (Nat × Oper)} {x : Nat × Oper} {rest : List (Nat × Oper)}
    (hp : (match pickIn ops.size (fun o => opRd o.op) L L with | some y => some y | none => match pickIn ops.size (fun o => !isMk o) L L with | some y => some y | none => pickIn ops.size (fun _ => true) L L) = some (x, rest)) : readyIn ops.size L x.2 = true ∧ L.Perm (x :: rest) := by
  split at hp
  · rename_i z hz; obtain rfl := Option.some.inj hp; exact pickIn_spec hz
  · split at hp
    · rename_i z hz; obtain rfl := Option.some.inj hp; exact pickIn_spec hz
    · exact pickIn_spec hp
/-- The makers have temporaries of their own. -/
def MkD : List (Nat × Oper) → Prop
  | [] => True
  | x :: r => (∀ y ∈ r, isMk y.2 = true → dstIs y.2.dst x.2 = false) ∧ MkD r
theorem ordL_spec : ∀ (n : Nat) (L l : List (Nat × Oper)) (F : Cross), ordL ops n L = some (l, F) → L.Perm l ∧ MkD l
  | n, [], l, F, h => by
    have : l = [] := by cases n <;> (simp only [ordL] at h; exact (Prod.mk.inj (Option.some.inj h)).1.symm)
    subst this; exact ⟨List.Perm.refl _, trivial⟩
  | 0, x :: L, l, F, h => by cases h
  | n + 1, y :: L, l, F, h => by
    simp only [ordL] at h
    generalize hL : y :: L = M at *
    split at h
    · cases h
    rename_i x rest hp
    cases hst : stepOk ops x rest (waitIn x.1 rest []) with
    | false => rw [hst, cond_false] at h; cases h
    | true =>
    rw [hst, cond_true] at h
    split at h
    case h_2 => cases h
    rename_i l' F' hl'
    obtain ⟨rfl, _⟩ := Prod.mk.inj (Option.some.inj h)
    obtain ⟨_, hpk⟩ := pick_spec hp
    obtain ⟨h1, h2⟩ := ordL_spec n rest l' F' hl'
    refine ⟨hpk.trans (h1.cons x), fun y hy hm => ?_, h2⟩
    unfold stepOk mkDst at hst
    rw [Bool.and_eq_true, List.all_eq_true] at hst
    have := hst.1 y (h1.mem_iff.2 hy)
    rw [hm] at this
    simpa using this
theorem ord_ok (hns : Region.noSelect ops = true) : ∀ (fu n : Nat) (L l : List (Nat × Oper)) (F : Cross) (Dn : List Nat) (G : Gam) (listed : Array Bool) (a : Act) (w : World), ordL ops n L = some (l, F) → (∀ i j, crossB i j F = true → fl i j = true) →
    Lst ops listed (und Dn L) → (L.map (·.1)).Nodup → (∀ x ∈ L, memB x.1 Dn = true → isMk x.2 = true) → sH P ops Qn fl fu l Dn G a w → anyG P ops Qn fl (und Dn L).length G listed a w
  | fu, n, [], l, F, Dn, G, listed, a, w, h, hF, hl, hnd, hmk, hs => by
    have : l = [] := by cases n <;> (simp only [ordL] at h; exact (Prod.mk.inj (Option.some.inj h)).1.symm)
    subst this
    have hs : Qn a w := by cases fu <;> exact hs
    refine ⟨?_, hs⟩
    cases hr : Region.ready .any ops listed with
    | nil => rfl
    | cons j r => obtain ⟨o, ho, _⟩ := in_of_ready hl (j := j) (by rw [hr]; simp); cases ho
  | fu, 0, x :: L, l, F, Dn, G, listed, a, w, h, hF, hl, hnd, hmk, hs => by cases h
  | 0, n + 1, y :: L, l, F, Dn, G, listed, a, w, h, hF, hl, hnd, hmk, hs => by
    simp only [ordL] at h
    split at h
    · cases h
    rename_i x rest hp
    cases hst : stepOk ops x rest (waitIn x.1 rest []) with
    | false => rw [hst, cond_false] at h; cases h
    | true =>
    rw [hst, cond_true] at h
    split at h
    case h_2 => cases h
    obtain ⟨rfl, _⟩ := Prod.mk.inj (Option.some.inj h)
    exact hs.elim
  | fu + 1, n + 1, y :: L, l, F, Dn, G, listed, a, w, h, hF, hl, hnd, hmk, hs => by
    have h0 := h
    simp only [ordL] at h
    generalize hL : y :: L = M at *
    split at h
    · cases h
    rename_i x rest hp
    cases hst : stepOk ops x rest (waitIn x.1 rest []) with
    | false => rw [hst, cond_false] at h; cases h
    | true =>
    rw [hst, cond_true] at h
    split at h
    case h_2 => cases h
    rename_i l' F' hl'
    obtain ⟨rfl, hFe⟩ := Prod.mk.inj (Option.some.inj h)
    obtain ⟨hrdy, hperm⟩ := pick_spec hp
    have hF' : ∀ i j, crossB i j F' = true → fl i j = true := fun i j hi => hF i j (by
      rw [← hFe]
      simp only [crossB, hi, Bool.or_true])
    have hnd2 : ((x :: rest).map (·.1)).Nodup := (hperm.map _).nodup_iff.1 hnd
    have hndr : (rest.map (·.1)).Nodup := by rw [List.map_cons, List.nodup_cons] at hnd2; exact hnd2.2
    have hmk2 : ∀ z ∈ x :: rest, memB z.1 Dn = true → isMk z.2 = true := fun z hz => hmk z (hperm.mem_iff.2 hz)
    have hmkr : ∀ z ∈ rest, memB z.1 Dn = true → isMk z.2 = true := fun z hz => hmk2 z (List.mem_cons_of_mem _ hz)
    have hpu := und_perm (Dn := Dn) hperm
    have hlen := hpu.length_eq
    rw [hlen]
    have hl2 := hl.perm hpu
    cases hxd : memB x.1 Dn with
    | true =>
      rw [und_done hxd] at hl2 ⊢
      simp only [sH, hxd, if_pos] at hs
      exact ord_ok hns fu n rest l' F' Dn G listed a w hl' hF' hl2 hndr hmkr hs
    | false =>
    rw [und_cons hxd] at hl2 ⊢
    simp only [sH, hxd] at hs
    rw [if_neg (by simp)] at hs
    have hready : x.1 ∈ Region.ready .any ops listed := by
      refine ready_of hl2 (by simp) ?_
      simp only [readyIn, List.all_eq_true] at hrdy ⊢
      intro e he
      have := hrdy e he
      simp only [edgeOk, Bool.or_eq_true, Bool.and_eq_true, Bool.not_eq_true'] at this ⊢
      refine this.imp id fun q => ⟨q.1, ?_⟩
      cases hi : inIdx e.on (x :: und Dn rest) with
      | false => rfl
      | true =>
        obtain ⟨o, ho⟩ := inIdx_iff.1 hi
        have : inIdx e.on M = true := inIdx_iff.2 ⟨o, hperm.mem_iff.2 (by
          rcases List.mem_cons.1 ho with ho | ho
          · exact ho ▸ List.mem_cons_self
          · exact List.mem_cons_of_mem _ (mem_und.1 ho).1)⟩
        rw [q.2] at this; cases this
    have hx : ops[x.1]? = some x.2 := hl2.mem x (by simp)
    have ih := fun G a w => ord_ok hns fu n rest l' F' Dn G (listed.setIfInBounds x.1 true) a w hl' hF' hl2.tail hndr hmkr
    simp only [List.length_cons]
    unfold stepOk at hst
    rw [Bool.and_eq_true] at hst
    obtain ⟨_, hst⟩ := hst
    cases hr : opRd x.2.op with
    | false =>
      rw [hr, cond_false, List.all_eq_true] at hst
      rw [if_neg (by simp [hr])] at hs
      refine ⟨fun h => (by rw [h] at hready; cases hready), fun j hj oj hoj => ?_⟩
      obtain ⟨o, ho, hb⟩ := in_of_ready hl2 hj
      rcases List.mem_cons.1 ho with e | ho
      · subst e
        rw [hx] at hoj; obtain rfl := Option.some.inj hoj
        rw [if_neg (by simp [hr])]
        exact stp_mono (fun a w h => ⟨h.1, ih _ _ _ h.2⟩) hs.1
      · have hjo := hl2.mem _ (List.mem_cons_of_mem _ ho)
        rw [hoj] at hjo; obtain rfl := Option.some.inj hjo
        obtain ⟨hor, hod⟩ := mem_und.1 ho
        have := hst _ hor
        rw [Bool.or_eq_true] at this
        cases hmo : isMk oj with
        | true =>
          have hrj := isMk_rd hmo
          rw [if_neg (by simp [hrj])]
          refine stp_mono (fun a' w' q => ⟨q.1, ?_⟩) (hs.2 (j, oj) ((ordL_spec _ _ _ _ hl').1.mem_iff.1 hor) hmo hod)
          have htk := und_take hnd (hperm.mem_iff.2 (List.mem_cons_of_mem _ hor)) hod
          have hl3 := (hl.perm htk).tail
          have hr := ord_ok hns fu (n + 1) M (x :: l') F (j :: Dn) G (listed.setIfInBounds j true) a' w' h0 hF hl3 hnd (fun z hz hd => by
            rw [memB_cons, Bool.or_eq_true] at hd
            rcases hd with hd | hd
            · have e : z.1 = j := beq_iff.1 hd
              have g1 := (List.mem_map.2 ⟨z, hz, rfl⟩ : z.1 ∈ M.map (·.1))
              have : z = (j, oj) := by
                have hz' := hperm.mem_iff.2 (List.mem_cons_of_mem _ hor)
                exact nodup_fst hnd hz hz' e
              rw [this]; exact hmo
            · exact hmk z hz hd) q.2
          have e := htk.length_eq
          rw [hlen, und_cons hxd] at e
          simp only [List.length_cons] at e
          rw [show (und Dn rest).length = (und (j :: Dn) M).length by omega]
          exact hr
        | false =>
          rcases this with this | this
          · rw [hmo] at this; cases this
          · refine absurd hb ?_
            simp only [blockedN] at this
            obtain ⟨e, he, hbe⟩ := List.any_eq_true.1 this
            rw [Bool.and_eq_true, Bool.or_eq_true] at hbe
            have : blocked (x :: und Dn rest) (j, oj) = true := by
              refine List.any_eq_true.2 ⟨e, he, ?_⟩
              rw [Bool.and_eq_true]
              refine ⟨hbe.1, inIdx_iff.2 ?_⟩
              rcases hbe.2 with q | q
              · exact ⟨x.2, by rw [beq_iff.1 q]; simp⟩
              · obtain ⟨z, hz, hzz⟩ := List.any_eq_true.1 q
                rw [Bool.and_eq_true] at hzz
                refine ⟨z.2, List.mem_cons_of_mem _ ?_⟩
                rw [beq_iff.1 hzz.1]
                refine mem_und.2 ⟨hz, ?_⟩
                cases hzd : memB z.1 Dn with
                | false => rfl
                | true => rw [hmkr z hz hzd] at hzz; cases hzz.2
            rw [this]; simp
    | true =>
      rw [hr, cond_true, List.all_eq_true] at hst
      rw [if_pos hr] at hs
      obtain ⟨v, hy, hK⟩ := hs
      have hwi := waitIn_spec (i := x.1) (L := rest) rest [] (fun _ h => h) (fun j hj => by cases hj)
      have hwu : ∀ j, j ∈ waitIn x.1 rest [] → ∃ o e, (j, o) ∈ und Dn rest ∧ e ∈ o.after.toList ∧ Region.binds .any e = true ∧ (e.on = x.1 ∨ e.on ∈ waitIn x.1 rest []) := fun j hj => by
        obtain ⟨o, e, g1, g2, g3, g4⟩ := hwi j hj
        refine ⟨o, e, mem_und.2 ⟨g1, ?_⟩, g2, g3, g4⟩
        cases hzd : memB j Dn with
        | false => rfl
        | true =>
          obtain ⟨_, _, _, q⟩ := isMk_spec (hmkr _ g1 hzd)
          rw [q e g2] at g3; cases g3
      refine anyG_first hx hr hns (fun j => j ∈ waitIn x.1 rest []) (fun j hj => ?_) (und Dn rest).length G listed a w (fun j hj => ?_) ?_ (fun j oj hoj hji hun => ?_) hready hy (ih _ _ _ hK)
      · obtain ⟨o, e, g1, g2, g3, g4⟩ := hwu j hj
        exact ⟨o, e, hl2.mem _ (List.mem_cons_of_mem _ g1), by simpa using g2, g3, g4⟩
      · obtain ⟨o, e, g1, _⟩ := hwu j hj
        exact (hl2.un j).2 (inIdx_iff.2 ⟨o, List.mem_cons_of_mem _ g1⟩)
      · exact (hl2.un x.1).2 (inIdx_iff.2 ⟨x.2, by simp⟩)
      · obtain ⟨o, ho⟩ := inIdx_iff.1 ((hl2.un j).1 hun)
        have := hl2.mem _ ho
        rw [hoj] at this; obtain rfl := Option.some.inj this
        rcases List.mem_cons.1 ho with e | ho
        · exact absurd (by rw [← e]) hji
        · have ho := (mem_und.1 ho).1
          have := hst _ ho
          simp only [apartOk, Bool.or_eq_true, memB_iff] at this
          rcases this with this | this
          · exact .inl this
          · by_cases hm : j ∈ waitIn x.1 rest []
            · exact .inl hm
            · refine .inr ⟨this, ?_⟩
              by_cases hrj : opRd oj.op = true
              · exact .inl hrj
              · refine .inr (hF _ _ ?_)
                rw [← hFe]
                have hmb : memB j (waitIn x.1 rest []) = false := by
                  cases hb : memB j (waitIn x.1 rest []) with
                  | false => rfl
                  | true => exact absurd (memB_iff.1 hb) hm
                have hcr : memB j (crossed (waitIn x.1 rest []) rest) = true := by
                  refine memB_iff.2 (List.mem_map.2 ⟨(j, oj), List.mem_filter.2 ⟨ho, ?_⟩, rfl⟩)
                  simp [hmb, hrj]
                simp only [crossB, hr, cond_true, hcr, beq_iff.2, Bool.and_true, Bool.true_or]
theorem idxd_spec : ∀ (l : List Oper) (n : Nat), (∀ x ∈ idxd n l, n ≤ x.1 ∧ l[x.1 - n]? = some x.2) ∧ (∀ j, inIdx j (idxd n l) = true ↔ n ≤ j ∧ j < n + l.length) ∧ ((idxd n l).map (·.1)).Nodup
  | [], n => ⟨fun x hx => (by cases hx), fun j => (by simp [idxd, inIdx]; try omega), by simp [idxd]⟩
  | o :: r, n => by
    obtain ⟨h1, h2, h3⟩ := idxd_spec r (n + 1)
    refine ⟨fun x hx => ?_, fun j => ?_, ?_⟩
    · rcases List.mem_cons.1 hx with rfl | hx
      · simp
      · obtain ⟨g1, g2⟩ := h1 x hx
        refine ⟨by omega, ?_⟩
        rw [show x.1 - n = (x.1 - (n + 1)) + 1 by omega]
        simpa using g2
    · simp only [idxd, inIdx, Bool.or_eq_true, beq_iff, h2, List.length_cons]; omega
    · simp only [idxd, List.map_cons, List.nodup_cons]
      refine ⟨fun hm => ?_, h3⟩
      obtain ⟨x, hx, e⟩ := List.mem_map.1 hm
      have := (h1 x hx).1
      omega
theorem lst_ini : Lst ops (Array.replicate ops.size false) (idxd 0 ops.toList) := by
  obtain ⟨h1, h2, h3⟩ := idxd_spec ops.toList 0
  refine ⟨by simp, fun x hx => by simpa using (h1 x hx).2, fun j => ?_, h3⟩
  rw [h2]
  by_cases h : j < ops.size
  · simp [h]
  · simp [h]
theorem idxd_len : ∀ (l : List Oper) (n : Nat), (idxd n l).length = l.length
  | [], _ => rfl
  | o :: r, n => by simp [idxd, idxd_len r (n + 1)]
theorem sigma_spec {l : List (Nat × Oper)} {F : Cross} (hl : sigma ops = some (l, F)) : MkD l ∧ (l.map (·.1)).Nodup := by
  unfold sigma at hl
  cases hns : Region.noSelect ops with
  | false => rw [hns] at hl; cases hl
  | true =>
    rw [hns, cond_true] at hl
    obtain ⟨h1, h2⟩ := ordL_spec _ _ _ _ hl
    exact ⟨h2, (h1.map _).nodup_iff.1 (idxd_spec ops.toList 0).2.2⟩
theorem und_nil {L : List (Nat × Oper)} : und [] L = L := List.filter_eq_self.2 fun _ _ => rfl
theorem region_drawn {id : Nat} {a : Act} {w : World} (hm : P.follows .mixedOrders = true) {l : List (Nat × Oper)} {F : Cross} (hl : sigma ops = some (l, F)) (hQ : ∀ a w, Qn a w → Q .normal a w) {fu : Nat}
    (h : sH P ops Qn (fun i j => crossB i j F) fu l [] [] a { w with drawn := w.drawn + 1 }) : (Code.region id ops true).wp P Q a w := by
  unfold sigma at hl
  cases hns : Region.noSelect ops with
  | false => rw [hns] at hl; cases hl
  | true =>
  rw [hns, cond_true] at hl
  refine wp_region_any hm (anyG_wp (fl := fun i j => crossB i j F) hQ _ [] _ _ _ ?_)
  have := ord_ok hns fu _ _ _ _ [] _ _ a _ hl (fun i j hi => hi) (by rw [und_nil]; exact lst_ini) (idxd_spec ops.toList 0).2.2 (fun x _ hx => by cases hx) h
  rwa [und_nil, idxd_len, Array.length_toList] at this
end
section
/-- A draw changes nothing that is held. -/
theorem R0.draw {X : Cells} {S0 : Base} {w0 : World} {N : Nat} {m : Lm} {s : St} {tm : Array Value} {w : World} (h : R0 X S0 w0 N m s tm w) : R0 X S0 w0 N m s tm { w with drawn := w.drawn + 1 } := by
  have hk : Keep w (Fb X m s.h) { w with drawn := w.drawn + 1 } (Fb X m s.h) := fun _ _ _ h g => ⟨h, g⟩
  exact ⟨h.size, h.hN, h.nd, fun i => (h.tmps i).mono hk, h.wft, h.wfh, fun id bx hb => (h.box id bx hb).keep hk rfl (fun _ _ => rfl) (fun _ _ _ => ⟨rfl, rfl⟩) (fun _ _ _ => rfl), h.disj, h.notX, h.hz, h.zk, h.allow,
    ⟨h.fr.os, h.fr.tape, h.fr.output, h.fr.size, h.fr.block, h.fr.cell, h.fr.frozen, h.fr.there, fun k => Nat.le_trans (h.fr.dr k) (Nat.le_succ _)⟩, h.xold, h.nm, h.tab⟩
end
end Go.Eng
end
/-! Drawn regions: the interpreter's order stands for all. Conditions: none. -/
section
set_option linter.unusedVariables false
set_option linter.unusedSimpArgs false
namespace Go.Eng
open Go.RowKit
/-- Pieces that, where they succeed, do so in every world alike. -/
def WI {α : Type} (P : Program) (x : Sem α) : Prop := ∀ w w1 v, x.run P w = .ok v w1 → ∀ w', x.run P w' = .ok v w'
theorem WI.bind {α β : Type} {P : Program} {x : Sem α} {f : α → Sem β} (hx : WI P x) (hf : ∀ a, WI P (f a)) : WI P (x >>= f) := by
  intro w w1 v h w'
  rw [Sem.run_bind] at h ⊢
  cases hr : x.run P w with
  | ok a w2 =>
    rw [hr] at h
    rw [hx w w2 a hr w']
    exact hf a w2 w1 v h w'
  | halt e w2 => rw [hr] at h; cases h
theorem wi_no {α : Type} {P : Program} {x : Sem α} (h : ∀ w v w1, x.run P w ≠ .ok v w1) : WI P x := fun w w1 v g => absurd g (h w v w1)
theorem no_bind {α β : Type} {P : Program} {x : Sem α} {f : α → Sem β} (hf : ∀ a w v w1, (f a).run P w ≠ .ok v w1) : ∀ w v w1, (x >>= f).run P w ≠ .ok v w1 := by
  intro w v w1 h
  rw [Sem.run_bind] at h
  cases hr : x.run P w with
  | ok a w2 => rw [hr] at h; exact hf a _ _ _ h
  | halt e w2 => rw [hr] at h; cases h
theorem wi_pure {α : Type} {P : Program} (a : α) : WI P (pure a : Sem α) := fun w w1 v h w' => by
  have h : Result.ok a w = Result.ok v w1 := h
  injection h with h
  subst h; rfl
theorem no_halt {α : Type} {P : Program} (e : Halt) : ∀ w v w1, (Sem.halt e : Sem α).run P w ≠ .ok v w1 := fun w v w1 h => by cases h
theorem wi_halt {α : Type} {P : Program} (e : Halt) : WI P (Sem.halt e : Sem α) := wi_no (no_halt e)
theorem wi_program {P : Program} : WI P (program : Sem Program) := fun w w1 v h w' => by
  simp only [program, Sem.run] at h ⊢
  injection h with h; rw [h]
theorem wi_typeInfo {P : Program} (t : TypeId) : WI P (typeInfo t) := by
  unfold typeInfo
  refine wi_program.bind fun p => ?_
  split <;> first | exact wi_pure _ | exact wi_halt _
theorem wi_underlying {P : Program} (t : TypeId) : WI P (underlying t) := by
  unfold underlying
  refine wi_program.bind fun p => ?_
  split <;> first | exact wi_pure _ | exact wi_halt _
theorem wi_sizeOf {P : Program} (t : TypeId) : WI P (sizeOf t) := by
  unfold sizeOf
  exact (wi_typeInfo t).bind fun _ => wi_pure _
theorem wi_asIntOf {P : Program} (v : Value) : WI P (asIntOf v) := by
  unfold asIntOf; split <;> first | exact wi_pure _ | exact wi_halt _
theorem wi_sureAddr {P : Program} (v : Value) : WI P (Instr.sureAddr v) := by
  unfold Instr.sureAddr; split <;> first | exact wi_pure _ | exact wi_halt _
theorem no_rt {α : Type} {P : Program} (e : RuntimeError) : ∀ w v w1, (runtimePanic e : Sem α).run P w ≠ .ok v w1 := by
  unfold runtimePanic
  refine no_bind fun p => ?_
  cases e <;> first | exact no_halt _ | exact no_bind fun _ => no_bind fun _ => no_halt _
theorem no_bounds {α : Type} {P : Program} (k : IntKind) (x y : Int) (c : BoundsCode) : ∀ w v w1, (boundsPanic k x y c : Sem α).run P w ≠ .ok v w1 := by
  unfold boundsPanic
  dsimp only
  split <;> exact no_bind fun _ => no_rt _
section
variable {R : Type} {X : Cells} {S0 : Base} {w0 : World} {N : Nat} {c : Cx} {m m' : Lm} {s s' : St} {tm tm' : Array Value} {w w' : World}
/-- It holds whatever is written elsewhere. -/
def Rob (X : Cells) (m : Lm) (s : St) (w : World) (φ : World → Prop) : Prop :=
  ∃ S : List (Nat × Nat × Value), (∀ c ∈ S, w.cell? (mkA c.1 c.2.1) = some c.2.2 ∧ ¬ Fb X m s.h c.1 c.2.1) ∧ ∀ w', (∀ c ∈ S, w'.cell? (mkA c.1 c.2.1) = some c.2.2) → φ w'
theorem Rob.now {φ : World → Prop} (h : Rob X m s w φ) : φ w := by
  obtain ⟨S, h1, h2⟩ := h; exact h2 w fun c hc => (h1 c hc).1
theorem Rob.keep {X' : Cells} {φ : World → Prop} (h : Rob X m s w φ) (hk : Keep w (Fb X m s.h) w' (Fb X' m' s'.h)) : Rob X' m' s' w' φ := by
  obtain ⟨S, h1, h2⟩ := h; exact ⟨S, fun c hc => hk _ _ _ (h1 c hc).1 (h1 c hc).2, h2⟩
theorem rob_all {φ : World → Prop} (h : ∀ w', φ w') : Rob X m s w φ := ⟨[], fun c hc => (by cases hc), fun w' _ => h w'⟩
/-- It holds whatever is written elsewhere than in this box. -/
def RobB (m : Lm) (w : World) (id : Nat) (φ : World → Prop) : Prop :=
  ∃ (S : List (Nat × Nat × Value)) (B : List (Nat × Obj)), (∀ c ∈ S, w.cell? (mkA c.1 c.2.1) = some c.2.2 ∧ (m id).has c.1 c.2.1) ∧ (∀ d ∈ B, w.heap[d.1]? = some d.2 ∧ ∀ o, (m id).has d.1 o) ∧
    ∀ w', (∀ c ∈ S, w'.cell? (mkA c.1 c.2.1) = some c.2.2) → (∀ d ∈ B, w'.heap[d.1]? = some d.2) → φ w'
theorem RobB.now {id : Nat} {φ : World → Prop} (h : RobB m w id φ) : φ w := by
  obtain ⟨S, B, h1, h2, h3⟩ := h; exact h3 w (fun c hc => (h1 c hc).1) fun d hd => (h2 d hd).1
theorem RobB.keep {id : Nat} {φ : World → Prop} (h : RobB m w id φ) (hm : m' id = m id) (hc : ∀ b o, (m id).has b o → w'.cell? (mkA b o) = w.cell? (mkA b o))
    (hb : ∀ b, (∀ o, (m id).has b o) → w'.heap[b]? = w.heap[b]?) : RobB m' w' id φ := by
  obtain ⟨S, B, h1, h2, h3⟩ := h
  exact ⟨S, B, fun c hs => ⟨(hc _ _ (h1 c hs).2).trans (h1 c hs).1, by rw [hm]; exact (h1 c hs).2⟩, fun d hd => ⟨(hb _ (h2 d hd).2).trans (h2 d hd).1, fun o => by rw [hm]; exact (h2 d hd).2 o⟩, h3⟩
/-- The state while these boxes may not be written. -/
def zM (m M : Lm) (z : List Nat) : Lm := fun id => if memB id z = true then m id else M id
theorem R0.guard (h : R0 X S0 w0 N m s tm w) {z : List Nat} (hzk : ∀ id, memB id z = true → getBox id s.h ≠ none) :
    R0 X ⟨OwnZ m s.h z, zM m S0.M z, z, S0.dk⟩ w N m { s with z := z } tm w where
  size := h.size
  hN := h.hN
  nd := h.nd
  tmps := h.tmps
  wft := h.wft
  wfh := h.wfh
  box := h.box
  disj := h.disj
  notX := h.notX
  hz := rfl
  zk := hzk
  allow := fun b o ho => .inl ho
  fr := Fr.refl _ _ _
  xold := h.xold
  nm := fun id h1 h2 => by
    show (m id).fix = (zM m S0.M z id).fix ∧ (memB id z = true → m id = zM m S0.M z id)
    unfold zM
    split
    · exact ⟨rfl, fun _ => rfl⟩
    · rename_i hn
      have hn : memB id z = false := by simpa using hn
      have h2 : (namedB id || memB id z) = true := h2
      rw [hn, Bool.or_false] at h2
      exact ⟨(h.nm id h1 (by rw [h2]; rfl)).1, fun e => by rw [hn] at e; cases e⟩
  tab := h.tab
set_option linter.unusedSectionVars false
section
variable {z : List Nat} (h : R0 X S0 w0 N m s tm w) (hz0 : S0.z = []) (hzk : ∀ id, memB id z = true → getBox id s.h ≠ none) (g : R0 X ⟨OwnZ m s.h z, zM m S0.M z, z, S0.dk⟩ w N m' s' tm' w')
include h hz0 hzk g
theorem guard_same : ∀ id, memB id z = true → m' id = m id := fun id hi => by
  have := (g.nm id (g.zk id hi) (by show (namedB id || memB id z) = true; rw [hi]; simp)).2 hi
  rw [this]; simp [zM, hi]
theorem guard_own : ∀ b o, Own m' s'.h b o → Own m s.h b o ∨ w.heap.size ≤ b := fun b o ho => by
  obtain ⟨id, h1, h2⟩ := ho
  cases hi : memB id z with
  | true => rw [guard_same h hz0 hzk g id hi] at h2; exact .inl ⟨id, hzk id hi, h2⟩
  | false => exact (g.allow b o ⟨id, h1, hi, h2⟩).imp OwnZ.own fun q => q
theorem guard_cell : ∀ id, memB id z = true → ∀ b o, (m id).has b o → w'.cell? (mkA b o) = w.cell? (mkA b o) := fun id hi b o hh => by
  refine g.fr.cell b o (h.own_lt ⟨id, hzk id hi, hh⟩) fun q => ?_
  obtain ⟨id2, h1, h2, h3⟩ := q
  have hne : id ≠ id2 := fun e => by subst e; rw [hi] at h2; cases h2
  exact h.disj id id2 hne (hzk id hi) h1 b o hh h3
theorem guard_block : ∀ id, memB id z = true → ∀ b, (∀ o, (m id).has b o) → w'.heap[b]? = w.heap[b]? := fun id hi b hh => by
  refine g.fr.block b (h.own_lt ⟨id, hzk id hi, hh 0⟩) fun o q => ?_
  obtain ⟨id2, h1, h2, h3⟩ := q
  have hne : id ≠ id2 := fun e => by subst e; rw [hi] at h2; cases h2
  exact h.disj id id2 hne (hzk id hi) h1 b o (hh o) h3
theorem R0.back : R0 X S0 w0 N m' { s' with z := [] } tm' w' where
  size := g.size
  hN := g.hN
  nd := g.nd
  tmps := g.tmps
  wft := g.wft
  wfh := g.wfh
  box := g.box
  disj := g.disj
  notX := g.notX
  hz := hz0.symm
  zk := fun id hi => by rw [hz0] at hi; cases hi
  allow := fun b o ho => by
    rcases guard_own h hz0 hzk g b o ho.own with q | q
    · obtain ⟨id, h1, h2⟩ := q
      exact h.allow b o ⟨id, h1, by rw [hz0]; rfl, h2⟩
    · exact .inr (Nat.le_trans h.fr.size q)
  fr := h.fr.trans g.fr h.fr.size fun b o hb ho => by
    obtain ⟨id, h1, _, h2⟩ : OwnZ m s.h z b o := ho
    exact (h.allow b o ⟨id, h1, by rw [hz0]; rfl, h2⟩).resolve_right (by omega)
  xold := g.xold
  nm := fun id h1 h2 => by
    cases hi : memB id z with
    | true => rw [guard_same h hz0 hzk g id hi]; exact h.nm id (hzk id hi) h2
    | false =>
      have h2 : (namedB id || memB id S0.z) = true := h2
      rw [hz0] at h2
      have := (g.nm id h1 (by show (namedB id || memB id z) = true; rw [hi]; simpa [memB] using h2)).1
      exact ⟨by rw [this]; simp [zM, hi], fun e => by rw [hz0] at e; cases e⟩
  tab := g.tab
theorem keep_of : Keep w (Fb X m s.h) w' (Fb X m' s'.h) := fun b o v hv hn =>
  ⟨by rw [g.fr.cell b o (cell_lt hv) (fun q => hn (.inr (OwnZ.own q)))]; exact hv,
   fun q => q.elim (fun q => hn (.inl q)) (fun q => (guard_own h hz0 hzk g b o q).elim (fun z => hn (.inr z)) (fun z => by have := cell_lt hv; omega))⟩
end
theorem wi_bin {P : Program} {op : BinOp} {t : TypeId} {ox oy : Operand} {k l : IntKind} {i j : Int} : WI P (do eqGuard op t ox oy (.int k i) (.int l j); binOp op t (.int k i) (.int l j)) := by
  refine WI.bind ?_ fun _ => ?_
  · unfold eqGuard
    split <;> exact wi_pure _
  · unfold binOp
    cases op <;> simp only <;> (try unfold Op.shift) <;> (try unfold Op.intArith) <;> (try unfold Op.intDiv) <;> (try unfold Op.intBits) <;> (try unfold Op.intCmp) <;> (repeat' split) <;> first | exact wi_pure _ | exact wi_halt _ | exact wi_no (no_rt _)
theorem wi_binS {P : Program} {op : BinOp} {t : TypeId} {ox oy : Operand} {a b : ByteArray} : WI P (do eqGuard op t ox oy (.string a) (.string b); binOp op t (.string a) (.string b)) := by
  refine WI.bind ?_ fun _ => ?_
  · unfold eqGuard
    split <;> exact wi_pure _
  · unfold binOp
    cases op <;> simp only <;> (try unfold Op.stringOp) <;> (try simp only) <;> (repeat' split) <;> first | exact wi_pure _ | exact wi_halt _ | exact wi_no (no_rt _)
theorem robV_ok {a : Act} {o : Oper} {v : Value} (h : R0 X S0 w0 c.n m s a.tmps w) (hr : robV c s o = true) (hrun : (execOp a.eval o).run c.p w = .ok (.value v) w) :
    Rob X m s w (fun w' => (execOp a.eval o).run c.p w' = .ok (.value v) w') := by
  have pu : WI c.p (execOp a.eval o) → Rob X m s w (fun w' => (execOp a.eval o).run c.p w' = .ok (.value v) w') := fun hp => rob_all (hp _ _ _ hrun)
  unfold robV at hr
  split at hr
  · rename_i x ho; exact pu (by simp only [execOp, ho]; exact wi_pure _)
  · rename_i x ho; exact pu (by simp only [execOp, ho]; exact wi_pure _)
  · rename_i t x j ho
    refine pu ?_
    simp only [execOp, ho]
    refine WI.bind ?_ fun _ => wi_pure _
    unfold Instr.indexAt
    refine (wi_asIntOf _).bind fun ki => ?_
    refine (wi_underlying _).bind fun d => ?_
    have hjp : ∀ (z : Option Addr × Nat × TypeId), WI c.p (do
        let tiny := decide (z.2.1 ≤ 1) && (match ← underlying t with | .array .. => true | _ => false)
        match z.1 with
        | some a =>
          if 0 ≤ ki.2 ∧ ki.2 < z.2.1 then pure (Value.pointer (some (a.add (ki.2.toNat * (← sizeOf z.2.2)))))
          else if tiny then unsupported (.noEntry "op/indexAddr.an index out of range at an array of length 0 or 1 (ledger 616)")
          else boundsPanic ki.1 ki.2 z.2.1 .index
        | none => boundsPanic ki.1 ki.2 0 .index) := by
      intro z
      refine (wi_underlying _).bind fun d => ?_
      dsimp only
      generalize (decide (z.2.1 ≤ 1) && (match d with | .array .. => true | _ => false)) = tn
      split
      · split
        · exact (wi_sizeOf _).bind fun _ => wi_pure _
        · split
          · exact wi_halt _
          · exact wi_no (no_bounds _ _ _ _)
      · exact wi_no (no_bounds _ _ _ _)
    split
    · exact (wi_sureAddr _).bind fun _ => WI.bind (wi_pure _) hjp
    · exact WI.bind (wi_pure _) hjp
    · exact WI.bind (wi_halt _) fun _ => hjp _
  · rename_i x j ho
    refine pu ?_
    simp only [execOp, ho]
    refine WI.bind ?_ fun _ => wi_pure _
    unfold Instr.extract
    (repeat' split) <;> first | exact wi_pure _ | exact wi_halt _
  · rename_i x y z ho
    refine pu ?_
    simp only [execOp, ho]
    refine WI.bind ?_ fun _ => wi_pure _
    unfold asBool
    split <;> first | exact wi_pure _ | exact wi_halt _
  · rename_i t x j ho
    split at hr
    · rename_i fs hu
      split at hr
      · rename_i f hf
        split at hr
        · rename_i i hi
          refine pu ?_
          simp only [execOp, ho]
          refine WI.bind ?_ fun _ => wi_pure _
          intro w1 w2 v' hv w3
          unfold Instr.fieldAt at hv ⊢
          rw [Sem.run_bind, run_underlying hu, Result.andThen_ok] at hv ⊢
          simp only [hf] at hv ⊢
          have hsz : ∀ w, (sizeOf f.type).run c.p w = .ok i.size w := by
            intro w; simp [sizeOf, typeInfo, hi]
          have hz : ¬ i.size = 0 := by have := Nat.blt_eq.mp hr; omega
          have hw : WI c.p (do let a ← Instr.sureAddr (a.eval x); let p ← fieldPlace a f; pure (Value.pointer (some p))) := by
            refine (wi_sureAddr _).bind fun a => WI.bind ?_ fun _ => wi_pure _
            intro w1 w2 v' hv w3
            simp only [fieldPlace, Sem.run_bind, hsz, Result.andThen_ok, if_neg hz] at hv ⊢
            exact wi_pure _ _ _ _ hv w3
          exact hw w1 w2 v' hv w3
        · cases hr
      · cases hr
    · cases hr
  · rename_i x ho
    have hx := ev_rel h x
    split at hr
    · rename_i id p sh hp
      rw [hp] at hx
      obtain ⟨b, o', hv⟩ := addr_ptr (rel_ref.1 hx)
      exact pu (by simp only [execOp, ho, hv]; exact wi_pure _)
    · rename_i sh p hp
      rw [hp] at hx
      obtain ⟨b, o', cs, hv, _⟩ := (rel_sc (by simp) (by simp) rfl).1 hx
      injection hv with hv
      exact pu (by simp only [execOp, ho, hv]; exact wi_pure _)
    · cases hr
  · rename_i t x ho
    have hx := ev_rel h x
    split at hr
    · rename_i sh p hp
      rw [hp] at hx
      have hsh := sh_is (oIs_eq hr)
      obtain ⟨b, o', cs, hv, h1, h2⟩ := (rel_sc (by simp) (by simp) rfl).1 hx
      injection hv with hv
      have run : ∀ w', (∀ j v, cs[j]? = some v → w'.cell? (mkA b (o' + j)) = some v) → ∃ y, (execOp a.eval o).run c.p w' = .ok (.value y) w' ∧ valOf sh.isAgg cs y := by
        intro w' hc
        obtain ⟨y, hy1, hy2⟩ := run_load_cells (P := c.p) (w := w') hsh h1.len hc
        exact ⟨y, by simp [execOp, ho, Instr.loadAt, Instr.sureAddr, hv, hy1], hy2⟩
      refine ⟨(List.range cs.length).map fun j => (b, o' + j, cs.getD j undef), fun z hz => ?_, fun w' hw' => ?_⟩
      · obtain ⟨j, hj, rfl⟩ := List.mem_map.1 hz
        have hj := List.mem_range.1 hj
        exact h2 j _ (by simp [List.getD_eq_getElem?_getD, List.getElem?_eq_getElem hj])
      · obtain ⟨y, g1, g2⟩ := run w fun j v hv => (h2 j v hv).1
        obtain ⟨y', g3, g4⟩ := run w' fun j v hv => by
          have hj : j < cs.length := (List.getElem?_eq_some_iff.1 hv).1
          have := hw' (b, o' + j, cs.getD j undef) (List.mem_map.2 ⟨j, List.mem_range.2 hj, rfl⟩)
          simp only [List.getD_eq_getElem?_getD, hv, Option.getD_some] at this
          exact this
        have e1 : y = v := by rw [hrun] at g1; injection g1 with g1; injection g1 with g1; exact g1.symm
        have e2 : y' = y := by
          unfold valOf at g2 g4
          cases hs : sh.isAgg with
          | true => rw [hs, if_pos rfl] at g2 g4; rw [g2, g4]
          | false => rw [hs] at g2 g4; rw [if_neg (by simp)] at g2 g4; rw [g2] at g4; injection g4 with g4; exact g4.symm
        rw [g3, e2, e1]
    · cases hr
  · rename_i op t x y t' ho
    have hx := ev_rel h x
    have hy := ev_rel h y
    split at hr
    · rename_i ka p kb q hp hq
      rw [hp, rel_int] at hx
      rw [hq, rel_int] at hy
      refine pu ?_
      simp only [execOp, ho, hx.2, hy.2]
      exact WI.bind wi_bin fun _ => wi_pure _
    · rename_i p q hp hq
      rw [hp, rel_str] at hx
      rw [hq, rel_str] at hy
      refine pu ?_
      simp only [execOp, ho, hx.2, hy.2]
      exact WI.bind wi_binS fun _ => wi_pure _
    · cases hr
  · rename_i t x j ho
    have hx := ev_rel h x
    split at hr
    · rename_i p hp
      rw [hp, rel_str] at hx
      refine pu ?_
      simp only [execOp, ho, hx.2]
      refine WI.bind ?_ fun _ => wi_pure _
      unfold Instr.index
      refine (wi_asIntOf _).bind fun ki => ?_
      dsimp only
      refine (wi_underlying _).bind fun d => ?_
      split
      · rename_i e; cases e
      · split
        · exact wi_pure _
        · exact wi_no (no_bounds _ _ _ _)
      · exact wi_halt _
    · cases hr
  · rename_i op t x ho
    refine pu ?_
    simp only [execOp, ho]
    refine WI.bind ?_ fun _ => wi_pure _
    unfold Op.unary
    (repeat' split) <;> first | exact wi_pure _ | exact wi_halt _
  · rename_i cl ho
    split at hr
    · rename_i x h1 h2
      have hx := ev_rel h x
      have ha : cl.args = #[x] := by apply Array.ext'; simpa using h2
      have hcase : (∃ (A : Option Addr) (l cap : Nat), a.eval x = .slice A l cap) ∨ ∃ b, a.eval x = .string b := by
        split at hr
        · rename_i e p hp; rw [hp] at hx
          obtain ⟨A, xs, cap, _, e1, _⟩ := (rel_imm rfl).1 hx
          injection e1 with e1; exact .inl ⟨_, _, _, e1⟩
        · rename_i id e hp; rw [hp] at hx
          obtain ⟨A, l, cap, _, e1⟩ := rel_slf.1 hx; exact .inl ⟨_, _, _, e1⟩
        · rename_i id e lo n hp; rw [hp] at hx
          obtain ⟨A, l, cap, A', cap', _, _, _, _, e1, _⟩ := (rel_sc (by simp) (by simp) rfl).1 hx
          injection e1 with e1; exact .inl ⟨_, _, _, e1⟩
        · rename_i e b hp; rw [hp] at hx
          obtain ⟨A, e1, _⟩ := (rel_sc (by simp) (by simp) rfl).1 hx
          injection e1 with e1; exact .inl ⟨_, _, _, e1⟩
        · rename_i id n e p hp
          have hx := dv_rel hx
          rw [hp] at hx
          obtain ⟨A, xs, cap, _, e1, _⟩ := (rel_imm rfl).1 hx
          injection e1 with e1; exact .inl ⟨_, _, _, e1⟩
        · rename_i p hp; rw [hp] at hx
          exact .inr ⟨_, (rel_str.1 hx).2⟩
        · cases hr
      refine pu ?_
      have hw : WI c.p (Builtin.len_ cl.argTypes o.type #[a.eval x]) := by
        unfold Builtin.len_
        rcases hcase with ⟨A, l, cap, e1⟩ | ⟨b, e1⟩ <;> rw [e1] <;> (repeat' split) <;> first
          | exact wi_pure _ | exact wi_halt _ | (refine (wi_underlying _).bind fun d => ?_; (repeat' split) <;> first | exact wi_pure _ | exact wi_halt _ | (refine (wi_underlying _).bind fun _ => ?_; split <;> first | exact wi_pure _ | exact wi_halt _) | (rename_i e; exact absurd (congrArg Prod.snd e) (by simp)))
      intro w1 w2 z hz w3
      simp only [execOp, ho, resolve, h1, ha, invoke, builtin, Sem.run_bind, Sem.run_pure, Result.andThen_ok] at hz ⊢
      have hm : Array.map a.eval #[x] = #[a.eval x] := by simp
      rw [hm] at hz ⊢
      cases hl : (Builtin.len_ cl.argTypes o.type #[a.eval x]).run c.p w1 with
      | ok y w4 =>
        rw [hl] at hz
        rw [hw _ _ _ hl w3]
        simp only [Result.andThen_ok] at hz ⊢
        injection hz with hz
        rw [hz]
      | halt e w4 => rw [hl] at hz; cases hz
    · cases hr
  · cases hr
theorem robG_ok {ops : Array Oper} {a : Act} {o : Oper} (h : R0 X S0 w0 c.n m s a.tmps w) (hr : robG c ops s o = true) (hw : Region.wanted o (yielded ops a.tmps) = true) : robV c s o = true := by
  unfold robG at hr
  split at hr
  · exact hr
  · rename_i j want hg
    split at hr
    · cases hr
    · rename_i g hgo
      have hy : ∀ x, a.tmps.getD g undef = x → yielded ops a.tmps j = match x with | .bool b => some b | _ => none := by
        intro x hx
        unfold guardOf at hgo
        unfold yielded
        cases ho : ops[j]? with
        | none => rw [ho] at hgo; cases hgo
        | some oj =>
          rw [ho] at hgo
          simp only at hgo
          simp only [Option.bind_some, hgo]
          rw [Array.getD_eq_getD_getElem?] at hx
          cases ht : a.tmps[g]? with
          | none => rw [ht] at hx; simp at hx; subst hx; rfl
          | some y => rw [ht] at hx; simp at hx; subst hx; cases y <;> rfl
      have hgr := h.tmps g
      split at hr
      · rename_i b hp
        rw [hp, rel_bool] at hgr
        have := hy _ hgr.2
        simp only [P.toBool] at this
        simp only [Region.wanted, hg, this] at hw
        split at hr
        · exact hr
        · exact hr
        · rename_i h1 h2
          cases b <;> cases want <;> first | exact absurd rfl (h1 rfl) | exact absurd rfl (h2 rfl) | cases hw
      · rename_i y hp
        rw [hp] at hgr
        obtain ⟨vs, hgr, _⟩ := hgr
        have := hy _ hgr
        simp only [Region.wanted, hg, this] at hw
        cases hw
      · cases hr
theorem splitG_ok {ops : Array Oper} {a : Act} {o : Oper} {f : St → Option R} {r : R} (h : R0 X S0 w0 c.n m s a.tmps w) (he : splitG c ops o s f = some r) : ∃ s1, f s1 = some r ∧ R0 X S0 w0 c.n m s1 a.tmps w ∧ s1.h = s.h := by
  unfold splitG at he
  split at he
  · exact ⟨s, he, h, rfl⟩
  · split at he
    · cases he
    · rename_i g hgo
      split at he
      · rename_i p hp
        replace he := cond_some he
        obtain ⟨hgn, he⟩ := he
        have hgn : g < c.n := by simpa [Nat.blt_eq] using hgn
        have hgr := h.tmps g
        rw [hp, rel_bool] at hgr
        have h1 : ∀ b, p.toBool = b → R0 X S0 w0 c.n m (s.put (some g) (.imm .bool (.bool b))) a.tmps w := by
          intro b hb
          have hx : a.tmps.setIfInBounds g (.bool b) = a.tmps := by
            have := hgr.2
            rw [hb] at this
            have hlt : g < a.tmps.size := by rw [h.size]; exact hgn
            apply Array.ext (by simp)
            intro i h1 h2
            by_cases e : g = i
            · subst e
              simp only [Array.getElem_setIfInBounds_self]
              rw [Array.getD_eq_getD_getElem?, Array.getElem?_eq_getElem hlt] at this
              simpa using this.symm
            · rw [Array.getElem_setIfInBounds_ne (by simpa using h2) e]
          have := h.put (d := g) (v := .imm .bool (.bool b)) (x := .bool b) hgn (mk_bool b) (by simp [V.ids])
          rw [hx] at this; exact this
        cases hb : p.toBool with
        | true => rw [hb] at he; exact ⟨_, he, h1 true hb, rfl⟩
        | false => rw [hb] at he; exact ⟨_, he, h1 false hb, rfl⟩
      · exact ⟨s, he, h, rfl⟩
      · cases he
theorem therE_ok {h : Heap} : ∀ {z : List Nat}, therE h z = true → ∀ id, memB id z = true → getBox id h ≠ none
  | [], _, id, hi => by cases hi
  | j :: r, ht, id, hi => by
    simp only [therE] at ht
    split at ht
    · rename_i bx hb
      simp only [memB, Bool.or_eq_true, beq_iff] at hi
      rcases hi with rfl | hi
      · rw [hb]; simp
      · exact therE_ok ht id hi
    · cases ht
theorem kept_mem {F : Cross} {js : List Nat} {i id : Nat} (hc : crossL F i js = true) : ∀ {L : List (Nat × Nat)}, (i, id) ∈ L → memB id (kept F js L) = true
  | (i', id') :: r, hm => by
    simp only [kept]
    rcases List.mem_cons.1 hm with e | hm
    · obtain ⟨rfl, rfl⟩ := Prod.mk.inj e
      rw [hc, cond_true]; simp [memB]
    · have := kept_mem hc hm
      cases crossL F i' js with
      | true => rw [cond_true]; simp [memB, this]
      | false => exact this
theorem crossL_iff {F : Cross} {i : Nat} {js : List Nat} : crossL F i js = true ↔ ∃ j ∈ js, crossB i j F = true := by
  simp [crossL]
theorem looksAt_ok {o : Oper} {id : Nat} {a : Act} {v : Value} (h : R0 X S0 w0 c.n m s a.tmps w) (hl : looksAt c s o = some id) (hrun : (execOp a.eval o).run c.p w = .ok (.value v) w) :
    getBox id s.h ≠ none ∧ RobB m w id fun w' => (execOp a.eval o).run c.p w' = .ok (.value v) w' := by
  unfold looksAt at hl
  split at hl
  · rename_i t x ho
    have hx := ev_rel h x
    split at hl
    · rename_i id' path sh hp
      replace hl := cond_some hl
      obtain ⟨hc, hl⟩ := hl
      have hsh := sh_is (oIs_eq hc)
      split at hl
      · rename_i y hg
        obtain rfl := Option.some.inj hl
        rw [hp] at hx
        obtain ⟨b, o', cs, hv, h1, h2, h3, h4, h5, h6, h7⟩ := getRef_ok h (rel_ref.1 hx) hg
        refine ⟨h7, ?_⟩
        have run : ∀ w', (∀ j v, cs[j]? = some v → w'.cell? (mkA b (o' + j)) = some v) → ∃ y, (execOp a.eval o).run c.p w' = .ok (.value y) w' ∧ valOf sh.isAgg cs y := by
          intro w' hc
          obtain ⟨y, hy1, hy2⟩ := run_load_cells (P := c.p) (w := w') hsh h1 hc
          exact ⟨y, by simp [execOp, ho, Instr.loadAt, Instr.sureAddr, hv, hy1], hy2⟩
        refine ⟨(List.range cs.length).map fun j => (b, o' + j, cs.getD j undef), [], fun z hz => ?_, fun d hd => (by cases hd), fun w' hw' _ => ?_⟩
        · obtain ⟨j, hj, rfl⟩ := List.mem_map.1 hz
          have hj := List.mem_range.1 hj
          exact ⟨(h4 j _ (by simp [List.getD_eq_getElem?_getD, List.getElem?_eq_getElem hj])).1, h6 j (by omega)⟩
        · obtain ⟨y, g1, g2⟩ := run w fun j v hv => (h4 j v hv).1
          obtain ⟨y', g3, g4⟩ := run w' fun j v hv => by
            have hj : j < cs.length := (List.getElem?_eq_some_iff.1 hv).1
            have := hw' (b, o' + j, cs.getD j undef) (List.mem_map.2 ⟨j, List.mem_range.2 hj, rfl⟩)
            simp only [List.getD_eq_getElem?_getD, hv, Option.getD_some] at this
            exact this
          have e1 : y = v := by rw [hrun] at g1; injection g1 with g1; injection g1 with g1; exact g1.symm
          have e2 : y' = y := by
            unfold valOf at g2 g4
            cases hs : sh.isAgg with
            | true => rw [hs, if_pos rfl] at g2 g4; rw [g2, g4]
            | false => rw [hs] at g2 g4; rw [if_neg (by simp)] at g2 g4; rw [g2] at g4; injection g4 with g4; exact g4.symm
          rw [g3, e2, e1]
      · cases hl
    · cases hl
  · rename_i t x i ok ho
    have hx := ev_rel h x
    have hi := ev_rel h i
    split at hl
    case h_2 => cases hl
    rename_i kt vt hu
    split at hl
    case h_2 => cases hl
    rename_i ks vs id' kk0 ks' kp hks hvs hp hkp
    replace hl := cond_some hl
    obtain ⟨hc, hl⟩ := hl
    rw [Bool.and_eq_true, Bool.and_eq_true] at hc
    obtain ⟨hkt, hbe, hk0⟩ := hc
    have := Sh.beq_eq hbe; subst this
    split at hl
    case h_2 => cases hl
    rename_i kk p hg
    replace hl := cond_some hl
    obtain ⟨hc, hl⟩ := hl
    obtain rfl := Option.some.inj hl
    obtain ⟨kd, hud, hd⟩ := keyD hkt hks
    rw [hkp, rel_one] at hi
    rw [hp, rel_blk] at hx
    obtain ⟨b, q, hm, hv, _⟩ := hx
    obtain ⟨b', q', hm', hlt, hb⟩ := h.box _ _ hg
    rw [hm] at hm'; injection hm' with hm' hm2; subst hm'; subst hm2
    obtain ⟨l, es, clock, v2, h0, hent, hkv⟩ : ∃ l es clock v2, w.heap[b]? = some (.map es clock) ∧ EntRel w (Fb X m s.h) ks v2 l es.toList ∧ kk0.val b q = .map (some b) := by
      have hval : kk0.val b q = .map (some b) := by
        cases kk0 <;> first | rfl | (cases hk0; done)
      cases kk <;> simp only [Bk.keyIs] at hc <;> first | (cases hc; done) | skip
      · have e1 := Sh.beq_eq hc; subst e1
        obtain ⟨l, es, clock, rfl, e, e3, _⟩ := hb; exact ⟨l, es, clock, _, e, e3, hval⟩
      · have e1 := Sh.beq_eq hc; subst e1
        obtain ⟨l, es, clock, rfl, e, e3, _⟩ := hb; exact ⟨l, es, clock, _, e, e3, hval⟩
      · have e1 := Sh.beq_eq hc; subst e1
        obtain ⟨l, es, clock, rfl, e, e3, _⟩ := hb; exact ⟨l, es, clock, _, e, e3, hval⟩
    rw [hkv] at hv
    refine ⟨by rw [hg]; simp, [], [(b, .map es clock)], fun z hz => (by cases hz), fun d hd => ?_, fun w' _ hB => ?_⟩
    · obtain rfl := List.mem_singleton.1 hd
      exact ⟨h0, fun o => by rw [hm]; exact .inl rfl⟩
    · have h0' := hB _ (List.mem_singleton.2 rfl)
      have hz : WI c.p (zeroValue vt) := by
        unfold zeroValue
        refine (wi_typeInfo _).bind fun _ => ?_
        split <;> first | exact wi_pure _ | exact wi_halt _
      obtain ⟨z, z1, _, _⟩ := run_zero (sh_is hvs) w
      have z1' := hz _ _ _ z1 w'
      simp only [execOp, ho] at hrun ⊢
      have run : ∀ W, W.heap[b]? = some (.map es clock) → (zeroValue vt).run c.p W = .ok z W → ∃ y, (∀ W', W'.heap[b]? = some (.map es clock) → (zeroValue vt).run c.p W' = .ok z W' → (Instr.lookup t (a.eval x) (a.eval i) ok).run c.p W' = .ok y W') := by
        intro W _ _
        rcases find_ok hd hi .unit l es.toList 0 hent with ⟨q1, q2, q3, _⟩ | ⟨j, e, q1, q2, q3, q4, q5, _⟩
        · refine ⟨if ok then .tuple #[z, .bool false] else z, fun W' h3 h4 => ?_⟩
          have h1 := run_checkKey (w := W') hd hud es.isEmpty 9999 (a.eval i)
          have h2 := run_findKey (w := W') hud q2
          cases ok <;> simp [Instr.lookup, Sem.run_bind, run_underlying hu, Result.andThen_ok, hv, run_getObj h3 rfl, Sem.run_pure, h1, h2, h4]
        · refine ⟨if ok then .tuple #[e.val, .bool true] else e.val, fun W' h3 h4 => ?_⟩
          have h1 := run_checkKey (w := W') hd hud es.isEmpty 9999 (a.eval i)
          have h2 := run_findKey (w := W') hud q2
          cases ok <;> simp [Instr.lookup, Sem.run_bind, run_underlying hu, Result.andThen_ok, hv, run_getObj h3 rfl, Sem.run_pure, h1, h2, h4]
      obtain ⟨y, hy⟩ := run w h0 z1
      have e1 := hy w h0 z1
      have e2 := hy w' h0' z1'
      rw [Sem.run_bind, e1] at hrun
      rw [Sem.run_bind, e2]
      simp only [Result.andThen_ok, Sem.run_pure] at hrun ⊢
      injection hrun with h1 h2
      rw [h1]
  · cases hl
/-! ### makers that come up early -/
theorem fst_mem {i : Nat} {js : List Nat} {F : Cross} (x : Nat) (hx : crossL F x js = true) : crossL F x (i :: js) = true := by
  obtain ⟨j, hj, hc⟩ := crossL_iff.1 hx
  exact crossL_iff.2 ⟨j, List.mem_cons_of_mem _ hj, hc⟩
/-- One operation sets no temporary but its own. -/
theorem stp_keep {P : Program} {ops : Array Oper} {o : Oper} {K : Act → World → Prop} {a : Act} {w : World} (h : stp P ops Q0 o K a w) :
    stp P ops Q0 o (fun a' w' => K a' w' ∧ ∃ v, a'.tmps = (a.put o.dst v).tmps) a w := by
  unfold stp at *
  split
  · rename_i hw
    rw [if_pos hw] at h
    split
    · rename_i hr
      rw [if_pos hr] at h
      obtain ⟨v, h1, h2⟩ := h
      exact ⟨v, h1, h2, v, rfl⟩
    · rename_i hr
      rw [if_neg hr] at h
      unfold Oper.wp at *
      generalize (execOp a.eval o).run P w = r at *
      cases r with
      | ok n w' =>
        cases n <;> simp only [Oper.upon] at h ⊢
        case value u => exact ⟨h, u, rfl⟩
        case skip => exact ⟨h, undef, rfl⟩
        case defer d => exact ⟨h, undef, by cases ho : o.dst <;> rfl⟩
        case enter f args =>
          refine Calls.mono h fun e w'' he => ?_
          cases e with
          | returned u => exact ⟨he, u, rfl⟩
          | panicked c => exact he
          | outgrown => exact he
        case row row args => exact Rows.mono h fun u w'' he => ⟨he, u, rfl⟩
      | halt x w' => cases x <;> simp only [Oper.upon] at h ⊢; exact h.elim
  · rename_i hw
    rw [if_neg hw] at h
    exact ⟨h, undef, rfl⟩
theorem tmp_put_ne {a : Act} {o : Option Nat} {v : Value} {d : Nat} (h : o ≠ some d) : (a.put o v).tmps.getD d undef = a.tmps.getD d undef := by
  cases o with
  | none => rfl
  | some e =>
    have he : e ≠ d := fun q => h (by rw [q])
    show (a.tmps.setIfInBounds e v).getD d undef = _
    simp only [Array.getD_eq_getD_getElem?]
    rw [Array.getElem?_setIfInBounds_ne he]
theorem dstIs_ne {o y : Oper} {d : Nat} (h : dstIs y.dst o = false) (hd : y.dst = some d) : o.dst ≠ some d := by
  intro e
  unfold dstIs at h
  rw [hd, e] at h
  have : Nat.beq d d = true := Nat.beq_refl d
  simp only [this] at h
  cases h
theorem mkd_ne {y z : Nat × Oper} {d e : Nat} : ∀ {l : List (Nat × Oper)}, MkD l → y ∈ l → z ∈ l → y.1 ≠ z.1 → isMk y.2 = true → isMk z.2 = true → y.2.dst = some d → z.2.dst = some e → d ≠ e
  | [], _, h, _, _, _, _, _, _ => by cases h
  | x :: r, hm, h1, h2, hne, m1, m2, d1, d2 => by
    rcases List.mem_cons.1 h1 with h1 | h1
    · rcases List.mem_cons.1 h2 with h2 | h2
      · exact absurd (by rw [h1, h2]) hne
      · have := dstIs_ne (hm.1 z h2 m2) d2
        rw [← h1, d1] at this
        exact fun q => this (by rw [q])
    · rcases List.mem_cons.1 h2 with h2 | h2
      · have := dstIs_ne (hm.1 y h1 m1) d1
        rw [← h2, d2] at this
        exact fun q => this (by rw [q])
      · exact mkd_ne hm.2 h1 h2 hne m1 m2 d1 d2
/-- The blocks that came up early are not touched. -/
def Xg (X : Cells) (gb : Nat → Nat) (Dn : List Nat) (l : List (Nat × Oper)) : Cells := fun b o => X b o ∨ ∃ y ∈ l, memB y.1 Dn = true ∧ gb y.1 = b
structure Gh1 (c : Cx) (w0 : World) (X : Cells) (gb : Nat) (o : Oper) (a : Act) (w : World) : Prop where
  ism : isMk o = true
  old : w0.heap.size ≤ gb
  lt : gb < w.heap.size
  notX : ∀ o, ¬ X gb o
  cells : ∃ t sh d cs, o.op = .alloc t ∧ o.dst = some d ∧ c.sh t = some sh ∧ d < c.n ∧ a.tmps.getD d undef = .pointer (some ⟨gb, 0, none⟩) ∧ Sto w gb 0 cs ∧ cs.length = sh.size ∧ ∀ (m : Lm) w F, RelV m w F (.imm sh sh.zero) cs
structure Gh (c : Cx) (w0 : World) (X : Cells) (gb : Nat → Nat) (Dn : List Nat) (l : List (Nat × Oper)) (a : Act) (w : World) : Prop where
  one : ∀ y ∈ l, memB y.1 Dn = true → Gh1 c w0 X (gb y.1) y.2 a w
  apart : ∀ y ∈ l, ∀ z ∈ l, memB y.1 Dn = true → memB z.1 Dn = true → y.1 ≠ z.1 → gb y.1 ≠ gb z.1
theorem R0.ghost {X' : Cells} (h : R0 X S0 w0 N m s tm w) {d : Nat} {p : Value} {ob : Obj} (hd : s.tmp d = .u) (hX : ∀ b o, X' b o → X b o ∨ b = w.heap.size) (hX2 : ∀ b o, X b o → X' b o) :
    R0 X' S0 w0 N m s (tm.setIfInBounds d p) (w.alloc ob) ∧ Keep w (Fb X m s.h) (w.alloc ob) (Fb X' m s.h) := by
  have hb : Below w.heap.size w (w.alloc ob) := alloc_below _
  have hfr : Fr S0.dk w.heap.size (fun _ _ => False) w (w.alloc ob) := Fr.of_below hb (fun _ => Nat.le_refl _) _
  have hsz : (w.alloc ob).heap.size = w.heap.size + 1 := by show (w.heap.push ob).size = _; simp
  have hk : Keep w (Fb X m s.h) (w.alloc ob) (Fb X' m s.h) := fun b o v hv hf => by
    have hlt := cell_lt hv
    refine ⟨(hb.cell (p := mkA b o) hlt).trans hv, fun q => ?_⟩
    rcases q with q | q
    · rcases hX b o q with q | q
      · exact hf (.inl q)
      · omega
    · exact hf (.inr q)
  refine ⟨⟨by simp [h.size], h.hN, h.nd, fun i => ?_, h.wft, h.wfh, fun id bx hbx => ?_, h.disj, fun b o ho hx => ?_, h.hz, h.zk, h.allow, h.fr.trans hfr h.fr.size (fun _ _ _ q => q.elim), fun b o hx => ?_, h.nm, fun z hz => ⟨fun o => hX2 _ _ ((h.tab z hz).1 o), (hb.block _ (Array.getElem?_eq_some_iff.1 (h.tab z hz).2).1).trans (h.tab z hz).2⟩⟩, hk⟩
  · by_cases e : i = d
    · subst e; rw [hd]; exact rel_u
    · have : (tm.setIfInBounds d p).getD i undef = tm.getD i undef := by
        simp only [Array.getD_eq_getD_getElem?]
        rw [Array.getElem?_setIfInBounds_ne (Ne.symm e)]
      rw [this]; exact (h.tmps i).mono hk
  · have hlt : ∀ b o, (m id).has b o → b < w.heap.size := fun b o hh => h.own_lt ⟨id, by rw [hbx]; simp, hh⟩
    exact (h.box id bx hbx).keep hk rfl (fun _ _ => rfl) (fun b o hh => ⟨hb.cell (p := mkA b o) (hlt b o hh), hb.frozen (p := mkA b o) (hlt b o hh)⟩) fun b q hm => hb.block b (hlt b 0 (by rw [hm]; exact .inl rfl))
  · rcases hX b o hx with q | q
    · exact h.notX b o ho q
    · have := h.own_lt ho; omega
  · rcases hX b o hx with q | q
    · have := h.xold b o q; omega
    · omega
/-- A block that came up early is taken over. -/
theorem R0.adopt {X' : Cells} (h : R0 X S0 w0 N m s tm w) {b d : Nat} {sh : Sh} {cs : List Value} (hid : Free d s.h) (hX : ∀ b' o, X' b' o → X b' o) (hXb : ∀ o, X b o) (hXn : ∀ o, ¬ X' b o) (hXo : ∀ b' o, X b' o → X' b' o ∨ b' = b)
    (hTX : ∀ z ∈ S0.dk.tabs, ∀ o, X' z.1 o) (hold : w0.heap.size ≤ b) (hst : Sto w b 0 cs) (hlen : cs.length = sh.size) (hz : ∀ (m : Lm) w F, RelV m w F (.imm sh sh.zero) cs) :
    R0 X' S0 w0 N (updL m d (.obj b 0 sh)) { s with h := (d, .obj sh (.imm sh sh.zero)) :: s.h } tm w ∧
    Keep w (Fb X m s.h) w (Fb X' (updL m d (.obj b 0 sh)) ((d, .obj sh (.imm sh sh.zero)) :: s.h)) := by
  have hne : ∀ j, getBox j s.h ≠ none → j ≠ d := fun j hj e => hj (e ▸ hid.1)
  have hpres : ∀ j, getBox j s.h ≠ none → getBox j ((d, Box.obj sh (.imm sh sh.zero)) :: s.h) ≠ none := fun j hj => by rw [getBox_cons, if_neg (fun q => hne j hj q.symm)]; exact hj
  have hback : ∀ j, j ≠ d → getBox j ((d, Box.obj sh (.imm sh sh.zero)) :: s.h) ≠ none → getBox j s.h ≠ none := fun j e hj => by rwa [getBox_cons, if_neg (fun q => e q.symm)] at hj
  have hhas : ∀ b' o, (updL m d (.obj b 0 sh) d).has b' o → b' = b := fun b' o hh => by rw [updL_same] at hh; exact hh.1
  have hown : ∀ b' o, Own (updL m d (.obj b 0 sh)) ((d, Box.obj sh (.imm sh sh.zero)) :: s.h) b' o → Own m s.h b' o ∨ b' = b := by
    rintro b' o ⟨j, hj, hh⟩
    by_cases e : j = d
    · subst e; exact .inr (hhas b' o hh)
    · rw [updL_other m _ e] at hh; exact .inl ⟨j, hback j e hj, hh⟩
  have hk : Keep w (Fb X m s.h) w (Fb X' (updL m d (.obj b 0 sh)) ((d, Box.obj sh (.imm sh sh.zero)) :: s.h)) := fun b' o v hv hf => by
    refine ⟨hv, fun q => ?_⟩
    rcases q with q | q
    · exact hf (.inl (hX b' o q))
    · rcases hown b' o q with q | q
      · exact hf (.inr q)
      · exact hf (.inl (q ▸ hXb o))
  have hidz : memB d S0.z = false := by
    cases hb : memB d S0.z with
    | false => rfl
    | true => exact absurd hid.1 (h.zk d hb)
  refine ⟨⟨h.size, h.hN, ?_, fun i => ?_, fun i j hj => hpres j (h.wft i j hj), ?_, ?_, ?_, ?_, h.hz, fun j hj => hpres j (h.zk j hj), ?_, h.fr, fun b' o hx => h.xold b' o (hX b' o hx), ?_, fun z hz => ⟨hTX z hz, (h.tab z hz).2⟩⟩, hk⟩
  · simp only [keys, List.map_cons, List.nodup_cons]; exact ⟨getBox_none.1 hid.1, h.nd⟩
  · exact Rel1.maps (m := m) (fun j hj => updL_other m _ (hne j (h.wft i j hj))) ((h.tmps i).mono hk)
  · intro j bx hj k hk'
    rw [getBox_cons] at hj
    by_cases e : d = j
    · rw [if_pos e] at hj; obtain rfl := Option.some.inj hj; cases hk'
    · rw [if_neg e] at hj; exact hpres k (h.wfh j bx hj k hk')
  · intro j bx hj
    rw [getBox_cons] at hj
    by_cases e : d = j
    · rw [if_pos e] at hj; obtain rfl := Option.some.inj hj
      subst e
      exact ⟨b, 0, cs, updL_same _ _ _, Sh.beq_refl sh, hz _ _ _, hlen, hst⟩
    · rw [if_neg e] at hj
      have hj' : getBox j s.h ≠ none := by rw [hj]; simp
      exact (h.box j bx hj).keep hk (updL_other m _ (fun q => e q.symm)) (fun k hk' => updL_other m _ (hne k (h.wfh j bx hj k hk'))) (fun _ _ _ => ⟨rfl, rfl⟩) fun _ _ _ => rfl
  · intro i j hij hi hj b' o h1 h2
    by_cases ei : i = d
    · subst ei
      have := hhas b' o h1
      rw [updL_other m _ (Ne.symm hij)] at h2
      exact h.notX b' o ⟨j, hback j (Ne.symm hij) hj, h2⟩ (this ▸ hXb o)
    · rw [updL_other m _ ei] at h1
      by_cases ej : j = d
      · subst ej
        have := hhas b' o h2
        exact h.notX b' o ⟨i, hback i ei hi, h1⟩ (this ▸ hXb o)
      · rw [updL_other m _ ej] at h2
        exact h.disj i j hij (hback i ei hi) (hback j ej hj) b' o h1 h2
  · intro b' o ho hx
    rcases hown b' o ho with q | q
    · exact h.notX b' o q (hX b' o hx)
    · exact hXn o (q ▸ hx)
  · rintro b' o ⟨j, hj, hz, hh⟩
    by_cases e : j = d
    · subst e; have := hhas b' o hh; right; omega
    · rw [updL_other m _ e] at hh; exact h.allow b' o ⟨j, hback j e hj, hz, hh⟩
  · intro id h1 h2
    by_cases e : id = d
    · subst e
      rw [hid.2, hidz] at h2; cases h2
    · rw [updL_other m _ e]; exact h.nm id (hback id e h1) h2
theorem Gh.step {gb : Nat → Nat} {Dn : List Nat} {l : List (Nat × Oper)} {a a' : Act} {o : Oper} (hg : Gh c w0 X gb Dn l a w) (hmd : ∀ y ∈ l, isMk y.2 = true → dstIs y.2.dst o = false) (ht : ∃ v, a'.tmps = (a.put o.dst v).tmps)
    (hc : ∀ y ∈ l, memB y.1 Dn = true → ∀ o, w'.cell? (mkA (gb y.1) o) = w.cell? (mkA (gb y.1) o) ∧ w'.frozen? (mkA (gb y.1) o) = w.frozen? (mkA (gb y.1) o)) (hs : w.heap.size ≤ w'.heap.size) : Gh c w0 X gb Dn l a' w' := by
  refine ⟨fun y hy hm => ?_, hg.apart⟩
  obtain ⟨h1, h2, h3, h4, t, sh, d, cs, g1, g2, g3, g4, g5, g6, g7, g8⟩ := hg.one y hy hm
  refine ⟨h1, h2, by omega, h4, t, sh, d, cs, g1, g2, g3, g4, ?_, fun j v hv => ?_, g7, g8⟩
  · obtain ⟨v, hv⟩ := ht
    rw [hv, tmp_put_ne (dstIs_ne (hmd y hy h1) g2)]; exact g5
  · obtain ⟨q1, q2⟩ := g6 j v hv
    obtain ⟨e1, e2⟩ := hc y hy hm (0 + j)
    exact ⟨e1.trans q1, e2.trans q2⟩
theorem xg_nil {gb : Nat → Nat} {Dn : List Nat} : Xg X gb Dn [] = X := by
  funext b o
  exact propext ⟨fun q => q.elim id fun ⟨y, hy, _⟩ => (by cases hy), .inl⟩
theorem xg_un {gb : Nat → Nat} {Dn : List Nat} {y : Nat × Oper} {l : List (Nat × Oper)} (h : memB y.1 Dn = false) : Xg X gb Dn (y :: l) = Xg X gb Dn l := by
  funext b o
  refine propext ⟨fun q => q.imp id fun ⟨z, hz, h1, h2⟩ => ?_, fun q => q.imp id fun ⟨z, hz, h1, h2⟩ => ⟨z, List.mem_cons_of_mem _ hz, h1, h2⟩⟩
  rcases List.mem_cons.1 hz with rfl | hz
  · rw [h] at h1; cases h1
  · exact ⟨z, hz, h1, h2⟩
theorem wanted_none {o : Oper} {f : Nat → Option Bool} (h : o.guard = none) : Region.wanted o f = true := by
  simp [Region.wanted, h]
theorem execD_s (hG : Good S0.dk c.p c.E) (hTX : ∀ z ∈ S0.dk.tabs, ∀ o, X z.1 o) {ops : Array Oper} {F : Cross} {Q : Act → World → Prop} {k : St → Option R} {r : R} {D : List Deferred} (hQ : ∀ m' s' a' w', k s' = some r → R0 X S0 w0 c.n m' s' a'.tmps w' → a'.defers = D → Q a' w') :
    ∀ (fu : Nat) (l : List (Nat × Oper)) {L : List (Nat × Nat)} {G : Gam} {gb : Nat → Nat} {Dn : List Nat} {m : Lm} {s : St} {a : Act} {w : World}, l.length + (und Dn l).length ≤ fu → MkD l → (l.map (·.1)).Nodup → execD c ops F L l s k = some r →
    R0 (Xg X gb Dn l) S0 w0 c.n m s a.tmps w → Gh c w0 X gb Dn l a w → a.defers = D →
    (∀ x ∈ G, crossL F x.1 (l.map (·.1)) = true → Rob (Xg X gb Dn l) m s w x.2 ∨ ∃ id, (x.1, id) ∈ L ∧ RobB m w id x.2) → sH c.p ops Q (fun i j => crossB i j F) fu l Dn G a w
  | fu, [], L, G, gb, Dn, m, s, a, w, hfu, hmd, hnd, he, h, hgh, hD, hGm => by
    rw [xg_nil] at h
    have := hQ m s a w (by simpa [execD] using he) h hD
    cases fu <;> exact this
  | 0, (i, o) :: rest, L, G, gb, Dn, m, s, a, w, hfu, hmd, hnd, he, h, hgh, hD, hGm => by simp at hfu
  | fu + 1, (i, o) :: rest, L, G, gb, Dn, m, s, a, w, hfu, hmd, hnd, he, h, hgh, hD, hGm => by
    have he0 := he
    simp only [execD] at he
    replace he := cond_some he
    obtain ⟨hmU, he⟩ := he
    have hnd2 : (rest.map (·.1)).Nodup := by rw [List.map_cons, List.nodup_cons] at hnd; exact hnd.2
    cases hid : memB i Dn with
    | true =>
      -- a maker that came up early is told of now
      have hun : und Dn ((i, o) :: rest) = und Dn rest := und_done hid
      rw [hun] at hfu
      simp only [sH, hid, if_pos]
      obtain ⟨h1, h2, h3, h4, t, sh, d, cs, g1, g2, g3, g4, g5, g6, g7, g8⟩ := hgh.one (i, o) (by simp) hid
      obtain ⟨hgd, _, _, _⟩ := isMk_spec h1
      have g1 : o.op = .alloc t := g1
      have g2 : o.dst = some d := g2
      have hgd : o.guard = none := hgd
      simp only [splitG, hgd] at he
      split at he
      case h_1 => cases he
      rename_i L' hen
      replace he := cond_some he
      obtain ⟨hzz, he⟩ := he
      rw [Bool.and_eq_true] at hzz
      obtain ⟨hz1, hth⟩ := hzz
      have hzk := therE_ok hth
      simp only [execOps, hgd] at he
      replace he := (cond_some he).2
      simp only [evalOp, g1, g2, g3] at he
      split at he
      case h_2 => cases he
      rename_i s' hs'
      obtain ⟨hfree, rfl⟩ := add_some hs'
      have hfree : Free d s.h := hfree
      have hXb : ∀ o', Xg X gb Dn ((i, o) :: rest) (gb i) o' := fun o' => .inr ⟨(i, o), by simp, hid, rfl⟩
      have hXn : ∀ o', ¬ Xg X gb Dn rest (gb i) o' := fun o' q => by
        rcases q with q | ⟨z, hz, hzd, hzb⟩
        · exact h4 o' q
        · refine hgh.apart z (List.mem_cons_of_mem _ hz) (i, o) (by simp) hzd hid (fun e => ?_) hzb
          rw [List.map_cons, List.nodup_cons] at hnd
          exact hnd.1 (List.mem_map.2 ⟨z, hz, e⟩)
      have hXs : ∀ b' o', Xg X gb Dn rest b' o' → Xg X gb Dn ((i, o) :: rest) b' o' := fun b' o' q => q.imp id fun ⟨z, hz, h1, h2⟩ => ⟨z, List.mem_cons_of_mem _ hz, h1, h2⟩
      have hXo : ∀ b' o', Xg X gb Dn ((i, o) :: rest) b' o' → Xg X gb Dn rest b' o' ∨ b' = gb i := fun b' o' q => by
        rcases q with q | ⟨z, hz, h1, h2⟩
        · exact .inl (.inl q)
        · rcases List.mem_cons.1 hz with rfl | hz
          · exact .inr h2.symm
          · exact .inl (.inr ⟨z, hz, h1, h2⟩)
      obtain ⟨hR, hk⟩ := h.adopt (X' := Xg X gb Dn rest) hfree hXs hXb hXn hXo (fun z hz o => .inl (hTX z hz o)) h2 g6 g7 g8
      have hR2 := hR.put (d := d) (v := .ref d [] sh) (x := .pointer (some ⟨gb i, 0, none⟩)) g4 (rel_ref.2 (by rw [updL_same]; exact ⟨0, by simp [shAt], rfl⟩)) (fun j hj => by simp [V.ids] at hj; subst hj; simp [getBox_cons])
      have htm : a.tmps.setIfInBounds d (.pointer (some ⟨gb i, 0, none⟩)) = a.tmps := by
        have hlt : d < a.tmps.size := by rw [h.size]; exact g4
        apply Array.ext (by simp)
        intro j h1 h2
        by_cases e : d = j
        · subst e
          simp only [Array.getElem_setIfInBounds_self]
          rw [Array.getD_eq_getD_getElem?, Array.getElem?_eq_getElem hlt] at g5
          simpa using g5.symm
        · rw [Array.getElem_setIfInBounds_ne (by simpa using h2) e]
      rw [htm] at hR2
      have hsz : s.z = [] := by simpa using hz1
      have hR3 : R0 (Xg X gb Dn rest) S0 w0 c.n (updL m d (.obj (gb i) 0 sh)) { (({ s with z := kept F (i :: rest.map (·.1)) (L' ++ L), h := (d, .obj sh (.imm sh sh.zero)) :: s.h } : St).put (some d) (.ref d [] sh)) with z := [] } a.tmps w := by
        have e : ({ (({ s with z := kept F (i :: rest.map (·.1)) (L' ++ L), h := (d, .obj sh (.imm sh sh.zero)) :: s.h } : St).put (some d) (.ref d [] sh)) with z := [] } : St) = (({ s with h := (d, .obj sh (.imm sh sh.zero)) :: s.h } : St).put (some d) (.ref d [] sh)) := by
          show _ = _
          cases s
          simp only at hsz
          subst hsz
          rfl
        rw [e]; exact hR2
      refine execD_s hG hTX hQ fu rest (by simp at hfu ⊢; omega) hmd.2 hnd2 he hR3 ⟨fun y hy hm => hgh.one y (List.mem_cons_of_mem _ hy) hm, fun y hy z hz => hgh.apart y (List.mem_cons_of_mem _ hy) z (List.mem_cons_of_mem _ hz)⟩ hD fun x hx hf => ?_
      rcases hGm x hx (fst_mem _ hf) with q | ⟨id, hi, q⟩
      · exact .inl (q.keep hk)
      · have hiL : (x.1, id) ∈ L' ++ L := List.mem_append.2 (.inr hi)
        have hlive := hzk id (kept_mem (fst_mem _ hf) hiL)
        exact .inr ⟨id, hiL, q.keep (updL_other m _ (fun e => hlive (e ▸ hfree.1))) (fun _ _ _ => rfl) (fun _ _ => rfl)⟩
    | false =>
    have hun : und Dn ((i, o) :: rest) = (i, o) :: und Dn rest := und_cons hid
    simp only [sH, hid]
    rw [if_neg (by simp)]
    have hgr : Gh c w0 X gb Dn rest a w := ⟨fun y hy hm => hgh.one y (List.mem_cons_of_mem _ hy) hm, fun y hy z hz => hgh.apart y (List.mem_cons_of_mem _ hy) z (List.mem_cons_of_mem _ hz)⟩
    have hl0 := h
    have hGm0 := hGm
    rw [xg_un hid] at h hGm
    obtain ⟨s1, he, h1, hh⟩ := splitG_ok h he
    split at he
    case h_1 => cases he
    rename_i L' hen
    replace he := cond_some he
    obtain ⟨hzz, he⟩ := he
    rw [Bool.and_eq_true] at hzz
    obtain ⟨hz1, hth⟩ := hzz
    have hz0 : S0.z = [] := by rw [← h1.hz]; simpa using hz1
    have hzk := therE_ok hth
    generalize hz : kept F (i :: rest.map (·.1)) (L' ++ L) = z at he hzk
    have hg1 := h1.guard hzk
    have hFb : Fb (Xg X gb Dn rest) m s1.h = Fb (Xg X gb Dn rest) m s.h := by rw [hh]
    have hGm1 : ∀ x ∈ G, crossL F x.1 (i :: rest.map (·.1)) = true → Rob (Xg X gb Dn rest) m s1 w x.2 ∨ ∃ id, (x.1, id) ∈ L ∧ RobB m w id x.2 := fun x hx hf => (hGm x hx hf).imp (fun q => q.keep (m' := m) (s' := s1) (by rw [hFb]; exact Keep.refl _ _)) fun q => q
    -- one operation
    let A : Act → World → Prop := fun a' w' => ∃ m' s', execD c ops F (L' ++ L) rest { s' with z := [] } k = some r ∧ R0 (Xg X gb Dn rest) ⟨OwnZ m s1.h z, zM m S0.M z, z, S0.dk⟩ w c.n m' s' a'.tmps w' ∧ a'.defers = D
    let Q' : Exit → Act → World → Prop := fun x a w => match x with | .normal => A a w | _ => False
    have hs : sList c.p ops Q' [o] a w := execOps_s (S0 := ⟨OwnZ m s1.h z, zM m S0.M z, z, S0.dk⟩) hG (Q := Q') [o] he hg1 fun m' s' tm' w' hk hR => ⟨m', s', hk, hR, hD⟩
    have hs : stp c.p ops Q0 o A a w := stp_strict (Q := Q') (fun _ _ _ q => q) (fun _ _ q => q) hs
    have older : ∀ {m' : Lm} {s' : St} {tm' : Array Value} {w' : World}, R0 (Xg X gb Dn rest) ⟨OwnZ m s1.h z, zM m S0.M z, z, S0.dk⟩ w c.n m' s' tm' w' → ∀ x ∈ G, crossL F x.1 (i :: rest.map (·.1)) = true → Rob (Xg X gb Dn rest) m' { s' with z := [] } w' x.2 ∨ ∃ id, (x.1, id) ∈ L' ++ L ∧ RobB m' w' id x.2 := by
      intro m' s' tm' w' hR x hx hf
      rcases hGm1 x hx hf with q | ⟨id, hi, q⟩
      · have hkp := keep_of h1 hz0 hzk hR
        exact .inl (q.keep (m' := m') (s' := { s' with z := [] }) hkp)
      · have hiL : (x.1, id) ∈ L' ++ L := List.mem_append.2 (.inr hi)
        have hm : memB id z = true := by rw [← hz]; exact kept_mem hf hiL
        exact .inr ⟨id, hiL, q.keep (guard_same h1 hz0 hzk hR id hm) (guard_cell h1 hz0 hzk hR id hm) (guard_block h1 hz0 hzk hR id hm)⟩
    have wider : ∀ x : Nat, crossL F x (rest.map (·.1)) = true → crossL F x (i :: rest.map (·.1)) = true := fun x hx => fst_mem _ hx
    have ghs : ∀ {m' : Lm} {s' : St} {a' : Act} {w' : World}, R0 (Xg X gb Dn rest) ⟨OwnZ m s1.h z, zM m S0.M z, z, S0.dk⟩ w c.n m' s' a'.tmps w' → (∃ v, a'.tmps = (a.put o.dst v).tmps) → Gh c w0 X gb Dn rest a' w' := fun {m' s' a' w'} hR hv => by
      refine hgr.step hmd.1 hv (fun y hy hm o' => ?_) hR.fr.size
      have hlt := (hgr.one y hy hm).lt
      exact ⟨hR.fr.cell _ _ hlt fun q => h1.notX _ _ (OwnZ.own q) (.inr ⟨y, hy, hm, rfl⟩), hR.fr.frozen _ _ hlt⟩
    have hfu2 : rest.length + (und Dn rest).length ≤ fu := by rw [hun] at hfu; simp at hfu; omega
    by_cases hr : opRd o.op = true
    · rw [if_pos hr]
      obtain ⟨v, hy, m', s', hk, hR, hD'⟩ := stp_yn hr hs
      refine ⟨v, hy, execD_s hG hTX hQ fu rest hfu2 hmd.2 hnd2 hk (h1.back hz0 hzk hR) (ghs hR ⟨v, rfl⟩) hD' fun x hx hf => ?_⟩
      rcases List.mem_cons.1 hx with rfl | hx
      · rcases hy with ⟨hw, hv⟩ | ⟨hw, _⟩
        · unfold enters at hen
          cases hrb : (!crossL F i (rest.map (·.1)) || robG c ops s1 o) with
          | true =>
            rw [Bool.or_eq_true] at hrb
            have hrb := hrb.resolve_left (by have hf : crossL F i (rest.map (·.1)) = true := hf; rw [hf]; simp)
            left
            have hkp := keep_of h1 hz0 hzk hR
            refine Rob.keep (X := Xg X gb Dn rest) (m := m) (s := s1) (m' := m') (s' := { s' with z := [] }) ?_ hkp
            obtain ⟨S, g1, g2⟩ := robV_ok h1 (robG_ok h1 hrb hw) hv
            exact ⟨S, g1, fun w' q _ => g2 w' q⟩
          | false =>
            rw [hrb, cond_false] at hen
            split at hen
            · rename_i id hla
              obtain rfl := Option.some.inj hen
              right
              obtain ⟨g1, S, B, g2, g2b, g3⟩ := looksAt_ok h1 hla hv
              have hm : memB id z = true := by rw [← hz]; exact kept_mem (wider i hf) (by simp)
              refine ⟨id, by simp, RobB.keep (m := m) (w := w) ⟨S, B, g2, g2b, fun w' q q' _ => g3 w' q q'⟩ (guard_same h1 hz0 hzk hR id hm) (fun _ _ _ => rfl) (fun _ _ => rfl)⟩
            · cases hen
        · exact .inl (rob_all fun w' q => by rw [hw] at q; cases q)
      · exact older hR x hx (wider _ hf)
    · rw [if_neg hr]
      refine ⟨stp_mono (fun a' w' hp => ?_) (stp_keep hs), fun y hy hmy hyd => ?_⟩
      · obtain ⟨⟨m', s', hk, hR, hD'⟩, hv⟩ := hp
        refine ⟨fun x hx hf => ?_, execD_s hG hTX hQ fu rest hfu2 hmd.2 hnd2 hk (h1.back hz0 hzk hR) (ghs hR hv) hD' fun x hx hf => older hR x hx (wider _ hf)⟩
        rcases older hR x hx (crossL_iff.2 ⟨i, by simp, hf⟩) with q | ⟨id, _, q⟩
        · exact q.now
        · exact q.now
      · -- a maker comes up early
        have hyl : y ∈ (i, o) :: rest := List.mem_cons_of_mem _ hy
        have hmo := List.all_eq_true.1 hmU y hy
        rw [hmy] at hmo
        have hmo : mkOne c s y.2 = true := by simpa using hmo
        unfold mkOne at hmo
        split at hmo
        case h_2 => cases hmo
        rename_i d t hdst hop
        simp only [Bool.and_eq_true] at hmo
        obtain ⟨⟨hu, hdn⟩, hsh⟩ := hmo
        have hdn : d < c.n := by simpa [Nat.blt_eq] using hdn
        have hu : s.tmp d = .u := by
          revert hu
          cases s.tmp d <;> simp [isU]
        split at hsh
        case h_2 => cases hsh
        rename_i sh hsh'
        obtain ⟨zv, hz1', hz2', hz3'⟩ := run_zero (sh_is hsh') w
        have hgy : y.2.guard = none := (isMk_spec hmy).1
        unfold stp
        rw [if_pos (wanted_none hgy), if_neg (by rw [isMk_rd hmy]; simp)]
        refine wp_val (v := .pointer (some ⟨w.heap.size, 0, none⟩)) (w' := w.alloc (.cells zv.cells t)) (by simp [execOp, hop, Instr.alloc, hz1', newVar, newRow]) ?_
        let gb' : Nat → Nat := fun j => if j = y.1 then w.heap.size else gb j
        have hgn : ∀ j, memB j Dn = true → gb' j = gb j := fun j hj => if_neg fun e => by rw [e, hyd] at hj; cases hj
        have hgy' : gb' y.1 = w.heap.size := if_pos rfl
        have hmc : ∀ j, memB j (y.1 :: Dn) = true → j = y.1 ∨ memB j Dn = true := fun j hj => by
          rw [memB_cons, Bool.or_eq_true] at hj
          exact hj.imp beq_iff.1 id
        have hX1 : ∀ b o', Xg X gb' (y.1 :: Dn) ((i, o) :: rest) b o' → Xg X gb Dn ((i, o) :: rest) b o' ∨ b = w.heap.size := fun b o' q => by
          rcases q with q | ⟨v, hv, h1, h2⟩
          · exact .inl (.inl q)
          · rcases hmc _ h1 with e | e
            · right; rw [← h2, e, hgy']
            · exact .inl (.inr ⟨v, hv, e, by rw [← hgn _ e]; exact h2⟩)
        have hX2 : ∀ b o', Xg X gb Dn ((i, o) :: rest) b o' → Xg X gb' (y.1 :: Dn) ((i, o) :: rest) b o' := fun b o' q => q.imp id fun ⟨v, hv, h1, h2⟩ => ⟨v, hv, by rw [memB_cons, h1]; simp, by rw [hgn _ h1]; exact h2⟩
        obtain ⟨hR, hk⟩ := hl0.ghost (X' := Xg X gb' (y.1 :: Dn) ((i, o) :: rest)) (d := d) (p := .pointer (some ⟨w.heap.size, 0, none⟩)) (ob := .cells zv.cells t) hu hX1 hX2
        have hb : Below w.heap.size w (w.alloc (.cells zv.cells t)) := alloc_below _
        have hput : (a.put y.2.dst (.pointer (some ⟨w.heap.size, 0, none⟩))).tmps = a.tmps.setIfInBounds d (.pointer (some ⟨w.heap.size, 0, none⟩)) := by rw [hdst]; rfl
        have hG2 : ∀ x ∈ G, crossL F x.1 (i :: rest.map (·.1)) = true → Rob (Xg X gb' (y.1 :: Dn) ((i, o) :: rest)) m s (w.alloc (.cells zv.cells t)) x.2 ∨ ∃ id, (x.1, id) ∈ L ∧ RobB m (w.alloc (.cells zv.cells t)) id x.2 := fun x hx hf => by
          rcases hGm0 x hx hf with q | ⟨id, hi, S, B, q1, q1b, q2⟩
          · exact .inl (q.keep hk)
          · exact .inr ⟨id, hi, S, B, fun cc hc => ⟨(hb.cell (p := mkA cc.1 cc.2.1) (cell_lt (q1 cc hc).1)).trans (q1 cc hc).1, (q1 cc hc).2⟩, fun d hd => ⟨(hb.block d.1 (Array.getElem?_eq_some_iff.1 (q1b d hd).1).1).trans (q1b d hd).1, (q1b d hd).2⟩, q2⟩
        refine ⟨fun x hx hf => ?_, ?_⟩
        · rcases hG2 x hx (crossL_iff.2 ⟨y.1, List.mem_map.2 ⟨y, hyl, rfl⟩, hf⟩) with q | ⟨id, _, q⟩
          · exact q.now
          · exact q.now
        · have htk := (und_take hnd hyl hyd).length_eq
          simp only [List.length_cons] at htk
          refine execD_s hG hTX hQ fu ((i, o) :: rest) (gb := gb') (Dn := y.1 :: Dn) (by omega) hmd hnd he0 (by rw [hput]; exact hR) ⟨fun v hv hvd => ?_, fun v hv u hu' hvd hud hne => ?_⟩ (by rw [hdst]; exact hD) hG2
          · rcases hmc _ hvd with e | e
            · have : v = y := nodup_fst hnd hv hyl e
              subst this
              rw [hgy']
              refine ⟨hmy, hl0.fr.size, (by rw [show (w.alloc (.cells zv.cells t)).heap.size = w.heap.size + 1 by show (w.heap.push _).size = _; simp]; omega), fun o' q => ?_, t, sh, d, zv.cells.toList, hop, hdst, hsh', hdn, ?_, ?_, ?_, fun m w F => hz3' w F⟩
              · have := hl0.xold _ _ (.inl q); omega
              · rw [hput]
                have hlt : d < a.tmps.size := by rw [hl0.size]; exact hdn
                simp [Array.getD, hlt]
              · have := alloc_sto (w := w) t zv.cells.toList
                simpa using this
              · exact (hz3' w (fun _ _ => False)).len
            · obtain ⟨q1, q2, q3, q4, t', sh', d', cs', g1, g2, g3, g4, g5, g6, g7, g8⟩ := hgh.one v hv e
              rw [hgn _ e]
              refine ⟨q1, q2, Nat.lt_of_lt_of_le q3 hb.size, q4, t', sh', d', cs', g1, g2, g3, g4, ?_, fun j x hx => ?_, g7, g8⟩
              · rw [tmp_put_ne]
                · exact g5
                · rw [hdst]
                  intro q
                  have hne : v.1 ≠ y.1 := fun q => by rw [q, hyd] at e; cases e
                  exact mkd_ne hmd hv hyl hne q1 hmy g2 hdst (Option.some.inj q).symm
              · obtain ⟨e1, e2⟩ := g6 j x hx
                exact ⟨(hb.cell (p := mkA (gb v.1) (0 + j)) q3).trans e1, (hb.frozen (p := mkA (gb v.1) (0 + j)) q3).trans e2⟩
          · rcases hmc _ hvd with e | e <;> rcases hmc _ hud with e' | e'
            · exact absurd (e.trans e'.symm) hne
            · rw [e, hgy', hgn _ e']
              have := (hgh.one u hu' e').lt
              omega
            · rw [e', hgy', hgn _ e]
              have := (hgh.one v hv e).lt
              omega
            · rw [hgn _ e, hgn _ e']; exact hgh.apart v hv u hu' e e' hne
/-- A temporary is told of as unknown. -/
theorem R0.forget (h : R0 X S0 w0 N m s tm w) {d : Nat} (hd : d < N) : R0 X S0 w0 N m (s.put (some d) .u) tm w := by
  have hd' : d < 1024 := Nat.lt_of_lt_of_le hd h.hN
  refine ⟨h.size, h.hN, h.nd, fun i => ?_, fun i => ?_, h.wfh, h.box, h.disj, h.notX, by rw [St.put_z]; exact h.hz, h.zk, h.allow, h.fr, h.xold, h.nm, h.tab⟩
  · rw [St.tmp_put s d i _ hd']
    by_cases e : i = d
    · rw [if_pos e]; exact rel_u
    · rw [if_neg e]; exact h.tmps i
  · rw [St.tmp_put s d i _ hd']
    by_cases e : i = d
    · rw [if_pos e]; intro id hi; cases hi
    · rw [if_neg e]; exact h.wft i
theorem mkClr_ok : ∀ (l : List (Nat × Oper)) {s : St}, R0 X S0 w0 c.n m s tm w → R0 X S0 w0 c.n m (mkClr c l s) tm w
  | [], s, h => h
  | (i, o) :: r, s, h => by
    simp only [mkClr]
    refine mkClr_ok r ?_
    split
    · rename_i d hd
      cases hc : (isMk o && Nat.blt d c.n) with
      | false => exact h
      | true =>
        rw [Bool.and_eq_true] at hc
        exact h.forget (by simpa [Nat.blt_eq] using hc.2)
    · exact h
theorem gh_nil {gb : Nat → Nat} {l : List (Nat × Oper)} {a : Act} : Gh c w0 X gb [] l a w := ⟨fun y _ h => (by cases h), fun y _ z _ h => (by cases h)⟩
theorem xg_ini {gb : Nat → Nat} {l : List (Nat × Oper)} : Xg X gb [] l = X := by
  funext b o
  exact propext ⟨fun q => q.elim id fun ⟨y, _, h, _⟩ => (by cases h), .inl⟩
theorem execD_ok (hG : Good S0.dk c.p c.E) {ops : Array Oper} {F : Cross} {Q : Act → World → Prop} {k : St → Option R} {r : R} {D : List Deferred} {l : List (Nat × Oper)} (hl : sigma ops = some (l, F)) {a : Act}
    (he : execD c ops F [] l (mkClr c l s) k = some r) (h : R0 X S0 w0 c.n m s a.tmps w) (hD : a.defers = D) (hQ : ∀ m' s' a' w', k s' = some r → R0 X S0 w0 c.n m' s' a'.tmps w' → a'.defers = D → Q a' w') :
    sH c.p ops Q (fun i j => crossB i j F) (l.length + l.length) l [] [] a w := by
  obtain ⟨h1, h2⟩ := sigma_spec hl
  exact execD_s hG (fun z hz => (h.tab z hz).1) hQ (gb := fun _ => 0) _ l (by rw [und_nil]; exact Nat.le_refl _) h1 h2 he (by rw [xg_ini]; exact mkClr_ok l h) gh_nil hD fun x hx => by cases hx
end
end Go.Eng
end
/-! A state fitted into a skeleton. Conditions: none. -/
section
set_option linter.unusedVariables false
set_option linter.unusedSimpArgs false
set_option linter.unnecessarySimpa false
namespace Go.Eng
open Go.RowKit
def locOf (mp : Mp) (m : Lm) : Lm := fun a => match mp.get a with
  | some (.inl j) => m j
  | some (.inr e) => .arr none 0 0 e
  | none => .arr none 0 0 .unit
structure MpOk (h : Heap) (mp : Mp) : Prop where
  nm : ∀ a z, mp.get a = some z → namedB a = true → z = .inl a
  inj : ∀ a b j, mp.get a = some (.inl j) → mp.get b = some (.inl j) → a = b
  pres : ∀ a j, mp.get a = some (.inl j) → getBox j h ≠ none
abbrev Ext (m m' : Mp) : Prop := ∀ a z, m.get a = some z → m'.get a = some z
theorem mp_cons (b : Nat) (x : Nat ⊕ Sh) (r : Mp) (a : Nat) : Mp.get ((b, x) :: r) a = if b = a then some x else Mp.get r a := by
  simp only [Mp.get]
  by_cases h : b = a
  · simp [h]
  · have : ¬ (Nat.beq b a = true) := fun e => h (beq_iff.1 e)
    simp [h]
theorem hasVal_no {j : Nat} : ∀ {m : Mp}, hasVal j m = false → ∀ a, m.get a ≠ some (.inl j)
  | [], _, a => by simp [Mp.get]
  | (b, .inl i) :: r, h, a => by
    simp only [hasVal, Bool.or_eq_false_iff] at h
    rw [mp_cons]
    split
    · intro e
      simp only [Option.some.injEq, Sum.inl.injEq] at e
      subst e
      have : Nat.beq i i = true := beq_iff.2 rfl
      rw [h.1] at this; cases this
    · exact hasVal_no h.2 a
  | (b, .inr e) :: r, h, a => by
    simp only [hasVal] at h
    rw [mp_cons]
    split
    · simp
    · exact hasVal_no h a
theorem tie_ok {m m' : Mp} {a j : Nat} {h : Heap} (hg : m.tie a j = some m') (ho : MpOk h m) (hj : getBox j h ≠ none) : MpOk h m' ∧ Ext m m' ∧ m'.get a = some (.inl j) := by
  unfold Mp.tie at hg
  split at hg
  · rename_i i hi
    split at hg
    · rename_i e
      have := beq_iff.1 e; subst this
      obtain rfl := Option.some.inj hg
      exact ⟨ho, fun _ _ q => q, hi⟩
    · cases hg
  · cases hg
  · rename_i hn
    split at hg
    · cases hg
    · rename_i hv
      obtain rfl := Option.some.inj hg
      simp only [Bool.or_eq_true, not_or, Bool.not_eq_true, Bool.and_eq_true, not_and, Bool.not_eq_true'] at hv
      obtain ⟨hv, hv2⟩ := hv
      have hv := hasVal_no hv
      refine ⟨⟨fun x z hx hnm => ?_, fun x y k hx hy => ?_, fun x k hx => ?_⟩, fun x z hx => ?_, by rw [mp_cons]; simp⟩
      · rw [mp_cons] at hx
        split at hx
        · rename_i e; subst e
          obtain rfl := Option.some.inj hx
          have := hv2 hnm
          cases hb : Nat.beq a j with
          | true => rw [beq_iff.1 hb]
          | false => exact absurd hb this
        · exact ho.nm x z hx hnm
      · rw [mp_cons] at hx hy
        split at hx <;> split at hy
        · rename_i e e'; rw [← e, ← e']
        · simp only [Option.some.injEq, Sum.inl.injEq] at hx; subst hx; exact absurd hy (hv y)
        · simp only [Option.some.injEq, Sum.inl.injEq] at hy; subst hy; exact absurd hx (hv x)
        · exact ho.inj x y k hx hy
      · rw [mp_cons] at hx
        split at hx
        · simp only [Option.some.injEq, Sum.inl.injEq] at hx; subst hx; exact hj
        · exact ho.pres x k hx
      · rw [mp_cons]
        split
        · rename_i e; subst e; rw [hn] at hx; cases hx
        · exact hx
theorem lf_drop : ∀ (pre : List P) {rest : List P} {n : Nat}, lf (pre ++ rest) (pre.length + n) = lf rest n
  | [], rest, n => by simp
  | p :: pre, rest, n => by
    rw [List.length_cons, show pre.length + 1 + n = (pre.length + n) + 1 from by omega]
    simp only [List.cons_append, lf, List.tail_cons]
    exact lf_drop pre
theorem lf_here (pre post : List P) (p : P) : lf (pre ++ [p] ++ post) pre.length = p := by
  have := lf_drop pre (rest := [p] ++ post) (n := 0)
  rw [List.append_assoc]
  simpa [lf] using this
theorem fst_snd_ids {v x y : V} (hx : v.fst = some x) (hy : v.snd = some y) : (∀ i ∈ x.ids, i ∈ v.ids) ∧ (∀ i ∈ y.ids, i ∈ v.ids) := by
  cases v with
  | imm sh p =>
    cases sh <;> simp only [V.fst, V.snd, Option.some.injEq] at hx hy <;> try cases hx
    cases hy
    simp [V.ids]
  | pair p q =>
    simp only [V.fst, V.snd, Option.some.injEq] at hx hy
    subst hx; subst hy
    exact ⟨fun i hi => by simp [V.ids, hi], fun i hi => by simp [V.ids, hi]⟩
  | _ => simp [V.fst] at hx
theorem fst_snd_fits {v x y : V} {s : Sh} (hx : v.fst = some x) (hy : v.snd = some y) (hf : v.fits s = true) : v.isAgg = true ∧ ∃ a b, s = .pair a b ∧ x.fits a = true ∧ y.fits b = true := by
  cases v with
  | imm sh p =>
    cases sh <;> simp only [V.fst, V.snd, Option.some.injEq] at hx hy <;> try cases hx
    cases hy
    have := Sh.beq_eq hf
    subst this
    exact ⟨rfl, _, _, rfl, Sh.beq_refl _, Sh.beq_refl _⟩
  | pair p q =>
    simp only [V.fst, V.snd, Option.some.injEq] at hx hy
    subst hx; subst hy
    cases s <;> simp [V.fits] at hf
    exact ⟨rfl, _, _, rfl, hf.1, hf.2⟩
  | _ => simp [V.fst] at hx
theorem fst_agg {v x : V} (hx : v.fst = some x) : v.isAgg = true := by
  cases v with
  | imm sh p =>
    cases sh <;> simp only [V.fst] at hx <;> try cases hx
    rfl
  | pair p q => rfl
  | _ => simp [V.fst] at hx
section
variable {X : Cells} {S0 : Base} {w0 : World} {N : Nat} {m : Lm} {s : St} {tm : Array Value} {w : World} {F : Cells}
/-- What a value fitted in comes to. -/
structure FitV (m : Lm) (w : World) (F : Cells) (x y : V) (mpF mp' : Mp) : Prop where
  rel : ∀ cs, RelV m w F x cs → RelV (locOf mpF m) w F y cs
  agg : y.isAgg = x.isAgg
  fits : ∀ s, x.fits s = true → y.fits s = true
  ids : ∀ id ∈ y.ids, ∃ z, mp'.get id = some z
  tup : ∀ z, y ≠ .tup z
  nu : y ≠ .u → x ≠ .u ∧ ∀ z, x ≠ .tup z
theorem fitV_ok {h : Heap} : ∀ (v : V) {x : V} {mp mp' : Mp} {ps : List P}, V.fit v x mp = some (ps, mp') → MpOk h mp → (∀ id ∈ x.ids, getBox id h ≠ none) →
    MpOk h mp' ∧ Ext mp mp' ∧ ∀ (mpF : Mp) (pre post : List P), Ext mp' mpF → ∃ y, V.fill (pre ++ ps ++ post) v pre.length = (y, pre.length + ps.length) ∧ FitV m w F x y mpF mp' := by
  intro v
  induction v with
  | u =>
    intro x mp mp' ps hg ho hi
    simp only [V.fit] at hg
    split at hg
    · cases hg
    · rename_i ha
      simp only [Option.some.injEq, Prod.mk.injEq] at hg
      obtain ⟨rfl, rfl⟩ := hg
      refine ⟨ho, fun _ _ q => q, fun mpF pre post hE => ⟨.u, by simp [V.fill], ⟨fun cs hc => ?_, by simp [V.isAgg] at ha ⊢; simpa [V.isAgg] using ha.symm, fun t ht => ?_, by simp [V.ids], by simp, fun hq => absurd rfl hq⟩⟩⟩
      · obtain ⟨z, rfl, _⟩ := relV_one hc (by simpa using ha); exact ⟨z, rfl⟩
      · have := fits_agg ht
        simp only [V.fits, Bool.not_eq_true']
        rw [← this]; simpa using ha
  | imm t p =>
    intro x mp mp' ps hg ho hi
    simp only [V.fit] at hg
    split at hg
    · rename_i t' q hq
      split at hg
      · rename_i hb
        have := Sh.beq_eq hb; subst this
        simp only [Option.some.injEq, Prod.mk.injEq] at hg
        obtain ⟨rfl, rfl⟩ := hg
        refine ⟨ho, fun _ _ q => q, fun mpF pre post hE => ⟨.imm t q, by simp only [V.fill, List.length_singleton]; rw [lf_here], ⟨fun cs hc => ?_, ?_, fun sh hsh => ?_, by simp [V.ids], by simp, fun _ => ⟨fun e0 => (by subst e0; cases hq), fun z e0 => (by subst e0; cases hq)⟩⟩⟩⟩
        · rw [← relV_norm, hq] at hc; exact hc
        · rw [← norm_agg x, hq]
        · rw [← norm_fits, hq] at hsh; exact hsh
      · cases hg
    · rename_i e b hq
      split at hg
      · rename_i hb
        have := Sh.beq_eq hb; subst this
        simp only [Option.some.injEq, Prod.mk.injEq] at hg
        obtain ⟨rfl, rfl⟩ := hg
        refine ⟨ho, fun _ _ q => q, fun mpF pre post hE => ⟨.imm (.slice e) (.list b []), by simp only [V.fill, List.length_singleton]; rw [lf_here], ⟨fun cs hc => ?_, ?_, fun sh hsh => ?_, by simp [V.ids], by simp, fun _ => ⟨fun e0 => (by subst e0; cases hq), fun z e0 => (by subst e0; cases hq)⟩⟩⟩⟩
        · rw [← relV_norm, hq] at hc
          obtain ⟨a, rfl, rfl⟩ := hc
          exact ⟨a, [], 0, rfl, rfl, Nat.le_refl _, fun _ => rfl, fun i hi => absurd hi (by simp)⟩
        · rw [← norm_agg x, hq]; rfl
        · rw [← norm_fits, hq] at hsh
          cases sh <;> simp [V.fits] at hsh
          have := Sh.beq_eq hsh; subst this
          exact Sh.beq_refl _
      · cases hg
    · rename_i id n e q hq
      split at hg
      · rename_i hb
        have := Sh.beq_eq hb; subst this
        simp only [Option.some.injEq, Prod.mk.injEq] at hg
        obtain ⟨rfl, rfl⟩ := hg
        refine ⟨ho, fun _ _ q => q, fun mpF pre post hE => ⟨.imm (.slice e) q, by simp only [V.fill, List.length_singleton]; rw [lf_here], ⟨fun cs hc => ?_, ?_, fun sh hsh => ?_, by simp [V.ids], by simp, fun _ => ⟨fun e0 => (by subst e0; cases hq), fun z e0 => (by subst e0; cases hq)⟩⟩⟩⟩
        · rw [← relV_norm, hq] at hc
          obtain ⟨b, q', v, _, rfl, h3, _⟩ := hc
          exact h3
        · rw [← norm_agg x, hq]; rfl
        · rw [← norm_fits, hq] at hsh
          exact tv_fits hsh
      · cases hg
    · cases hg
  | tv id n e p => intro x mp mp' ps hg; simp [V.fit] at hg
  | iptr t p =>
    intro x mp mp' ps hg ho hi
    simp only [V.fit] at hg
    split at hg
    · rename_i t' q
      split at hg
      · rename_i hb
        have := Sh.beq_eq hb; subst this
        simp only [Option.some.injEq, Prod.mk.injEq] at hg
        obtain ⟨rfl, rfl⟩ := hg
        exact ⟨ho, fun _ _ q => q, fun mpF pre post hE => ⟨.iptr t q, by simp only [V.fill, List.length_singleton]; rw [lf_here], ⟨fun cs hc => hc, rfl, fun sh hsh => hsh, by simp [V.ids], by simp, fun _ => (by simp)⟩⟩⟩
      · cases hg
    · cases hg
  | nils => intro x mp mp' ps hg; simp [V.fit] at hg
  | emp e b => intro x mp mp' ps hg; simp [V.fit] at hg
  | slw a e lo n => intro x mp mp' ps hg; simp [V.fit] at hg
  | tup y ih => intro x mp mp' ps hg; simp [V.fit] at hg
  | blk a k =>
    intro x mp mp' ps hg ho hi
    simp only [V.fit] at hg
    split at hg
    · rename_i j k'
      split at hg
      · rename_i hb
        have := Bk.beq_eq hb; subst this
        split at hg
        · rename_i m1 hm1
          simp only [Option.some.injEq, Prod.mk.injEq] at hg
          obtain ⟨rfl, rfl⟩ := hg
          obtain ⟨k1, k2, k3⟩ := tie_ok hm1 ho (hi j (by simp [V.ids]))
          refine ⟨k1, k2, fun mpF pre post hE => ⟨.blk a k, by simp [V.fill], ⟨fun cs hc => ?_, rfl, fun sh hsh => by cases k <;> cases sh <;> first | exact hsh | (simp [V.fits] at hsh; done), ?_, by simp, fun _ => (by simp)⟩⟩⟩
          · obtain ⟨b, qq, q1, q2⟩ := hc
            exact ⟨b, qq, by simp only [locOf, hE _ _ k3]; exact q1, q2⟩
          · intro id hid; simp [V.ids] at hid; subst hid; exact ⟨_, k3⟩
        · cases hg
      · cases hg
    · cases hg
  | slf a e =>
    intro x mp mp' ps hg ho hi
    simp only [V.fit] at hg
    split at hg
    · rename_i j t
      split at hg
      · rename_i hb
        have := Sh.beq_eq hb; subst this
        split at hg
        · rename_i m1 hm1
          simp only [Option.some.injEq, Prod.mk.injEq] at hg
          obtain ⟨rfl, rfl⟩ := hg
          obtain ⟨k1, k2, k3⟩ := tie_ok hm1 ho (hi j (by simp [V.ids]))
          refine ⟨k1, k2, fun mpF pre post hE => ⟨.slf a e, by simp [V.fill], ⟨fun cs hc => ?_, rfl, fun sh hsh => by cases sh <;> simpa [V.fits] using hsh, ?_, by simp, fun _ => (by simp)⟩⟩⟩
          · obtain ⟨a0, len, cap, q1, q2⟩ := hc
            exact ⟨a0, len, cap, by simp only [locOf, hE _ _ k3]; exact q1, q2⟩
          · intro id hid; simp [V.ids] at hid; subst hid; exact ⟨_, k3⟩
        · cases hg
      · cases hg
    · rename_i t
      split at hg
      · rename_i hb
        have := Sh.beq_eq hb; subst this
        split at hg
        case h_2 => cases hg
        rename_i hn
        split at hg
        · cases hg
        · rename_i hnn
          simp only [Option.some.injEq, Prod.mk.injEq] at hg
          obtain ⟨rfl, rfl⟩ := hg
          have hx : ∀ q z, Mp.get mp q = some z → Mp.get ((a, .inr e) :: mp) q = some z := fun q z hq => by
            rw [mp_cons]; split
            · rename_i ee; subst ee; rw [hn] at hq; cases hq
            · exact hq
          refine ⟨⟨fun p z hp hnm => ?_, fun p q j hp hq => ?_, fun p j hp => ?_⟩, hx, fun mpF pre post hE => ⟨.slf a e, by simp [V.fill], ⟨fun cs hc => ?_, rfl, fun sh hsh => ?_, ?_, by simp, fun _ => (by simp)⟩⟩⟩
          · rw [mp_cons] at hp
            split at hp
            · rename_i ee; subst ee; exact absurd hnm hnn
            · exact ho.nm p z hp hnm
          · rw [mp_cons] at hp hq
            split at hp <;> split at hq <;> first | cases hp | cases hq | exact ho.inj p q j hp hq
          · rw [mp_cons] at hp
            split at hp
            · cases hp
            · exact ho.pres p j hp
          · have hm : mpF.get a = some (.inr e) := hE a _ (by rw [mp_cons]; simp)
            obtain ⟨a0, xs, cap, q1, rfl, q3, q4, q5⟩ := hc
            injection q1 with z1 z2
            subst z2
            cases a0 with
            | some _ => simp at z1
            | none => exact ⟨none, 0, 0, by simp only [locOf, hm], by rw [q4 rfl]; rfl⟩
          · have := Sh.beq_eq hsh; subst this; exact Sh.beq_refl _
          · intro id hid; simp [V.ids] at hid; subst hid; exact ⟨.inr e, by rw [mp_cons]; simp⟩
      · cases hg
    · cases hg
  | ref a p t =>
    intro x mp mp' ps hg ho hi
    simp only [V.fit] at hg
    split at hg
    · rename_i j q t'
      split at hg
      · rename_i hb
        rw [Bool.and_eq_true] at hb
        have := Sh.beq_eq hb.2; subst this
        have := pathB_eq hb.1; subst this
        split at hg
        · rename_i m1 hm1
          simp only [Option.some.injEq, Prod.mk.injEq] at hg
          obtain ⟨rfl, rfl⟩ := hg
          obtain ⟨k1, k2, k3⟩ := tie_ok hm1 ho (hi j (by simp [V.ids]))
          refine ⟨k1, k2, fun mpF pre post hE => ⟨.ref a p t, by simp [V.fill], ⟨fun cs hc => ?_, rfl, fun sh hsh => by cases sh <;> simpa [V.fits] using hsh, ?_, by simp, fun _ => (by simp)⟩⟩⟩
          · obtain ⟨y, q1, q2⟩ := hc
            exact ⟨y, q1, by simp only [locOf, hE _ _ k3]; exact q2⟩
          · intro id hid; simp [V.ids] at hid; subst hid; exact ⟨_, k3⟩
        · cases hg
      · cases hg
    · cases hg
  | fn f c ih =>
    intro x mp mp' ps hg ho hi
    simp only [V.fit] at hg
    split at hg
    · rename_i g d
      split at hg
      · rename_i hb
        have := beq_iff.1 hb; subst this
        obtain ⟨k1, k2, k3⟩ := ih hg ho (fun id hid => hi id (by simpa [V.ids] using hid))
        refine ⟨k1, k2, fun mpF pre post hE => ?_⟩
        obtain ⟨y, g1, g2⟩ := k3 mpF pre post hE
        refine ⟨.fn f y, by simp only [V.fill, g1], ⟨fun cs hc => ?_, rfl, fun sh hsh => ?_, fun id hid => g2.ids id (by simpa [V.ids] using hid), by simp, fun _ => (by simp)⟩⟩
        · obtain ⟨caps, q1, q2⟩ := hc; exact ⟨caps, q1, g2.rel _ q2⟩
        · cases sh <;> simp [V.fits] at hsh ⊢
      · cases hg
    · cases hg
  | pair a b iha ihb =>
    intro x mp mp' ps hg ho hi
    simp only [V.fit] at hg
    split at hg
    · rename_i x1 x2 hx1 hx2
      split at hg
      · rename_i ps1 m1 hf1
        split at hg
        · rename_i ps2 m2 hf2
          simp only [Option.some.injEq, Prod.mk.injEq] at hg
          obtain ⟨rfl, rfl⟩ := hg
          obtain ⟨i1, i2⟩ := fst_snd_ids hx1 hx2
          obtain ⟨k1, k2, k3⟩ := iha hf1 ho (fun id hid => hi id (i1 id hid))
          obtain ⟨l1, l2, l3⟩ := ihb hf2 k1 (fun id hid => hi id (i2 id hid))
          refine ⟨l1, fun q z hq => l2 _ _ (k2 _ _ hq), fun mpF pre post hE => ?_⟩
          obtain ⟨y1, g1, g2⟩ := k3 mpF pre (ps2 ++ post) (fun q z hq => hE _ _ (l2 _ _ hq))
          obtain ⟨y2, g3, g4⟩ := l3 mpF (pre ++ ps1) post hE
          refine ⟨.pair y1 y2, ?_, ⟨fun cs hc => ?_, ?_, fun sh hsh => ?_, fun id hid => ?_, by simp, fun _ => ⟨fun e0 => (by subst e0; cases hx1), fun z e0 => (by subst e0; cases hx1)⟩⟩⟩
          · simp only [V.fill]
            rw [show pre ++ (ps1 ++ ps2) ++ post = pre ++ ps1 ++ (ps2 ++ post) from by simp, g1]
            simp only
            rw [show pre ++ ps1 ++ (ps2 ++ post) = pre ++ ps1 ++ ps2 ++ post from by simp, show pre.length + ps1.length = (pre ++ ps1).length from by simp, g3]
            simp [Nat.add_assoc]
          · obtain ⟨c1, c2, rfl, q1, q2, _⟩ := relV_split hc hx1 hx2
            exact ⟨c1, c2, rfl, g2.rel _ q1, g4.rel _ q2⟩
          · exact (fst_agg hx1).symm
          · obtain ⟨_, sa, sb, rfl, q1, q2⟩ := fst_snd_fits hx1 hx2 hsh
            simp [V.fits, g2.fits _ q1, g4.fits _ q2]
          · simp only [V.ids, List.mem_append] at hid
            rcases hid with hid | hid
            · obtain ⟨z, hz⟩ := g2.ids id hid; exact ⟨z, l2 _ _ hz⟩
            · exact g4.ids id hid
        · cases hg
      · cases hg
    · cases hg
end
end Go.Eng
end
/-! A state fitted into a skeleton: the state's relation. Conditions: none. -/
section
set_option linter.unusedVariables false
set_option linter.unusedSimpArgs false
namespace Go.Eng
open Go.RowKit
section
variable {X : Cells} {S0 : Base} {w0 : World} {N : Nat} {m : Lm} {s : St} {tm : Array Value} {w : World} {F : Cells}
theorem FitV.rel1 {x y : V} {mpF mp' : Mp} {v : Value} (h : FitV m w F x y mpF mp') (hr : Rel1 m w F x v) : Rel1 (locOf mpF m) w F y v := by
  by_cases hu : y = .u
  · subst hu; exact rel_u
  · obtain ⟨n1, n2⟩ := h.nu hu
    obtain ⟨cs, g1, g2⟩ := rel_cells0 n1 n2 hr
    rw [rel1_def h.tup]
    exact relS_val (by rw [h.agg]; exact g2) (h.rel cs g1)
/-- All temporaries stand rightly. -/
def TOK (m : Lm) (w : World) (F : Cells) (tm : Array Value) (mpF : Mp) (tr : Tr) : Prop :=
  ∀ i, Rel1 (locOf mpF m) w F ((St.mk tr [] []).tmp i) (tm.getD i undef) ∧ ∀ id ∈ ((St.mk tr [] []).tmp i).ids, ∃ z, mpF.get id = some z
theorem fitT_ok (h : R0 X S0 w0 N m s tm w) : ∀ (l : List (Nat × V)) {mp mp' : Mp} {ps : List P}, fitT l s mp = some (ps, mp') → MpOk s.h mp →
    MpOk s.h mp' ∧ Ext mp mp' ∧ ∀ (mpF : Mp) (pre post : List P) (tr : Tr), Ext mp' mpF → TOK m w (Fb X m s.h) tm mpF tr →
      ∃ tr', fillT (pre ++ ps ++ post) l pre.length tr = (tr', pre.length + ps.length) ∧ TOK m w (Fb X m s.h) tm mpF tr'
  | [], mp, mp', ps, hg, ho => by
    simp only [fitT, Option.some.injEq, Prod.mk.injEq] at hg
    obtain ⟨rfl, rfl⟩ := hg
    exact ⟨ho, fun _ _ q => q, fun mpF pre post tr hE ht => ⟨tr, by simp [fillT], ht⟩⟩
  | (i, v) :: r, mp, mp', ps, hg, ho => by
    simp only [fitT] at hg
    split at hg
    case isFalse => cases hg
    rename_i hlt
    have hlt : i < 1024 := by simpa [Nat.blt_eq] using hlt
    split at hg
    · rename_i ps1 m1 hf1
      split at hg
      · rename_i ps2 m2 hf2
        simp only [Option.some.injEq, Prod.mk.injEq] at hg
        obtain ⟨rfl, rfl⟩ := hg
        obtain ⟨k1, k2, k3⟩ := fitV_ok (m := m) (w := w) (F := Fb X m s.h) v hf1 ho (h.wft i)
        obtain ⟨l1, l2, l3⟩ := fitT_ok h r hf2 k1
        refine ⟨l1, fun q z hq => l2 _ _ (k2 _ _ hq), fun mpF pre post tr hE ht => ?_⟩
        obtain ⟨y, g1, g2⟩ := k3 mpF pre (ps2 ++ post) (fun q z hq => hE _ _ (l2 _ _ hq))
        have ht' : TOK m w (Fb X m s.h) tm mpF (tr.put dep i y) := by
          intro j
          have e : (St.mk (tr.put dep i y) [] []).tmp j = if j = i then y else (St.mk tr [] []).tmp j := St.tmp_put ⟨tr, [], []⟩ i j y hlt
          rw [e]
          by_cases hj : j = i
          · subst hj
            rw [if_pos rfl]
            exact ⟨g2.rel1 (h.tmps j), fun id hid => let ⟨z, hz⟩ := g2.ids id hid; ⟨z, hE _ _ (l2 _ _ hz)⟩⟩
          · rw [if_neg hj]; exact ht j
        obtain ⟨tr', g3, g4⟩ := l3 mpF (pre ++ ps1) post _ hE ht'
        refine ⟨tr', ?_, g4⟩
        simp only [fillT]
        rw [show pre ++ (ps1 ++ ps2) ++ post = pre ++ ps1 ++ (ps2 ++ post) from by simp, g1]
        simp only
        rw [show pre ++ ps1 ++ (ps2 ++ post) = pre ++ ps1 ++ ps2 ++ post from by simp, show pre.length + ps1.length = (pre ++ ps1).length from by simp, g3]
        simp [Nat.add_assoc]
      · cases hg
    · cases hg
/-- A box of the skeleton, filled. -/
structure BOK (m : Lm) (w : World) (F : Cells) (mpF : Mp) (a : Nat) (bx : Box) : Prop where
  got : ∃ z, mpF.get a = some z
  rel : BRel (locOf mpF m) w F a bx
  ids : ∀ id ∈ bx.ids, ∃ z, mpF.get id = some z
theorem fitH_ok (h : R0 X S0 w0 N m s tm w) : ∀ (l : List (Nat × Box)) {mp mp' : Mp} {ps : List P}, fitH l s.h mp = some (ps, mp') → MpOk s.h mp →
    MpOk s.h mp' ∧ Ext mp mp' ∧ ∀ (mpF : Mp) (pre post : List P), Ext mp' mpF →
      keys (fillH (pre ++ ps ++ post) l pre.length) = keys l ∧ ∀ a bx, (a, bx) ∈ fillH (pre ++ ps ++ post) l pre.length → BOK m w (Fb X m s.h) mpF a bx
  | [], mp, mp', ps, hg, ho => by
    simp only [fitH, Option.some.injEq, Prod.mk.injEq] at hg
    obtain ⟨rfl, rfl⟩ := hg
    exact ⟨ho, fun _ _ q => q, fun mpF pre post hE => ⟨rfl, fun a bx hm => by simp [fillH] at hm⟩⟩
  | (a, b) :: r, mp, mp', ps, hg, ho => by
    simp only [fitH] at hg
    split at hg
    · rename_i ps1 m1 hf1
      split at hg
      · rename_i ps2 m2 hf2
        simp only [Option.some.injEq, Prod.mk.injEq] at hg
        obtain ⟨rfl, rfl⟩ := hg
        -- one box
        have one : MpOk s.h m1 ∧ Ext mp m1 ∧ ∀ (mpF : Mp) (pre post : List P), Ext m1 mpF → ∃ bx, BOK m w (Fb X m s.h) mpF a bx ∧
            ∀ r', fillH (pre ++ ps1 ++ post) ((a, b) :: r') pre.length = (a, bx) :: fillH (pre ++ ps1 ++ post) r' (pre.length + ps1.length) := by
          unfold fitB at hf1
          split at hf1
          · rename_i e nl xs e' hgm
            split at hf1
            · rename_i hb
              have := Sh.beq_eq hb; subst this
              simp only [Option.some.injEq, Prod.mk.injEq] at hf1
              obtain ⟨rfl, rfl⟩ := hf1
              refine ⟨ho, fun _ _ q => q, fun mpF pre post hE => ⟨.arr e true [], ⟨⟨_, hE _ _ hgm⟩, ?_, by simp [Box.ids]⟩, fun r' => ?_⟩⟩
              · exact ⟨none, 0, by simp only [locOf, hE _ _ hgm]; rfl, rfl, Nat.le_refl _, fun _ => rfl, fun b o hh => by cases hh⟩
              · simp only [fillH, List.length_singleton]; rw [lf_here]; rfl
            · cases hf1
          · rename_i e nl xs j hgm
            split at hf1
            · rename_i e' nl' xs' hbx
              split at hf1
              · rename_i hb
                have := Sh.beq_eq hb; subst this
                simp only [Option.some.injEq, Prod.mk.injEq] at hf1
                obtain ⟨rfl, rfl⟩ := hf1
                refine ⟨ho, fun _ _ q => q, fun mpF pre post hE => ⟨.arr e nl' xs', ⟨⟨_, hE _ _ hgm⟩, ?_, by simp [Box.ids]⟩, fun r' => ?_⟩⟩
                · obtain ⟨a0, cap, q1, q2⟩ := h.box j _ hbx
                  exact ⟨a0, cap, by simp only [locOf, hE _ _ hgm]; exact q1, q2⟩
                · simp only [fillH, List.length_singleton]; rw [lf_here]; rfl
              · cases hf1
            · cases hf1
          · rename_i t v j hgm
            split at hf1
            · rename_i t' x hbx
              split at hf1
              · rename_i hb
                have := Sh.beq_eq hb; subst this
                obtain ⟨k1, k2, k3⟩ := fitV_ok (m := m) (w := w) (F := Fb X m s.h) v hf1 ho (fun id hid => h.wfh j _ hbx id hid)
                refine ⟨k1, k2, fun mpF pre post hE => ?_⟩
                obtain ⟨y, g1, g2⟩ := k3 mpF pre post hE
                have hgm' := hE _ _ (k2 _ _ hgm)
                refine ⟨.obj t y, ⟨⟨_, hgm'⟩, ?_, fun id hid => let ⟨z, hz⟩ := g2.ids id hid; ⟨z, hE _ _ hz⟩⟩, fun r' => ?_⟩
                · obtain ⟨b0, o0, cs, q1, q2, q3, q4, q5⟩ := h.box j _ hbx
                  exact ⟨b0, o0, cs, by simp only [locOf, hgm']; exact q1, g2.fits _ q2, g2.rel _ q3, q4, q5⟩
                · simp only [fillH, g1]
              · cases hf1
            · cases hf1
          · rename_i k p j hgm
            split at hf1
            · rename_i k' p' hbx
              split at hf1
              · rename_i hb
                have := Bk.beq_eq hb; subst this
                simp only [Option.some.injEq, Prod.mk.injEq] at hf1
                obtain ⟨rfl, rfl⟩ := hf1
                refine ⟨ho, fun _ _ q => q, fun mpF pre post hE => ⟨.blk k p', ⟨⟨_, hE _ _ hgm⟩, ?_, by simp [Box.ids]⟩, fun r' => ?_⟩⟩
                · obtain ⟨b0, qq, q1, q2⟩ := h.box j _ hbx
                  exact ⟨b0, qq, by simp only [locOf, hE _ _ hgm]; exact q1, q2⟩
                · simp only [fillH, List.length_singleton]; rw [lf_here]
              · cases hf1
            · cases hf1
          · cases hf1
        obtain ⟨k1, k2, k3⟩ := one
        obtain ⟨l1, l2, l3⟩ := fitH_ok h r hf2 k1
        refine ⟨l1, fun q z hq => l2 _ _ (k2 _ _ hq), fun mpF pre post hE => ?_⟩
        obtain ⟨bx, g1, g2⟩ := k3 mpF pre (ps2 ++ post) (fun q z hq => hE _ _ (l2 _ _ hq))
        obtain ⟨g3, g4⟩ := l3 mpF (pre ++ ps1) post hE
        have e : fillH (pre ++ (ps1 ++ ps2) ++ post) ((a, b) :: r) pre.length = (a, bx) :: fillH (pre ++ ps1 ++ ps2 ++ post) r (pre ++ ps1).length := by
          rw [show pre ++ (ps1 ++ ps2) ++ post = pre ++ ps1 ++ (ps2 ++ post) from by simp, g2]
          simp
        rw [e]
        refine ⟨by simp only [keys, List.map_cons] at g3 ⊢; rw [g3], fun a' bx' hm => ?_⟩
        rcases List.mem_cons.1 hm with hm | hm
        · cases hm; exact g1
        · exact g4 a' bx' hm
      · cases hg
    · cases hg
theorem hasKey_iff {a : Nat} : ∀ {h : Heap}, hasKey a h = true ↔ a ∈ keys h
  | [] => by simp [hasKey, keys]
  | (j, b) :: r => by
    simp only [hasKey, Bool.or_eq_true, hasKey_iff (h := r), keys, List.map_cons, List.mem_cons]
    rw [beq_iff]
    exact or_congr eq_comm Iff.rfl
theorem nodupK_iff : ∀ {h : Heap}, nodupK h = true → (keys h).Nodup
  | [], _ => by simp [keys]
  | (j, b) :: r, h => by
    simp only [nodupK, Bool.and_eq_true, Bool.not_eq_true'] at h
    simp only [keys, List.map_cons, List.nodup_cons]
    refine ⟨fun hm => ?_, nodupK_iff h.2⟩
    have := hasKey_iff.2 hm
    rw [h.1] at this; cases this
theorem tiedIn_ok {h : Heap} : ∀ {m : Mp}, tiedIn h m = true → ∀ a z, m.get a = some z → a ∈ keys h
  | [], _, a, z, hg => by simp [Mp.get] at hg
  | (b, x) :: r, ht, a, z, hg => by
    simp only [tiedIn, Bool.and_eq_true] at ht
    rw [mp_cons] at hg
    split at hg
    · rename_i e; subst e; exact hasKey_iff.1 ht.1
    · exact tiedIn_ok ht.2 a z hg
theorem getBox_mem {id : Nat} {bx : Box} : ∀ {h : Heap}, getBox id h = some bx → (id, bx) ∈ h
  | [], hg => by simp [getBox] at hg
  | (j, b) :: r, hg => by
    rw [getBox_cons] at hg
    split at hg
    · rename_i e; subst e; obtain rfl := Option.some.inj hg; simp
    · exact List.mem_cons_of_mem _ (getBox_mem hg)
/-- THE STATE FITTED IN: the filled skeleton stands for it. -/
theorem fit0_ok (h : R0 X S0 w0 N m s tm w) {sk : Sk} {ls : List P} (hf : sk.fit0 s = some ls) : ∃ m', R0 X S0 w0 N m' (sk.fill ls) tm w := by
  unfold Sk.fit0 at hf
  split at hf
  · rename_i ps mp hT
    split at hf
    · rename_i qs mp' hH
      split at hf
      · rename_i hc
        obtain rfl := Option.some.inj hf
        rw [Bool.and_eq_true, Bool.and_eq_true] at hc
        obtain ⟨⟨hnd, htied⟩, hz1⟩ := hc
        have hsz : s.z = [] := by simpa using hz1
        have hz0 : S0.z = [] := by rw [← h.hz]; exact hsz
        have hnd := nodupK_iff hnd
        have htied := tiedIn_ok htied
        obtain ⟨a1, a2, a3⟩ := fitT_ok h sk.t hT ⟨fun _ _ q => by simp [Mp.get] at q, fun _ _ _ q => by simp [Mp.get] at q, fun _ _ q => by simp [Mp.get] at q⟩
        obtain ⟨b1, b2, b3⟩ := fitH_ok h sk.h hH a1
        obtain ⟨tr, g1, g2⟩ := a3 mp' [] qs .e b2 (fun i => by
          have : (St.mk .e [] []).tmp i = .u := by
            simp only [St.tmp]
            have ge : Tr.get dep .e i = .u := rfl
            rw [ge]; cases Nat.blt i 1024 <;> rfl
          rw [this]; exact ⟨rel_u, by simp [V.ids]⟩)
        obtain ⟨g3, g4⟩ := b3 mp' ps [] (fun _ _ q => q)
        simp only [List.nil_append, List.length_nil, Nat.zero_add, List.append_nil] at g1 g3 g4
        have hfill : sk.fill (ps ++ qs) = { t := tr, h := fillH (ps ++ qs) sk.h ps.length } := by
          unfold Sk.fill; rw [g1]
        rw [hfill]
        generalize hhp : fillH (ps ++ qs) sk.h ps.length = hp at *
        have hbok : ∀ a bx, getBox a hp = some bx → BOK m w (Fb X m s.h) mp' a bx := fun a bx hg => g4 a bx (getBox_mem hg)
        have hpres : ∀ a z, mp'.get a = some z → getBox a hp ≠ none := fun a z hz => by
          intro hn
          rw [getBox_none, g3] at hn
          exact hn (htied a z hz)
        have hown : ∀ b o, Own (locOf mp' m) hp b o → Own m s.h b o ∨ w.heap.size ≤ b := by
          rintro b o ⟨a, hp', hh⟩
          cases hg : getBox a hp with
          | none => exact absurd hg hp'
          | some bx =>
            obtain ⟨z, hz⟩ := (hbok a bx hg).got
            unfold locOf at hh
            rw [hz] at hh
            cases z with
            | inl j => exact .inl ⟨j, b1.pres a j hz, hh⟩
            | inr e => exact hh.elim
        have hownZ : ∀ b o, OwnZ (locOf mp' m) hp S0.z b o → OwnZ m s.h S0.z b o ∨ w.heap.size ≤ b := fun b o ho => (hown b o ho.own).imp (fun ⟨id, q1, q2⟩ => ⟨id, q1, by rw [hz0]; rfl, q2⟩) fun q => q
        have hk : Keep w (Fb X m s.h) w (Fb X (locOf mp' m) hp) := h.keep (Fr.refl w.heap.size (fun _ _ => False) w) (fun _ _ q => q.elim) hown
        refine ⟨locOf mp' m, h.upd (s' := { t := tr, h := hp }) (Fr.refl w.heap.size (fun _ _ => False) w) (fun _ _ q => q.elim) hownZ hsz.symm (fun id hi => by rw [hz0] at hi; cases hi) (by rw [g3]; exact hnd) ?_ ?_ ?_ ?_ ?_ ?_⟩
        · exact fun i => ((g2 i).1).mono hk
        · intro i id hid
          obtain ⟨z, hz⟩ := (g2 i).2 id hid
          exact hpres id z hz
        · intro j bx hj id hid
          obtain ⟨z, hz⟩ := (hbok j bx hj).ids id hid
          exact hpres id z hz
        · intro id bx hg
          exact (hbok id bx hg).rel.keep hk rfl (fun _ _ => rfl) (fun _ _ _ => ⟨rfl, rfl⟩) fun _ _ _ => rfl
        · intro i j hij hi hj b o hh hh'
          cases hgi : getBox i hp with
          | none => exact hi hgi
          | some bi =>
            cases hgj : getBox j hp with
            | none => exact hj hgj
            | some bj =>
              obtain ⟨zi, hzi⟩ := (hbok i bi hgi).got
              obtain ⟨zj, hzj⟩ := (hbok j bj hgj).got
              unfold locOf at hh hh'
              rw [hzi] at hh
              rw [hzj] at hh'
              cases zi with
              | inr e => exact hh.elim
              | inl i' =>
                cases zj with
                | inr e => exact hh'.elim
                | inl j' =>
                  refine h.disj i' j' (fun e => ?_) (b1.pres i i' hzi) (b1.pres j j' hzj) b o hh hh'
                  subst e
                  exact hij (b1.inj i j i' hzi hzj)
        · intro id hpp hn
          have hn : namedB id = true := by rw [hz0] at hn; simpa [memB] using hn
          cases hg : getBox id hp with
          | none => exact absurd hg hpp
          | some bx =>
            obtain ⟨z, hz⟩ := (hbok id bx hg).got
            have := b1.nm id z hz hn
            subst this
            have e0 : locOf mp' m id = m id := by simp only [locOf, hz]
            exact ⟨b1.pres id id hz, by rw [e0], fun _ => e0⟩
      · cases hf
    · cases hf
  · cases hf
theorem R0.frzIn : ∀ (ids : List Nat) {s s' : St}, s.frzIn ids = some s' → R0 X S0 w0 N m s tm w → R0 X S0 w0 N m s' tm w
  | [], s, s', h, hR => by simp only [St.frzIn] at h; rw [← Option.some.inj h]; exact hR
  | id :: r, s, s', h, hR => by
    simp only [St.frzIn] at h
    split at h
    · split at h
      · rename_i s1 hs1; exact R0.frzIn r h (hR.frz hs1)
      · cases h
    · exact R0.frzIn r h hR
theorem R0.frzAll : ∀ (ids : List Nat) {s s' : St}, s.frzAll ids = some s' → R0 X S0 w0 N m s tm w → R0 X S0 w0 N m s' tm w
  | [], s, s', h, hR => by simp only [St.frzAll] at h; rw [← Option.some.inj h]; exact hR
  | id :: r, s, s', h, hR => by
    simp only [St.frzAll] at h
    split at h
    · exact R0.frzAll r h hR
    · split at h
      · rename_i s1 hs1; exact R0.frzAll r h (R0.frzIn _ hs1 hR)
      · cases h
    · split at h
      · rename_i s1 hs1; exact R0.frzAll r h (hR.frz hs1)
      · cases h
theorem R0.frzT : ∀ (z : List Nat) {s s' : St}, Eng.frzT z s = some s' → R0 X S0 w0 N m s tm w → R0 X S0 w0 N m s' tm w
  | [], s, s', h, hR => by simp only [Eng.frzT] at h; rw [← Option.some.inj h]; exact hR
  | i :: r, s, s', h, hR => by
    simp only [Eng.frzT] at h
    split at h
    · rename_i s1 hs1; exact R0.frzT r h (hR.frzAll _ hs1)
    · cases h
theorem fit_ok (h : R0 X S0 w0 N m s tm w) {sk : Sk} {ls : List P} (hf : sk.fit s = some ls) : ∃ m', R0 X S0 w0 N m' (sk.fill ls) tm w := by
  unfold Sk.fit at hf
  split at hf
  · rename_i s' hs'; exact fit0_ok (h.frzT _ hs') hf
  · cases hf
end
end Go.Eng
end
/-! Code and loops: the model carries out what the interpreter tells. Conditions: none. -/
section
set_option linter.unusedVariables false
set_option linter.unusedSimpArgs false
namespace Go.Eng
open Go.RowKit
/-- The pieces of code that may be told of as a whole, each by its place. -/
def cutsOf : Code → Bool → Nat → List (Nat × Code)
  | .seq a b, ask, p => (if ask then [(p, .seq a b)] else []) ++ (cutsOf a true (2 * p) ++ cutsOf b true (2 * p + 1))
  | .cond x a b, ask, p => (if ask then [(p, .cond x a b)] else []) ++ (cutsOf a true (2 * p) ++ cutsOf b true (2 * p + 1))
  | .block id x, ask, p => (if ask then [(p, .block id x)] else []) ++ cutsOf x true (2 * p)
  | .loop x, ask, p => if ask then [(p, .loop x)] else []
  | .scope x, _, p => cutsOf x true (2 * p)
  | _, _, _ => []
section
variable {R : Type} {X : Cells} {S0 : Base} {w0 : World} {c : Cx} {D : List Deferred}
/-- What is to be shown behind a piece of code. -/
structure KOk (X : Cells) (S0 : Base) (w0 : World) (N : Nat) (D : List Deferred) (K : Kont R) (r : R) (Q : Exit → Act → World → Prop) : Prop where
  norm : ∀ m s tm w, K.norm s = some r → R0 X S0 w0 N m s tm w → Q .normal ⟨tm, D⟩ w
  exit : ∀ j m s tm w, K.exit j s = some r → R0 X S0 w0 N m s tm w → Q (.exit j) ⟨tm, D⟩ w
  ret : ∀ m s tm w, K.ret s = some r → R0 X S0 w0 N m s tm w → Q .ret ⟨tm, D⟩ w
/-- What the interpreter takes for a piece of code, the model does. -/
def LOk (K0 : Par) (c : Cx) (p : Nat) (x : Code) : Prop :=
  ∀ (s : St) (e : LEnt), c.L p s = some e → ∀ (y : Nat × List P), e.val = some y → ∀ {R : Type} (X : Cells) (S0 : Base) (w0 : World) (D : List Deferred) (m : Lm) (tm : Array Value) (w : World) (K : Kont R) (r : R) (Q : Exit → Act → World → Prop),
    S0.dk = K0 → flow e.flows 0 y K = some r → R0 X S0 w0 c.n m s tm w → KOk X S0 w0 c.n D K r Q → x.wp c.p Q ⟨tm, D⟩ w
theorem cutB_ok {x : Code} {ask : Bool} {p : Nat} {s : St} {K : Kont R} {z : Option R} {r : R} {m : Lm} {tm : Array Value} {w : World} {Q : Exit → Act → World → Prop} (he : cutB c ask p s K z = some r)
    (hL : ask = true → LOk S0.dk c p x) (h : R0 X S0 w0 c.n m s tm w) (hK : KOk X S0 w0 c.n D K r Q) (hz : z = some r → x.wp c.p Q ⟨tm, D⟩ w) : x.wp c.p Q ⟨tm, D⟩ w := by
  unfold cutB at he
  split at he
  · exact hz he
  · split at he
    · rename_i e hle
      obtain ⟨y, hy, he⟩ := Option.bind_eq_some_iff.1 he
      exact hL rfl s e hle y hy X S0 w0 D m tm w K r Q rfl he h hK
    · exact hz he
theorem exec_ok (hG : Good S0.dk c.p c.E) : ∀ (code : Code) (ask : Bool) (p : Nat) {s : St} {K : Kont R} {r : R} {m : Lm} {tm : Array Value} {w : World} {Q : Exit → Act → World → Prop}, exec c code ask p s K = some r →
    (∀ q x, (q, x) ∈ cutsOf code ask p → LOk S0.dk c q x) → R0 X S0 w0 c.n m s tm w → KOk X S0 w0 c.n D K r Q → code.wp c.p Q ⟨tm, D⟩ w := by
  intro code
  induction code with
  | skip => intro ask p s K r m tm w Q he hL h hK; exact wp_skip (hK.norm m s tm w he h)
  | label l => intro ask p s K r m tm w Q he hL h hK; exact wp_label (hK.norm m s tm w he h)
  | region id ops draw =>
    intro ask p s K r m tm w Q he hL h hK
    simp only [exec] at he
    cases draw with
    | true =>
      rw [cond_true] at he
      replace he := cond_some he
      obtain ⟨hm, he⟩ := he
      split at he
      case h_2 => cases he
      rename_i l F hl
      exact region_drawn hm hl (fun a w hq => hq) (execD_ok (a := ⟨tm, D⟩) hG hl he h.draw rfl fun m' s' a' w' hk hR hD => (by
        have := hK.norm m' s' a'.tmps w' hk hR
        obtain ⟨t', d'⟩ := a'
        have hD : d' = D := hD
        subst hD; exact this))
    | false =>
      refine wp_region_list (execOps_ok hG _ he h fun m' s' tm' w' hk hR => ?_)
      exact hK.norm m' s' tm' w' hk hR
  | seq a b iha ihb =>
    intro ask p s K r m tm w Q he hL h hK
    simp only [exec] at he
    refine cutB_ok he (fun ha => hL _ _ (by simp [cutsOf, ha])) h hK fun he => ?_
    refine wp_seq (iha true (2 * p) he (fun q x hx => hL q x (by simp [cutsOf, hx])) h ⟨fun m s tm w hk hR => ?_, hK.exit, hK.ret⟩)
    exact ihb true (2 * p + 1) hk (fun q x hx => hL q x (by simp [cutsOf, hx])) hR hK
  | cond x a b iha ihb =>
    intro ask p s K r m tm w Q he hL h hK
    simp only [exec] at he
    refine cutB_ok he (fun ha => hL _ _ (by simp [cutsOf, ha])) h hK fun he => ?_
    split at he
    case h_2 => cases he
    rename_i q hx
    have hr := ev_rel (a := ⟨tm, D⟩) h x
    rw [hx, rel_bool] at hr
    refine wp_cond hr.2 ?_
    cases hp : q.toBool with
    | true => rw [hp] at he; exact iha true (2 * p) he (fun q x hx => hL q x (by simp [cutsOf, hx])) h hK
    | false => rw [hp] at he; exact ihb true (2 * p + 1) he (fun q x hx => hL q x (by simp [cutsOf, hx])) h hK
  | block id x ih =>
    intro ask p s K r m tm w Q he hL h hK
    simp only [exec] at he
    refine cutB_ok he (fun ha => hL _ _ (by simp [cutsOf, ha])) h hK fun he => ?_
    refine wp_block (ih true (2 * p) he (fun q x' hx => hL q x' (by simp [cutsOf, hx])) h ⟨hK.norm, fun j m s tm w hk hR => ?_, hK.ret⟩)
    simp only [Exit.inBlock]
    by_cases e : j = id
    · subst e
      simp only at hk
      rw [beq_iff.2 rfl, cond_true] at hk
      rw [if_pos rfl]; exact hK.norm m s tm w hk hR
    · have hb : Nat.beq j id = false := by
        cases hq : Nat.beq j id with
        | false => rfl
        | true => exact absurd (beq_iff.1 hq) e
      simp only at hk
      rw [hb, cond_false] at hk
      rw [if_neg e]; exact hK.exit j m s tm w hk hR
  | loop x ih =>
    intro ask p s K r m tm w Q he hL h hK
    simp only [exec] at he
    exact cutB_ok he (fun ha => hL _ _ (by simp [cutsOf, ha])) h hK fun he => by cases he
  | scope x ih =>
    intro ask p s K r m tm w Q he hL h hK
    simp only [exec] at he
    exact wp_scope_straight (ih true (2 * p) he (fun q x' hx => hL q x' (by simpa [cutsOf] using hx)) h ⟨hK.norm, hK.exit, hK.ret⟩)
  | exit id => intro ask p s K r m tm w Q he hL h hK; exact wp_exit (hK.exit id m s tm w he h)
  | ret => intro ask p s K r m tm w Q he hL h hK; exact wp_ret (hK.ret m s tm w he h)
  | _ => intro ask p s K r m tm w Q he; simp [exec] at he
theorem Out.same_eq {x y : Out} (h : x.same y = true) : x = y := by
  cases x <;> cases y <;> simp [Out.same] at h <;> first | rfl | rw [h]
theorem outK_flow {Kx : Nat × List P → Option R} : ∀ (fl : List (Out × Sk)) (i : Nat) {x : Out} {s : St} {r : R}, outK x Kx fl i s = some r → ∃ n sk ls, fl[n]? = some (x, sk) ∧ sk.fit s = some ls ∧ Kx (i + n, ls) = some r
  | [], i, x, s, r, h => by simp [outK] at h
  | (y, sk) :: q, i, x, s, r, h => by
    simp only [outK] at h
    cases hb : x.same y with
    | true =>
      rw [hb, cond_true] at h
      have e := Out.same_eq hb
      cases hf : sk.fit s with
      | none => rw [hf] at h; cases h
      | some ls => rw [hf] at h; exact ⟨0, sk, ls, by rw [e]; rfl, hf, h⟩
    | false =>
      rw [hb, cond_false] at h
      obtain ⟨n, sk', ls, h1, h2, h3⟩ := outK_flow q (i + 1) h
      exact ⟨n + 1, sk', ls, by simpa using h1, h2, by rw [show i + (n + 1) = i + 1 + n from by omega]; exact h3⟩
theorem flow_at {K : Kont R} : ∀ (fl : List (Out × Sk)) (i : Nat) {y : Nat × List P} {r : R} {n : Nat} {x : Out} {sk : Sk}, flow fl i y K = some r → fl[n]? = some (x, sk) → y.1 = i + n → K.go x (sk.fill y.2) = some r
  | [], i, y, r, n, x, sk, h, hn, _ => by simp at hn
  | (z, sk') :: q, i, y, r, n, x, sk, h, hn, hy => by
    simp only [flow] at h
    cases n with
    | zero =>
      simp only [List.getElem?_cons_zero, Option.some.injEq, Prod.mk.injEq] at hn
      obtain ⟨rfl, rfl⟩ := hn
      rw [show y.1 = i from by omega, beq_iff.2 rfl, cond_true] at h
      exact h
    | succ n =>
      have hb : Nat.beq y.1 i = false := by
        cases hq : Nat.beq y.1 i with
        | false => rfl
        | true => have := beq_iff.1 hq; omega
      rw [hb, cond_false] at h
      exact flow_at q (i + 1) h (by simpa using hn) (by omega)
/-- THE CUT: once, as its tree tells. -/
theorem cut_ok {K0 : Par} (hG : Good K0 c.p c.E) {p : Nat} {x : Code} {sk : Sk} {fl : List (Out × Sk)} {step : List P → Tree (Nat × List P)}
    (hc : ∀ s, c.L p s = match sk.fit s with | some ls => some ⟨(step ls).run some, fl⟩ | none => none)
    (hs : ∀ {R : Type} (ls : List P) (Kx : Nat × List P → Option R), exec c x false p (sk.fill ls) (cutK fl Kx) = (step ls).run Kx)
    (hL : ∀ q x', (q, x') ∈ cutsOf x false p → LOk K0 c q x') : LOk K0 c p x := by
  intro s e he y hy R X S0 w0 D m tm w K r Q hdk hf h hK
  subst hdk
  rw [hc] at he
  split at he
  case h_2 => cases he
  rename_i ls hls
  obtain rfl := Option.some.inj he
  simp only at hy hf
  obtain ⟨m1, h1⟩ := fit_ok h hls
  have hx : exec c x false p (sk.fill ls) (cutK fl some) = some y := by rw [hs ls some]; exact hy
  have out : ∀ o m2 s2 tm2 w2, outK o some fl 0 s2 = some y → R0 X S0 w0 c.n m2 s2 tm2 w2 → ∃ m3 s3, K.go o s3 = some r ∧ R0 X S0 w0 c.n m3 s3 tm2 w2 := by
    intro o m2 s2 tm2 w2 hk hR2
    obtain ⟨i, sk', ls2, g1, g2, g3⟩ := outK_flow fl 0 hk
    obtain ⟨m3, h3⟩ := fit_ok hR2 g2
    have e := Option.some.inj g3
    have hfa := flow_at fl 0 hf g1 (by rw [← e])
    rw [← e] at hfa
    exact ⟨m3, _, hfa, h3⟩
  refine exec_ok hG x false p hx hL h1 ⟨fun m2 s2 tm2 w2 hk hR2 => ?_, fun j m2 s2 tm2 w2 hk hR2 => ?_, fun m2 s2 tm2 w2 hk hR2 => ?_⟩
  · obtain ⟨m3, s3, q1, q2⟩ := out _ m2 s2 tm2 w2 hk hR2; exact hK.norm m3 s3 tm2 w2 q1 q2
  · obtain ⟨m3, s3, q1, q2⟩ := out _ m2 s2 tm2 w2 hk hR2; exact hK.exit j m3 s3 tm2 w2 q1 q2
  · obtain ⟨m3, s3, q1, q2⟩ := out _ m2 s2 tm2 w2 hk hR2; exact hK.ret m3 s3 tm2 w2 q1 q2
/-- THE LOOP: rounds as its tree tells. -/
theorem loop_ok {K0 : Par} (hG : Good K0 c.p c.E) {p : Nat} {x : Code} {sk : Sk} {fl : List (Out × Sk)} {step : List P → Tree Step}
    (hc : ∀ s, c.L p s = match sk.fit s with | some ls => some ⟨loopT step FUEL ls, fl⟩ | none => none)
    (hs : ∀ {R : Type} (ls : List P) (Kr : List P → Option R) (Kx : Nat × List P → Option R), exec c x true (2 * p) (sk.fill ls) (roundK sk fl Kr Kx) = (step ls).run fun | .inl ls' => Kr ls' | .inr y => Kx y)
    (hL : ∀ q x', (q, x') ∈ cutsOf x true (2 * p) → LOk K0 c q x') : LOk K0 c p (.loop x) := by
  intro s e he y hy R X S0 w0 D m tm w K r Q hdk hf h hK
  subst hdk
  rw [hc] at he
  split at he
  case h_2 => cases he
  rename_i ls hls
  obtain rfl := Option.some.inj he
  simp only at hy hf
  let J : Nat → Act → World → Prop := fun n a w => ∃ ls m, R0 X S0 w0 c.n m (sk.fill ls) a.tmps w ∧ a.defers = D ∧ loopT step n ls = some y
  have key : ∀ (n : Nat) (a : Act) (w : World), J n a w → ∃ k, J k a w ∧ ∀ j, J j a w → k ≤ j := by
    intro n
    induction n using Nat.strongRecOn with
    | _ n ih =>
      intro a w hj
      by_cases hx : ∃ k, k < n ∧ J k a w
      · obtain ⟨k, h1, h2⟩ := hx; exact ih k h1 a w h2
      · exact ⟨n, hj, fun j hj' => by
          rcases Nat.lt_or_ge j n with q | q
          · exact absurd ⟨j, q, hj'⟩ hx
          · exact q⟩
  let μ : Act → World → Nat := fun a w => by
    classical
    exact if hx : ∃ k, J k a w ∧ ∀ j, J j a w → k ≤ j then Classical.choose hx else 0
  have hμ : ∀ a w n, J n a w → J (μ a w) a w ∧ μ a w ≤ n := by
    intro a w n hj
    have hx := key n a w hj
    have e : μ a w = Classical.choose hx := by simp only [μ]; rw [dif_pos hx]
    have hcs := Classical.choose_spec hx
    rw [e]
    exact ⟨hcs.1, hcs.2 n hj⟩
  obtain ⟨m1, h1⟩ := fit_ok h hls
  refine wp_loop (fun a w => ∃ n, J n a w) μ ⟨FUEL, ls, m1, h1, rfl, hy⟩ ?_
  rintro ⟨tm', D'⟩ w' ⟨n, hj⟩
  obtain ⟨hj1, _⟩ := hμ _ _ n hj
  generalize hn : μ ⟨tm', D'⟩ w' = k at *
  obtain ⟨ls', m', hR, hD, hlp⟩ := hj1
  simp only at hD; subst hD
  cases k with
  | zero => simp [loopT] at hlp
  | succ k =>
    simp only [loopT] at hlp
    have hx := hs ls' (fun ls'' => loopT step k ls'') (fun y => some y)
    have hx2 : exec c x true (2 * p) (sk.fill ls') (roundK sk fl (fun ls'' => loopT step k ls'') (fun y => some y)) = some y := by
      rw [hx]
      exact hlp
    refine exec_ok hG x true (2 * p) hx2 hL hR ⟨fun m2 s2 tm2 w2 hk hR2 => ?_, fun j m2 s2 tm2 w2 hk hR2 => ?_, fun m2 s2 tm2 w2 hk hR2 => ?_⟩
    · simp only [roundK] at hk
      split at hk
      · rename_i ls2 hls2
        obtain ⟨m3, h3⟩ := fit_ok hR2 hls2
        have hJ : J k ⟨tm2, D'⟩ w2 := ⟨ls2, m3, h3, rfl, hk⟩
        exact ⟨⟨k, hJ⟩, by have := (hμ _ _ k hJ).2; omega⟩
      · cases hk
    · simp only [roundK] at hk
      obtain ⟨i, sk', ls2, g1, g2, g3⟩ := outK_flow fl 0 hk
      obtain ⟨m3, h3⟩ := fit_ok hR2 g2
      have e := Option.some.inj g3
      have hfa := flow_at fl 0 hf g1 (by rw [← e])
      rw [← e] at hfa
      exact hK.exit j m3 _ tm2 w2 hfa h3
    · simp only [roundK] at hk
      obtain ⟨i, sk', ls2, g1, g2, g3⟩ := outK_flow fl 0 hk
      obtain ⟨m3, h3⟩ := fit_ok hR2 g2
      have e := Option.some.inj g3
      have hfa := flow_at fl 0 hf g1 (by rw [← e])
      rw [← e] at hfa
      exact hK.ret m3 _ tm2 w2 hfa h3
end
end Go.Eng
end
/-! Telling a function's results. Conditions: none. -/
section
set_option linter.unusedVariables false
set_option linter.unusedSimpArgs false
namespace Go.Eng
open Go.RowKit
/-- The ranges lie within those of the boxes, each in its own. -/
inductive Cov (m : Lm) : List V → List Rng → Prop
  | nil : Cov m [] []
  | cons {x : V} {r : List V} {Q R : List Rng} : Q.length ≤ 1 → (∀ b o, inRs Q b o → inRs (rngV m x) b o) → Cov m r R → Cov m (x :: r) (Q ++ R)
theorem Cov.append {m : Lm} {a b : List V} {Q R : List Rng} (h : Cov m a Q) (g : Cov m b R) : Cov m (a ++ b) (Q ++ R) := by
  induction h with
  | nil => exact g
  | cons h1 h2 _ ih => rw [List.append_assoc]; exact .cons h1 h2 ih
theorem Cov.one {m : Lm} {x : V} {Q : List Rng} (h1 : Q.length ≤ 1) (h2 : ∀ b o, inRs Q b o → inRs (rngV m x) b o) : Cov m [x] Q := by
  have := Cov.cons h1 h2 (.nil (m := m)); simpa using this
theorem Cov.sub {m : Lm} {a : List V} {R : List Rng} (h : Cov m a R) {b o : Nat} (hr : inRs R b o) : inRs (a.flatMap (rngV m)) b o := by
  induction h with
  | nil => exact hr
  | cons h1 h2 _ ih =>
    rw [List.flatMap_cons, inRs_append]
    exact (inRs_append.1 hr).imp (h2 b o) ih
theorem Cov.dj {m : Lm} {h : Heap} (hdis : ∀ i j, i ≠ j → getBox i h ≠ none → getBox j h ≠ none → ∀ b o, (m i).has b o → ¬ (m j).has b o) {a : List V} {R : List Rng} (hc : Cov m a R) (hT : ∀ x ∈ a, Tok m h x) (hn : (a.filterMap slotV).Nodup) : Dj R := by
  induction hc with
  | nil => exact List.Pairwise.nil
  | cons h1 h2 hc ih =>
    rename_i x r Q R
    obtain ⟨⟨id, hs, hp⟩, _⟩ := hT x (by simp)
    rw [List.filterMap_cons_some hs] at hn
    obtain ⟨n1, n2⟩ := List.nodup_cons.1 hn
    refine List.pairwise_append.2 ⟨?_, ih (fun y hy => hT y (by simp [hy])) n2, ?_⟩
    · match Q, h1 with
      | [], _ => exact List.Pairwise.nil
      | [q], _ => exact List.pairwise_singleton _ _
    · intro p hp1 q hq b o g1 g2
      have k1 : (m id).has b o := by
        have := h2 b o ⟨p, hp1, g1⟩
        unfold rngV at this; rw [hs] at this
        exact (has_rng _ b o).2 this
      obtain ⟨y, hy, id', hs', k2⟩ := inRs_tb.1 (hc.sub ⟨q, hq, g2⟩)
      obtain ⟨⟨id'', z1, z2⟩, _⟩ := hT y (by simp [hy])
      rw [hs'] at z1; obtain rfl := Option.some.inj z1
      refine hdis id id' (fun e => ?_) hp z2 b o k1 k2
      subst e
      exact n1 (List.mem_filterMap.2 ⟨y, hy, hs'⟩)
theorem isDone_iff {id : Nat} : ∀ {c : List V}, isDone id c = true ↔ id ∈ c.filterMap slotV
  | [] => by simp [isDone]
  | v :: r => by
    simp only [isDone, Bool.or_eq_true, isDone_iff (c := r)]
    cases hs : slotV v with
    | none => rw [List.filterMap_cons_none hs]; simp
    | some j =>
      rw [List.filterMap_cons_some hs]
      simp only [List.mem_cons]
      rw [beq_iff]
      exact or_congr eq_comm Iff.rfl
section
variable {X : Cells} {S0 : Base} {w0 : World} {N : Nat} {m ml : Lm} {s : St} {tm : Array Value} {w : World}
/-- One value told at a return. -/
structure SerR (ml m : Lm) (w : World) (F : Cells) (h : Heap) (c c' : List V) (t : T) (R : List Rng) (new : List V) : Prop where
  app : c' = c ++ new
  cov : Cov m new R
  tok : ∀ x ∈ new, Tok m h x
  nd : (c.filterMap slotV).Nodup → (c'.filterMap slotV).Nodup
theorem nd_push {c : List V} {x : V} {id : Nat} (hs : slotV x = some id) (hd : isDone id c = false) (h : (c.filterMap slotV).Nodup) : ((c ++ [x]).filterMap slotV).Nodup := by
  rw [List.filterMap_append, List.nodup_append]
  refine ⟨h, by simp [hs], fun a ha b hb e => ?_⟩
  simp [hs] at hb
  subst hb; subst e
  rw [← isDone_iff, hd] at ha; cases ha
theorem serR_ok (h : R0 X S0 w0 N m s tm w) {lab : Nat → Nat} (hml : ∀ id, getBox id s.h ≠ none → lab id ≠ 0 → (ml (lab id)).fix = (m id).fix) :
    ∀ (n : Nat) (v : V) (c : List V) (t : T) (c' : List V) (cs : List Value), ser s.h (some lab) n true v c = some (t, c') → RelV m w (Fb X m s.h) v cs → (∀ id ∈ v.ids, getBox id s.h ≠ none) →
      ∃ R new, SerR ml m w (Fb X m s.h) s.h c c' t R new ∧ TRel ml w (Fb X m s.h) t cs R ∧ t.isAgg = v.isAgg := by
  have stay : ∀ {c : List V} {t : T}, SerR ml m w (Fb X m s.h) s.h c c t [] [] := ⟨by simp, .nil, by simp, fun h => h⟩
  intro n
  induction n with
  | zero => intro v c t c' cs hg; simp [ser] at hg
  | succ n ih =>
    intro v c t c' cs hg hv hids
    cases v with
    | u =>
      simp only [ser, Option.some.injEq, Prod.mk.injEq] at hg
      obtain ⟨rfl, rfl⟩ := hg
      exact ⟨[], [], stay, ⟨hv, rfl⟩, rfl⟩
    | nils => simp [ser] at hg
    | tup v => simp [ser] at hg
    | imm sh p =>
      simp only [ser, Option.some.injEq, Prod.mk.injEq] at hg
      obtain ⟨rfl, rfl⟩ := hg
      exact ⟨[], [], stay, ⟨hv, rfl⟩, rfl⟩
    | iptr sh p =>
      simp only [ser, Option.some.injEq, Prod.mk.injEq] at hg
      obtain ⟨rfl, rfl⟩ := hg
      exact ⟨[], [], stay, ⟨hv, rfl⟩, rfl⟩
    | emp e b =>
      simp only [ser, Option.some.injEq, Prod.mk.injEq] at hg
      obtain ⟨rfl, rfl⟩ := hg
      obtain ⟨a, rfl, rfl⟩ := hv
      exact ⟨[], [], stay, ⟨⟨a, [], 0, rfl, rfl, Nat.le_refl _, fun _ => rfl, fun i hi => absurd hi (by simp)⟩, rfl⟩, rfl⟩
    | blk id k =>
      simp only [ser] at hg
      split at hg
      · rename_i k' p hb
        have hp : getBox id s.h ≠ none := by rw [hb]; simp
        obtain ⟨b, q, h1, rfl, hq⟩ := hv
        obtain ⟨b', q', g1, hlt, g2⟩ := h.box _ _ hb
        rw [h1] at g1; injection g1 with g1 g3; subst g1; subst g3
        split at hg
        · rename_i hc
          rw [Bool.and_eq_true] at hc
          have := Bk.beq_eq hc.2; subst this
          split at hg
          · rename_i hd
            simp only [Option.some.injEq, Prod.mk.injEq] at hg
            obtain ⟨rfl, rfl⟩ := hg
            exact ⟨[], [], stay, ⟨⟨_, rfl, fun hl => by
              have := hml id hp hl; rw [h1] at this
              obtain ⟨T, hT⟩ := fix_blk this
              exact ⟨b, _, hT, by cases k <;> rfl, by cases k <;> exact hq⟩⟩, rfl⟩, rfl⟩
          · rename_i hd
            simp only [Option.some.injEq, Prod.mk.injEq] at hg
            obtain ⟨rfl, rfl⟩ := hg
            refine ⟨_, [.blk id k], ⟨rfl, Cov.one ?_ (fun b' o hh => ?_), fun x hx => ?_, nd_push rfl (by simpa using hd)⟩, ⟨b, q, rfl, fun hl => by rw [hml id hp hl, h1], hlt, g2, hq, rfl⟩, rfl⟩
            · simp [Loc.rng]
            · unfold rngV; simp only [slotV, h1]; exact hh
            · obtain rfl := List.mem_singleton.1 hx
              exact ⟨⟨id, rfl, hp⟩, fun i e' ee => by cases ee⟩
        · simp at hg
      · cases hg
    | tv id k e p =>
      simp only [ser, Option.some.injEq, Prod.mk.injEq] at hg
      obtain ⟨rfl, rfl⟩ := hg
      obtain ⟨b, q, v, _, rfl, h3, _⟩ := hv
      exact ⟨[], [], stay, ⟨h3, rfl⟩, rfl⟩
    | slf id e =>
      simp only [ser] at hg
      split at hg
      · rename_i e0 nl xs hb
        have hp : getBox id s.h ≠ none := by rw [hb]; simp
        obtain ⟨a, len, cap, h1, rfl⟩ := hv
        obtain ⟨a1, c1, g1, g2, g3, g4, g5⟩ := h.box _ _ hb
        rw [h1] at g1
        injection g1 with q1 q2 q3 q4
        subst q1; subst q2; subst q3; subst q4
        simp only [if_true] at hg
        split at hg
        · rename_i hd
          simp only [Option.some.injEq, Prod.mk.injEq] at hg
          obtain ⟨rfl, rfl⟩ := hg
          exact ⟨[], [], stay, ⟨⟨_, rfl, fun hl => ⟨a, xs.length, cap, e, fix_arr (by rw [hml id hp hl, h1]), rfl⟩⟩, rfl⟩, rfl⟩
        · rename_i hd
          simp only [Option.some.injEq, Prod.mk.injEq] at hg
          obtain ⟨rfl, rfl⟩ := hg
          refine ⟨_, [.slf id e], ⟨rfl, Cov.one ?_ (fun b o hh => ?_), fun x hx => ?_, nd_push rfl (by simpa using hd)⟩, ⟨a, cap, rfl, fun hl => fix_arr (by rw [hml id hp hl, h1]), g2, g3, g4, g5, rfl⟩, rfl⟩
          · cases a <;> simp [Loc.rng]
          · unfold rngV; simp only [slotV, h1]; exact hh
          · obtain rfl := List.mem_singleton.1 hx
            exact ⟨⟨id, rfl, hp⟩, fun i e' ee => by cases ee; exact ⟨_, _, _, h1⟩⟩
      · cases hg
    | slw id e lo k =>
      simp only [ser] at hg
      split at hg
      · rename_i e0 nl xs hb
        have hp : getBox id s.h ≠ none := by rw [hb]; simp
        obtain ⟨a1, len, cap, a', cap', h1, h2, h3, h4, rfl, h6, h7⟩ := hv
        obtain ⟨a2, c1, g1, g2, g3, g4, g5⟩ := h.box _ _ hb
        rw [h1] at g1
        injection g1 with q1 q2 q3 q4
        subst q1; subst q2; subst q3; subst q4
        simp only [if_true] at hg
        split at hg
        · rename_i hd
          simp only [Option.some.injEq, Prod.mk.injEq] at hg
          obtain ⟨rfl, rfl⟩ := hg
          exact ⟨[], [], stay, ⟨⟨_, rfl, fun hl => ⟨a1, xs.length, cap, e, a', cap', fix_arr (by rw [hml id hp hl, h1]), h2, h3, h4, rfl, h6, h7⟩⟩, rfl⟩, rfl⟩
        · rename_i hd
          simp only [Option.some.injEq, Prod.mk.injEq] at hg
          obtain ⟨rfl, rfl⟩ := hg
          have hlen : (winOf lo k xs).length = k := length_win h2
          have hnone : a' = none → cap' = 0 := fun ea => by
            have : a1 = none := by rw [ea] at h6; simpa using h6.symm
            have := g4 this; omega
          have hpl : ∀ b o, a' = some (b, o) → 0 < cap' → ∃ o1, a1 = some (b, o1) ∧ o = o1 + lo * e.size := fun b o ha hpos => by
            have := h7 hpos
            rw [ha] at this
            cases a1 with
            | none => simp at this
            | some z => obtain ⟨b1, o1⟩ := z; simp at this; obtain ⟨rfl, rfl⟩ := this; exact ⟨o1, rfl, rfl⟩
          refine ⟨(Loc.arr a' (winOf lo k xs).length cap' e).rng, [.slf id e], ⟨rfl, Cov.one ?_ (fun b o hh => ?_), fun x hx => ?_, nd_push rfl (by simpa using hd)⟩, ⟨a', cap', by rw [hlen], fun hl => absurd rfl hl, by rw [g2, h6], by rw [hlen]; exact h3, hnone, fun b o ha => ?_, rfl⟩, rfl⟩
          · cases a' <;> simp [Loc.rng]
          · unfold rngV; simp only [slotV, h1]
            rw [← has_rng] at hh ⊢
            cases a' with
            | none => exact hh.elim
            | some z =>
              obtain ⟨b', o'⟩ := z
              obtain ⟨rfl, k1, k2⟩ := hh
              have hpos : 0 < cap' := by
                rcases Nat.eq_zero_or_pos cap' with q | q
                · rw [q] at k2; simp at k2; omega
                · exact q
              obtain ⟨o1, rfl, rfl⟩ := hpl b o' rfl hpos
              refine ⟨rfl, by omega, ?_⟩
              have : (lo + cap') * e.size ≤ cap * e.size := Nat.mul_le_mul_right _ h4
              rw [Nat.add_mul] at this
              omega
          · obtain rfl := List.mem_singleton.1 hx
            exact ⟨⟨id, rfl, hp⟩, fun i e' ee => by cases ee; exact ⟨_, _, _, h1⟩⟩
          · refine ⟨fun i hi => ?_, fun j hj => ?_⟩
            · rw [hlen] at hi
              obtain ⟨o1, ha1, rfl⟩ := hpl b o ha (by omega)
              obtain ⟨cc, p1, p2⟩ := (g5 b o1 ha1).1 (lo + i) (by omega)
              refine ⟨cc, by rw [rd_win hi]; exact p1, ?_⟩
              rw [show o1 + lo * e.size + i * e.size = o1 + (lo + i) * e.size from by rw [Nat.add_mul]; omega]
              exact p2
            · have hpos : 0 < cap' := by
                rcases Nat.eq_zero_or_pos cap' with q | q
                · rw [q] at hj; simp at hj
                · exact q
              obtain ⟨o1, ha1, rfl⟩ := hpl b o ha hpos
              have hle : (lo + cap') * e.size ≤ cap * e.size := Nat.mul_le_mul_right _ h4
              rw [Nat.add_mul] at hle
              have := (g5 b o1 ha1).2 (lo * e.size + j) (by omega)
              rw [← Nat.add_assoc] at this
              exact this
      · cases hg
    | ref id path sh =>
      have hp : getBox id s.h ≠ none := hids id (by simp [V.ids])
      simp only [ser] at hg
      split at hg
      · rename_i hd
        simp only [Option.some.injEq, Prod.mk.injEq] at hg
        obtain ⟨rfl, rfl⟩ := hg
        obtain ⟨y, rfl, hy⟩ := hv
        exact ⟨[], [], stay, ⟨⟨y, rfl, fun hl => addr_fix (hml id hp hl) hy⟩, rfl⟩, rfl⟩
      · rename_i hd
        split at hg
        · rename_i sh' x hb
          split at hg
          · rename_i hbe
            have := Sh.beq_eq hbe; subst this
            split at hg
            · rename_i t1 c1 hs1
              simp only [Option.some.injEq, Prod.mk.injEq] at hg
              obtain ⟨rfl, rfl⟩ := hg
              obtain ⟨y, rfl, hy⟩ := hv
              obtain ⟨b, o, ds, g1, g2, g3, g4, g5⟩ := h.box _ _ hb
              rw [g1] at hy
              obtain ⟨off, z1, rfl⟩ := hy
              simp [shAt] at z1
              subst z1
              obtain ⟨R, new, ⟨rfl, n2, n3, n4⟩, n5, n6⟩ := ih x _ t1 c1 ds hs1 g3 (fun i hi => h.wfh id _ hb i hi)
              refine ⟨rgN b o sh.size :: R, .ref id [] sh :: new, ⟨by simp, Cov.cons (Q := [rgN b o sh.size]) (by simp) (fun b' o' hh => ?_) n2, ?_, fun hnd => n4 (nd_push rfl (by simpa using hd) hnd)⟩, ⟨b, o, ds, R, rfl, fun hl => fix_obj (by rw [hml id hp hl, g1]), n5, g4, g5, rfl⟩, rfl⟩
              · unfold rngV; simp only [slotV, g1]; exact hh
              · intro z hz
                rcases List.mem_cons.1 hz with rfl | hz
                · exact ⟨⟨id, rfl, hp⟩, fun _ _ ee => by cases ee⟩
                · exact n3 z hz
            · cases hg
          · cases hg
        · rename_i j e p hb
          split at hg
          · rename_i hbe
            have := Sh.beq_eq hbe; subst this
            simp only [Option.some.injEq, Prod.mk.injEq] at hg
            obtain ⟨rfl, rfl⟩ := hg
            obtain ⟨y, rfl, hy⟩ := hv
            obtain ⟨b, q, g1, hlt, g2⟩ := h.box _ _ hb
            rw [g1] at hy
            have hqe : q.e = e := by
              obtain ⟨n', r', off, e1, _, e2, _⟩ := hy
              simp only [List.cons.injEq] at e1
              obtain ⟨_, rfl⟩ := e1
              simp only [shAt, Option.some.injEq, Prod.mk.injEq] at e2
              exact e2.2
            refine ⟨_, [.blk id (.at e)], ⟨rfl, Cov.one ?_ (fun b' o hh => ?_), fun x hx => ?_, nd_push rfl (by simpa using hd)⟩, ⟨b, q, y, rfl, hy, fun hl => by rw [hml id hp hl, g1], hlt, g2, hqe, rfl⟩, rfl⟩
            · simp [Loc.rng]
            · unfold rngV; simp only [slotV, g1]; exact hh
            · obtain rfl := List.mem_singleton.1 hx
              exact ⟨⟨id, rfl, hp⟩, fun i e' ee => by cases ee⟩
          · cases hg
        · cases hg
    | fn f x =>
      simp only [ser] at hg
      split at hg
      · rename_i t1 c1 hs1
        simp only [Option.some.injEq, Prod.mk.injEq] at hg
        obtain ⟨rfl, rfl⟩ := hg
        obtain ⟨caps, rfl, hc⟩ := hv
        obtain ⟨R, new, ⟨n1, n2, n3, n4⟩, n5, n6⟩ := ih x c t1 c1 _ hs1 hc (fun i hi => hids i (by simpa [V.ids] using hi))
        exact ⟨R, new, ⟨n1, n2, n3, n4⟩, ⟨caps, rfl, n5⟩, rfl⟩
      · cases hg
    | pair a b =>
      simp only [ser] at hg
      split at hg
      · rename_i t1 c1 hs1
        split at hg
        · rename_i t2 c2 hs2
          simp only [Option.some.injEq, Prod.mk.injEq] at hg
          obtain ⟨rfl, rfl⟩ := hg
          obtain ⟨d1, d2, rfl, p1, p2⟩ := hv
          obtain ⟨R1, new1, ⟨rfl, n2, n3, n4⟩, n5, n6⟩ := ih a c t1 c1 d1 hs1 p1 (fun i hi => hids i (by simp [V.ids, hi]))
          obtain ⟨R2, new2, ⟨rfl, k2, k3, k4⟩, k5, k6⟩ := ih b _ t2 c2 d2 hs2 p2 (fun i hi => hids i (by simp [V.ids, hi]))
          refine ⟨R1 ++ R2, new1 ++ new2, ⟨by simp, n2.append k2, ?_, fun hn => k4 (n4 hn)⟩, trel_mk ⟨d1, d2, _, _, rfl, rfl, n5, k5⟩, isAgg_mkT _ _⟩
          intro z hz
          rcases List.mem_append.1 hz with hz | hz
          · exact n3 z hz
          · exact k3 z hz
        · cases hg
      · cases hg
theorem serRL_ok (h : R0 X S0 w0 N m s tm w) {lab : Nat → Nat} (hml : ∀ id, getBox id s.h ≠ none → lab id ≠ 0 → (ml (lab id)).fix = (m id).fix) :
    ∀ (vs : List V) (c : List V) (ts : List T) (c' : List V) (xs : List Value), serL s.h (some lab) true vs c = some (ts, c') → RelA m w (Fb X m s.h) s.h vs xs →
      ∃ R new, SerR ml m w (Fb X m s.h) s.h c c' .u R new ∧ TRelL ml w (Fb X m s.h) ts xs R ∧ ts.length = vs.length
  | [], c, ts, c', xs, hg, hA => by
    simp only [serL, Option.some.injEq, Prod.mk.injEq] at hg
    obtain ⟨rfl, rfl⟩ := hg
    cases xs with
    | nil => exact ⟨[], [], ⟨by simp, .nil, by simp, fun h => h⟩, ⟨rfl, rfl⟩, rfl⟩
    | cons _ _ => have := hA.len; simp at this
  | v :: vs, c, ts, c', xs, hg, hA => by
    cases xs with
    | nil => have := hA.len; simp at this
    | cons x xs =>
      have hr : RelA m w (Fb X m s.h) s.h vs xs := ⟨by simpa using hA.len, fun j h1 h2 => by have := hA.rel (j + 1) (by simp; omega) (by simp; omega); simpa using this, fun y hy => hA.ids y (by simp [hy])⟩
      have h0 : Rel1 m w (Fb X m s.h) v x := by have := hA.rel 0 (by simp) (by simp); simpa using this
      simp only [serL] at hg
      split at hg
      · rename_i t1 c1 hs1
        split at hg
        · rename_i ts2 c2 hs2
          simp only [Option.some.injEq, Prod.mk.injEq] at hg
          obtain ⟨rfl, rfl⟩ := hg
          have ht : ∀ y, v ≠ .tup y := fun y e => by subst e; simp [ser, deep] at hs1
          have one : ∃ R new, SerR ml m w (Fb X m s.h) s.h c c1 t1 R new ∧ TRel1 ml w (Fb X m s.h) t1 x R := by
            by_cases hu : v = .u
            · subst hu
              simp only [ser, deep, Option.some.injEq, Prod.mk.injEq] at hs1
              obtain ⟨rfl, rfl⟩ := hs1
              exact ⟨[], [], ⟨by simp, .nil, by simp, fun h => h⟩, rfl⟩
            · obtain ⟨cs, k1, k2⟩ := rel_cells0 hu ht h0
              obtain ⟨R, new, q1, q2, q3⟩ := serR_ok h hml deep v c t1 c1 cs hs1 k1 (hA.ids v (by simp))
              by_cases htu : t1 = .u
              · subst htu; exact ⟨R, new, q1, q2.2⟩
              · exact ⟨R, new, q1, trel1_of k2 q3 htu q2⟩
          obtain ⟨R1, new1, ⟨rfl, n2, n3, n4⟩, n5⟩ := one
          obtain ⟨R2, new2, ⟨rfl, k2, k3, k4⟩, k5, k6⟩ := serRL_ok h hml vs _ ts2 c2 xs hs2 hr
          refine ⟨R1 ++ R2, new1 ++ new2, ⟨by simp, n2.append k2, ?_, fun hn => k4 (n4 hn)⟩, ⟨x, xs, _, _, rfl, rfl, n5, k5⟩, by simp [k6]⟩
          intro z hz
          rcases List.mem_append.1 hz with hz | hz
          · exact n3 z hz
          · exact k3 z hz
        · cases hg
      · cases hg
end
end Go.Eng
end
/-! A function's beginning: what is told of its arguments, as the frame's state. Conditions: none. -/
section
set_option linter.unusedVariables false
set_option linter.unusedSimpArgs false
namespace Go.Eng
open Go.RowKit
section
variable {ml : Lm} {w : World} {F : Cells}
theorem tb_nil (m : Lm) (h : Heap) : Tb ml m [] h := ⟨fun l id hi => by cases l <;> simp [idAt] at hi, fun l id e hi => by simp at hi, fun l l' id hi => by cases l <;> simp [idAt] at hi⟩
structure Ini (ml : Lm) (w : World) (F : Cells) (m : Lm) (h : Heap) (n : Nat) (l1 : List Nat) (m' : Lm) (h' : Heap) (n' : Nat) (new : List Nat) (R : List Rng) : Prop where
  laid : ∃ labs, nz labs = [] ∧ Laid w F [] labs m h m' h' new R
  cnt : n' = n + l1.length
  fresh : ∀ k, n' ≤ k → getBox k h' = none
  new : ∀ id ∈ new, n ≤ id ∧ id < n'
  names : ∀ i l, l1[i]? = some l → getBox (n + i) h' ≠ none ∧ (l ≠ 0 → (ml l).fix = (m' (n + i)).fix)
theorem Ini.nil {m : Lm} {h : Heap} {n : Nat} (hf : ∀ k, n ≤ k → getBox k h = none) : Ini ml w F m h n [] m h n [] [] :=
  ⟨⟨[], rfl, Laid.nil m h⟩, rfl, hf, by simp, by simp⟩
theorem Ini.trans {m m1 m2 : Lm} {h h1 h2 : Heap} {n n1 n2 : Nat} {l1 l2 new1 new2 : List Nat} {R1 R2 : List Rng} (a : Ini ml w F m h n l1 m1 h1 n1 new1 R1) (b : Ini ml w F m1 h1 n1 l2 m2 h2 n2 new2 R2) :
    Ini ml w F m h n (l1 ++ l2) m2 h2 n2 (new1 ++ new2) (R1 ++ R2) := by
  obtain ⟨la, za, La⟩ := a.laid
  obtain ⟨lb, zb, Lb⟩ := b.laid
  refine ⟨⟨la ++ lb, by rw [nz_append, za, zb]; rfl, La.trans (tb_nil (ml := ml) m h) (by rw [nz_append, za, zb]; exact List.Pairwise.nil) Lb⟩, ?_, b.fresh, ?_, ?_⟩
  · have := a.cnt; have := b.cnt; simp only [List.length_append]; omega
  · intro id hi
    have := a.cnt; have := b.cnt
    rcases List.mem_append.1 hi with hi | hi
    · have := a.new id hi; omega
    · have := b.new id hi; omega
  · intro i l hi
    rcases Nat.lt_or_ge i l1.length with q | q
    · rw [List.getElem?_append_left q] at hi
      obtain ⟨p1, p2⟩ := a.names i l hi
      obtain ⟨e1, e2⟩ := Lb.ext _ p1
      exact ⟨e2, fun h0 => (p2 h0).trans e1.symm⟩
    · rw [List.getElem?_append_right q] at hi
      have := b.names _ l hi
      rw [a.cnt, show n + l1.length + (i - l1.length) = n + i from by omega] at this
      exact this
theorem Ini.one {m : Lm} {h : Heap} {n l : Nat} {bx : Box} {lc : Loc} (hf : ∀ k, n ≤ k → getBox k h = none) (hids : ∀ j ∈ bx.ids, getBox j h ≠ none) (hnt : bx.ntv = true) (hr : BRel (updL m n lc) w F n bx) (hl : l ≠ 0 → (ml l).fix = lc.fix) :
    Ini ml w F m h n [l] (updL m n lc) ((n, bx) :: h) (n + 1) [n] lc.rng := by
  refine ⟨⟨[0], rfl, laid_new (hf n (Nat.le_refl _)) hids hnt hr⟩, rfl, fun k hk => ?_, fun id hi => ?_, fun i l' hi => ?_⟩
  · rw [getBox_cons, if_neg (by omega)]; exact hf k (by omega)
  · obtain rfl := List.mem_singleton.1 hi; omega
  · cases i with
    | zero =>
      simp at hi; subst hi
      exact ⟨by rw [getBox_cons]; simp, fun h0 => by rw [hl h0]; simp [updL_same]⟩
    | succ i => simp at hi
theorem ini_ntv : ∀ (a : A) {ps ps' : List P} {n n' : Nat} {h h' : Heap} {v : V}, a.ini ps n h = some (v, ps', n', h') → v.ntv = true := by
  intro a
  induction a with
  | imm s => intro ps ps' n n' h h' v hi; cases ps <;> simp only [A.ini, reduceCtorEq, Option.some.injEq, Prod.mk.injEq] at hi; obtain ⟨rfl, _⟩ := hi; rfl
  | iptr s => intro ps ps' n n' h h' v hi; cases ps <;> simp only [A.ini, reduceCtorEq, Option.some.injEq, Prod.mk.injEq] at hi; obtain ⟨rfl, _⟩ := hi; rfl
  | own e => intro ps ps' n n' h h' v hi; cases ps <;> simp only [A.ini, reduceCtorEq, Option.some.injEq, Prod.mk.injEq] at hi; obtain ⟨rfl, _⟩ := hi; rfl
  | blk k => intro ps ps' n n' h h' v hi; cases ps <;> simp only [A.ini, reduceCtorEq, Option.some.injEq, Prod.mk.injEq] at hi; obtain ⟨rfl, _⟩ := hi; rfl
  | pel e =>
    intro ps ps' n n' h h' v hi
    rcases ps with _ | ⟨p, _ | ⟨q, ps⟩⟩ <;> simp only [A.ini, reduceCtorEq, Option.some.injEq, Prod.mk.injEq] at hi
    obtain ⟨rfl, _⟩ := hi; rfl
  | box s a ih =>
    intro ps ps' n n' h h' v hi
    simp only [A.ini] at hi
    split at hi
    · split at hi
      · simp only [Option.some.injEq, Prod.mk.injEq] at hi; obtain ⟨rfl, _⟩ := hi; rfl
      · cases hi
    · cases hi
  | fn f a ih =>
    intro ps ps' n n' h h' v hi
    simp only [A.ini] at hi
    split at hi
    · rename_i v1 _ _ _ hi1
      simp only [Option.some.injEq, Prod.mk.injEq] at hi; obtain ⟨rfl, _⟩ := hi; exact (ih hi1 : _)
    · cases hi
  | pair a b iha ihb =>
    intro ps ps' n n' h h' v hi
    simp only [A.ini] at hi
    split at hi
    · rename_i v1 _ _ _ hi1
      split at hi
      · rename_i v2 _ _ _ hi2
        simp only [Option.some.injEq, Prod.mk.injEq] at hi; obtain ⟨rfl, _⟩ := hi
        unfold V.mkPair; split
        · rfl
        · simp [V.ntv, iha hi1, ihb hi2]
      · cases hi
    · cases hi
theorem iniL_ntv : ∀ (as : List A) {ps ps' : List P} {n n' : Nat} {h h' : Heap} {vs : List V}, iniL as ps n h = some (vs, ps', n', h') → ∀ v ∈ vs, v.ntv = true
  | [], ps, ps', n, n', h, h', vs, hi, v, hv => by simp only [iniL, Option.some.injEq, Prod.mk.injEq] at hi; obtain ⟨rfl, _⟩ := hi; cases hv
  | a :: r, ps, ps', n, n', h, h', vs, hi, v, hv => by
    simp only [iniL] at hi
    split at hi
    · rename_i v1 _ _ _ hi1
      split at hi
      · rename_i vs2 _ _ _ hi2
        simp only [Option.some.injEq, Prod.mk.injEq] at hi; obtain ⟨rfl, _⟩ := hi
        rcases List.mem_cons.1 hv with rfl | hv
        · exact ini_ntv _ hi1
        · exact iniL_ntv r hi2 v hv
      · cases hi
    · cases hi
theorem ini_ok : ∀ (a : A) {t : T} {p1 rest ps' : List P} {l1 : List Nat} {n n' : Nat} {h h' : Heap} {v : V} {cs : List Value} {R : List Rng} {m : Lm}, a.fit t = some (p1, l1) → a.ini (p1 ++ rest) n h = some (v, ps', n', h') → TRel ml w F t cs R →
    (∀ k, n ≤ k → getBox k h = none) → ps' = rest ∧ ∃ m' new, Ini ml w F m h n l1 m' h' n' new R ∧ RelV m' w F v cs ∧ v.isAgg = t.isAgg ∧ (∀ id ∈ v.ids, n ≤ id ∧ getBox id h' ≠ none) ∧ ∀ y, v ≠ .tup y := by
  intro a
  induction a with
  | imm s =>
    intro t p1 rest ps' l1 n n' h h' v cs R m hf hi hr hfr
    cases t <;> simp only [A.fit] at hf <;> try cases hf
    rename_i s' p
    split at hf
    · rename_i hb
      have := Sh.beq_eq hb; subst this
      simp only [Option.some.injEq, Prod.mk.injEq] at hf
      obtain ⟨rfl, rfl⟩ := hf
      simp only [List.cons_append, List.nil_append, A.ini, Option.some.injEq, Prod.mk.injEq] at hi
      obtain ⟨rfl, rfl, rfl, rfl⟩ := hi
      obtain ⟨hr, rfl⟩ := hr
      exact ⟨rfl, m, [], Ini.nil hfr, hr, rfl, by simp [V.ids], by simp⟩
    · cases hf
  | iptr s =>
    intro t p1 rest ps' l1 n n' h h' v cs R m hf hi hr hfr
    cases t <;> simp only [A.fit] at hf <;> try cases hf
    rename_i s' p
    split at hf
    · rename_i hb
      have := Sh.beq_eq hb; subst this
      simp only [Option.some.injEq, Prod.mk.injEq] at hf
      obtain ⟨rfl, rfl⟩ := hf
      simp only [List.cons_append, List.nil_append, A.ini, Option.some.injEq, Prod.mk.injEq] at hi
      obtain ⟨rfl, rfl, rfl, rfl⟩ := hi
      obtain ⟨hr, rfl⟩ := hr
      exact ⟨rfl, m, [], Ini.nil hfr, hr, rfl, by simp [V.ids], by simp⟩
    · cases hf
  | blk k =>
    intro t p1 rest ps' l1 n n' h h' v cs R m hf hi hr hfr
    cases t <;> simp only [A.fit] at hf <;> try cases hf
    rename_i l k' p
    split at hf
    · rename_i hb
      have := Bk.beq_eq hb; subst this
      simp only [Option.some.injEq, Prod.mk.injEq] at hf
      obtain ⟨rfl, rfl⟩ := hf
      simp only [List.cons_append, List.nil_append, A.ini, Option.some.injEq, Prod.mk.injEq] at hi
      obtain ⟨rfl, rfl, rfl, rfl⟩ := hi
      obtain ⟨bb, q, rfl, h2, hlt, h3, hq, rfl⟩ := hr
      refine ⟨rfl, updL m n (.blk bb q), [n], Ini.one hfr (by simp [Box.ids]) rfl ⟨bb, q, updL_same _ _ _, hlt, h3⟩ h2, ⟨bb, q, updL_same _ _ _, rfl, hq⟩, rfl, ?_, by simp⟩
      intro id hid; simp [V.ids] at hid; subst hid; exact ⟨Nat.le_refl _, by rw [getBox_cons]; simp⟩
    · cases hf
  | pel e =>
    intro t p1 rest ps' l1 n n' h h' v cs R m hf hi hr hfr
    cases t <;> simp only [A.fit] at hf <;> try cases hf
    rename_i l e' j p
    split at hf
    · rename_i hb
      have := Sh.beq_eq hb; subst this
      simp only [Option.some.injEq, Prod.mk.injEq] at hf
      obtain ⟨rfl, rfl⟩ := hf
      simp only [List.cons_append, List.nil_append, A.ini, Option.some.injEq, Prod.mk.injEq] at hi
      obtain ⟨rfl, rfl, rfl, rfl⟩ := hi
      obtain ⟨bb, q, y, rfl, hy, h2, hlt, h3, hq, rfl⟩ := hr
      refine ⟨rfl, updL m n (.blk bb q), [n], Ini.one hfr (by simp [Box.ids]) rfl ⟨bb, q, updL_same _ _ _, hlt, h3⟩ h2, ⟨y, rfl, by rw [updL_same]; exact hy⟩, rfl, ?_, by simp⟩
      intro id hid; simp [V.ids] at hid; subst hid; exact ⟨Nat.le_refl _, by rw [getBox_cons]; simp⟩
    · cases hf
  | own e =>
    intro t p1 rest ps' l1 n n' h h' v cs R m hf hi hr hfr
    unfold A.fit at hf
    split at hf
    all_goals first | (rename_i hx; cases hx; done) | skip
    all_goals try (cases hf; done)
    · rename_i e0 l e' nl xs hx
      cases hx
      split at hf
      · rename_i hb
        have := Sh.beq_eq hb; subst this
        simp only [Option.some.injEq, Prod.mk.injEq] at hf
        obtain ⟨rfl, rfl⟩ := hf
        simp only [List.cons_append, List.nil_append, A.ini, Option.some.injEq, Prod.mk.injEq] at hi
        obtain ⟨rfl, rfl, rfl, rfl⟩ := hi
        obtain ⟨a, cap, rfl, h2, h3, h4, h5, h6, rfl⟩ := hr
        refine ⟨rfl, updL m n (.arr a xs.length cap e), [n], Ini.one hfr (by simp [Box.ids]) rfl ⟨a, cap, updL_same _ _ _, h3, h4, h5, h6⟩ (fun h0 => by rw [h2 h0]), ⟨_, _, _, updL_same _ _ _, rfl⟩, rfl, ?_, by simp⟩
        intro id hid; simp [V.ids] at hid; subst hid; exact ⟨Nat.le_refl _, by rw [getBox_cons]; simp⟩
      · cases hf
    · rename_i e0 e' hx
      cases hx
      split at hf
      · rename_i hb
        have := Sh.beq_eq hb; subst this
        simp only [Option.some.injEq, Prod.mk.injEq] at hf
        obtain ⟨rfl, rfl⟩ := hf
        simp only [List.cons_append, List.nil_append, A.ini, Option.some.injEq, Prod.mk.injEq] at hi
        obtain ⟨rfl, rfl, rfl, rfl⟩ := hi
        obtain ⟨⟨a0, xs, cap, q1, rfl, q3, q4, q5⟩, rfl⟩ := hr
        injection q1 with z1 z2
        subst z2
        cases a0 with
        | some _ => simp at z1
        | none =>
          have hc := q4 rfl; subst hc
          refine ⟨rfl, updL m n (.arr none 0 0 e), [n], Ini.one hfr (by simp [Box.ids]) rfl ⟨none, 0, updL_same _ _ _, rfl, Nat.le_refl _, fun _ => rfl, fun b o hh => by cases hh⟩ (fun h0 => absurd rfl h0), ⟨_, _, _, updL_same _ _ _, rfl⟩, rfl, ?_, by simp⟩
          intro id hid; simp [V.ids] at hid; subst hid; exact ⟨Nat.le_refl _, by rw [getBox_cons]; simp⟩
      · cases hf
  | box s a ih =>
    intro t p1 rest ps' l1 n n' h h' v cs R m hf hi hr hfr
    cases t <;> simp only [A.fit] at hf <;> try cases hf
    rename_i l s' x
    split at hf
    · rename_i hb
      have := Sh.beq_eq hb; subst this
      split at hf
      · rename_i q1 k1 hf1
        simp only [Option.some.injEq, Prod.mk.injEq] at hf
        obtain ⟨rfl, rfl⟩ := hf
        simp only [A.ini] at hi
        split at hi
        · rename_i v1 r1 n1 h1 hi1
          split at hi
          · rename_i hfit
            simp only [Option.some.injEq, Prod.mk.injEq] at hi
            obtain ⟨rfl, rfl, rfl, rfl⟩ := hi
            obtain ⟨b, o, ds, Q, rfl, g2, g3, g4, g5, rfl⟩ := hr
            obtain ⟨rfl, m1, new1, I, j2, j3, j4, j5⟩ := ih (m := m) hf1 hi1 g3 (fun k hk => hfr k (by omega))
            have hnn : getBox n h1 = none := by
              obtain ⟨_, _, L⟩ := I.laid
              rw [L.rest n (fun hm => by have := (I.new n hm).1; omega)]
              exact hfr n (Nat.le_refl _)
            have hne : ∀ j ∈ v1.ids, j ≠ n := fun j hj e => (j4 j hj).2 (e ▸ hnn)
            have hn1 := I.cnt
            refine ⟨rfl, updL m1 n (.obj b o s), new1 ++ [n], ?_, ⟨_, rfl, ?_⟩, rfl, ?_, by simp⟩
            · obtain ⟨la, za, La⟩ := I.laid
              have Lb : Laid w F [] [0] m1 h1 (updL m1 n (.obj b o s)) ((n, .obj s v1) :: h1) [n] [rgN b o s.size] :=
                laid_new (l := .obj b o s) hnn (fun j hj => (j4 j hj).2) (ini_ntv _ hi1) ⟨b, o, ds, updL_same _ _ _, hfit, j2.maps _ _ (fun j hj => updL_other _ _ (hne j hj)), g4, g5⟩
              have Lt := La.trans (tb_nil (ml := ml) m h) (by rw [nz_append, za]; exact List.Pairwise.nil) Lb
              refine ⟨⟨la ++ [0], by rw [nz_append, za]; rfl, Lt.cast (fun _ => Iff.rfl) (List.perm_append_comm (l₁ := Q) (l₂ := [rgN b o s.size]))⟩, ?_, ?_, ?_, ?_⟩
              · simp only [List.length_cons]; omega
              · intro k hk; rw [getBox_cons, if_neg (by omega)]; exact I.fresh k hk
              · intro id hid
                rcases List.mem_append.1 hid with hid | hid
                · have := I.new id hid; omega
                · obtain rfl := List.mem_singleton.1 hid; omega
              · intro i l' hl'
                cases i with
                | zero =>
                  simp at hl'; subst hl'
                  exact ⟨by rw [getBox_cons]; simp, fun h0 => by rw [g2 h0]; simp [updL_same]⟩
                | succ i =>
                  simp at hl'
                  obtain ⟨p1, p2⟩ := I.names i l' hl'
                  rw [show n + (i + 1) = n + 1 + i from by omega]
                  have hni : n + 1 + i ≠ n := by omega
                  exact ⟨by rw [getBox_cons, if_neg (Ne.symm hni)]; exact p1, fun h0 => by rw [updL_other _ _ hni]; exact p2 h0⟩
            · rw [updL_same]; exact ⟨0, by simp [shAt], rfl⟩
            · intro id hid; simp [V.ids] at hid; subst hid; exact ⟨Nat.le_refl _, by rw [getBox_cons]; simp⟩
          · cases hi
        · cases hi
      · cases hf
    · cases hf
  | fn f a ih =>
    intro t p1 rest ps' l1 n n' h h' v cs R m hf hi hr hfr
    cases t <;> simp only [A.fit] at hf <;> try cases hf
    rename_i g x
    split at hf
    · rename_i hb
      have := beq_iff.1 hb; subst this
      simp only [A.ini] at hi
      split at hi
      · rename_i v1 r1 n1 h1 hi1
        simp only [Option.some.injEq, Prod.mk.injEq] at hi
        obtain ⟨rfl, rfl, rfl, rfl⟩ := hi
        obtain ⟨caps, rfl, hr⟩ := hr
        obtain ⟨rfl, m1, new1, I, j2, j3, j4, j5⟩ := ih (m := m) hf hi1 hr hfr
        exact ⟨rfl, m1, new1, I, ⟨caps, rfl, j2⟩, rfl, fun id hid => j4 id (by simpa [V.ids] using hid), by simp⟩
      · cases hi
    · cases hf
  | pair a b iha ihb =>
    intro t p1 rest ps' l1 n n' h h' v cs R m hf hi hr hfr
    have key : ∀ {x y : T} {q1 q2 : List P} {k1 k2 : List Nat}, a.fit x = some (q1, k1) → b.fit y = some (q2, k2) → p1 = q1 ++ q2 → l1 = k1 ++ k2 → TRel ml w F (.pair x y) cs R → t.isAgg = true →
        ps' = rest ∧ ∃ m' new, Ini ml w F m h n l1 m' h' n' new R ∧ RelV m' w F v cs ∧ v.isAgg = t.isAgg ∧ (∀ id ∈ v.ids, n ≤ id ∧ getBox id h' ≠ none) ∧ ∀ y, v ≠ .tup y := by
      intro x y q1 q2 k1 k2 hf1 hf2 e1 e2 hr ha
      subst e1; subst e2
      rw [List.append_assoc] at hi
      simp only [A.ini] at hi
      split at hi
      · rename_i v1 r1 n1 h1 hi1
        split at hi
        · rename_i v2 r2 n2 h2 hi2
          simp only [Option.some.injEq, Prod.mk.injEq] at hi
          obtain ⟨rfl, rfl, rfl, rfl⟩ := hi
          obtain ⟨c1, c2, Q, S, rfl, rfl, g1, g2⟩ := hr
          obtain ⟨rfl, m1, new1, I1, j2, j3, j4, j5⟩ := iha (m := m) hf1 hi1 g1 hfr
          obtain ⟨rfl, m2, new2, I2, i2, i3, i4, i5⟩ := ihb (m := m1) hf2 hi2 g2 I1.fresh
          obtain ⟨_, _, L2⟩ := I2.laid
          have hn1 := I1.cnt
          refine ⟨rfl, m2, new1 ++ new2, I1.trans I2, RelV.pair_mk.2 ⟨c1, c2, rfl, j2.fixs _ _ (fun j hj => (L2.ext j (j4 j hj).2).1) (ini_ntv _ hi1), i2⟩, by rw [isAgg_mk, ha], ?_, ?_⟩
          · intro id hid
            rw [ids_mk, List.mem_append] at hid
            rcases hid with hid | hid
            · exact ⟨(j4 id hid).1, (L2.ext id (j4 id hid).2).2⟩
            · have := i4 id hid; exact ⟨by omega, this.2⟩
          · intro y; unfold V.mkPair; split <;> simp
        · cases hi
      · cases hi
    unfold A.fit at hf
    split at hf
    all_goals first | (rename_i hx; cases hx; done) | skip
    all_goals try (cases hf; done)
    · rename_i a0 b0 x y hx
      cases hx
      split at hf
      · rename_i q1 k1 q2 k2 hf1 hf2
        simp only [Option.some.injEq, Prod.mk.injEq] at hf
        exact key hf1 hf2 hf.1.symm hf.2.symm hr rfl
      · cases hf
    · rename_i a0 b0 s1 s2 p hx
      cases hx
      split at hf
      · rename_i q1 k1 q2 k2 hf1 hf2
        simp only [Option.some.injEq, Prod.mk.injEq] at hf
        refine key hf1 hf2 hf.1.symm hf.2.symm ?_ rfl
        obtain ⟨⟨x, y, c1, c2, rfl, rfl, g1, g2⟩, rfl⟩ := hr
        exact ⟨c1, c2, [], [], rfl, rfl, ⟨g1, rfl⟩, ⟨g2, rfl⟩⟩
      · cases hf
end
end Go.Eng
end
/-! Functions: the model carries out what the interpreter tells. Conditions: none. -/
section
set_option linter.unusedVariables false
set_option linter.unusedSimpArgs false
namespace Go.Eng
open Go.RowKit
section
variable {ml : Lm} {w : World} {F : Cells}
theorem iniL_ok : ∀ (as : List A) {ts : List T} {p1 rest ps' : List P} {l1 : List Nat} {n n' : Nat} {h h' : Heap} {vs : List V} {xs : List Value} {R : List Rng} {m : Lm}, fitL as ts = some (p1, l1) → iniL as (p1 ++ rest) n h = some (vs, ps', n', h') → TRelL ml w F ts xs R →
    (∀ k, n ≤ k → getBox k h = none) → ps' = rest ∧ ∃ m' new, Ini ml w F m h n l1 m' h' n' new R ∧ RelA m' w F h' vs xs ∧ ∀ v ∈ vs, ∀ id ∈ v.ids, n ≤ id
  | [], ts, p1, rest, ps', l1, n, n', h, h', vs, xs, R, m, hf, hi, hr, hfr => by
    cases ts with
    | cons _ _ => simp [fitL] at hf
    | nil =>
      simp only [fitL, Option.some.injEq, Prod.mk.injEq] at hf
      obtain ⟨rfl, rfl⟩ := hf
      simp only [List.nil_append, iniL, Option.some.injEq, Prod.mk.injEq] at hi
      obtain ⟨rfl, rfl, rfl, rfl⟩ := hi
      obtain ⟨rfl, rfl⟩ := hr
      exact ⟨rfl, m, [], Ini.nil hfr, ⟨rfl, fun j h1 => by simp at h1, by simp⟩, by simp⟩
  | a :: as, ts, p1, rest, ps', l1, n, n', h, h', vs, xs, R, m, hf, hi, hr, hfr => by
    cases ts with
    | nil => simp [fitL] at hf
    | cons t ts =>
      simp only [fitL] at hf
      split at hf
      · rename_i q1 k1 q2 k2 hf1 hf2
        simp only [Option.some.injEq, Prod.mk.injEq] at hf
        obtain ⟨rfl, rfl⟩ := hf
        rw [List.append_assoc] at hi
        simp only [iniL] at hi
        split at hi
        · rename_i v1 r1 n1 h1 hi1
          split at hi
          · rename_i v2 r2 n2 h2 hi2
            simp only [Option.some.injEq, Prod.mk.injEq] at hi
            obtain ⟨rfl, rfl, rfl, rfl⟩ := hi
            obtain ⟨x, q, Q, S, rfl, rfl, g1, g2⟩ := hr
            have hnu : t ≠ .u := fun e => by subst e; cases a <;> simp [A.fit] at hf1
            obtain ⟨cs, c1, c2⟩ := trel1_cells hnu g1
            obtain ⟨rfl, m1, new1, I1, j2, j3, j4, j5⟩ := ini_ok a (m := m) hf1 hi1 c1 hfr
            obtain ⟨rfl, m2, new2, I2, i2, i3⟩ := iniL_ok as (m := m1) hf2 hi2 g2 I1.fresh
            obtain ⟨_, _, L2⟩ := I2.laid
            have hn1 := I1.cnt
            refine ⟨rfl, m2, new1 ++ new2, I1.trans I2, ⟨by simp [i2.len], fun j p1 p2 => ?_, fun y hy id hid => ?_⟩, fun y hy id hid => ?_⟩
            · cases j with
              | zero =>
                simp only [List.getElem_cons_zero]
                rw [rel1_def j5]
                exact RelS.fixs (fun i hi => (L2.ext i (j4 i hi).2).1) (ini_ntv _ hi1) (relS_val (by rw [j3]; exact c2) j2)
              | succ j => simpa using i2.rel j (by simpa using p1) (by simpa using p2)
            · rcases List.mem_cons.1 hy with rfl | hy
              · exact (L2.ext id (j4 id hid).2).2
              · exact i2.ids y hy id hid
            · rcases List.mem_cons.1 hy with rfl | hy
              · exact (j4 id hid).1
              · have := i3 y hy id hid; omega
          · cases hi
        · cases hi
      · cases hf
theorem tmp_putAll : ∀ (vs : List V) (i : Nat) (tr : Tr) (j : Nat), i + vs.length ≤ 1024 →
    (St.mk (putAll i vs tr) [] []).tmp j = if i ≤ j ∧ j < i + vs.length then vs.getD (j - i) .u else (St.mk tr [] []).tmp j
  | [], i, tr, j, h => by rw [if_neg (by simp)]; rfl
  | v :: r, i, tr, j, h => by
    simp only [List.length_cons] at h
    simp only [putAll]
    rw [tmp_putAll r (i + 1) _ j (by omega)]
    have e : (St.mk (tr.put dep i v) [] []).tmp j = if j = i then v else (St.mk tr [] []).tmp j := St.tmp_put ⟨tr, [], []⟩ i j v (by omega)
    simp only [List.length_cons]
    by_cases hj : j = i
    · subst hj
      rw [if_neg (by omega), if_pos (by omega), e, if_pos rfl]; simp
    · by_cases h1 : i + 1 ≤ j ∧ j < i + 1 + r.length
      · rw [if_pos h1, if_pos (by omega), show j - i = (j - (i + 1)) + 1 from by omega]; simp
      · rw [if_neg h1, if_neg (by omega), e, if_neg hj]
end
section
variable {R : Type} {X : Cells} {S0 : Base} {w0 : World} {c : Cx} {m ml : Lm} {s : St} {tm : Array Value} {w : World}
theorem allSome_cons {o : Option V} {r : List (Option V)} {l : List V} (h : allSome (o :: r) = some l) : ∃ v l', o = some v ∧ allSome r = some l' ∧ l = v :: l' := by
  cases o with
  | none => simp [allSome] at h
  | some v =>
    simp only [allSome] at h
    split at h
    · rename_i l' hl; exact ⟨v, l', rfl, hl, (Option.some.inj h).symm⟩
    · cases h
abbrev resM (tm : Array Value) : ResultVar → Sem Value := fun
    | .tmp t => pure (tm.getD t undef)
    | .cell a t => do loadVar t (← asAddr (tm.getD a undef))
theorem resM_ok (h : R0 X S0 w0 c.n m s tm w) : ∀ (l : List ResultVar) {rs : List V}, allSome (l.map (resV c s)) = some rs → ∃ xs, (l.mapM (resM tm)).run c.p w = .ok xs w ∧ RelA m w (Fb X m s.h) s.h rs xs
  | [], rs, hg => by
    simp only [List.map_nil, allSome, Option.some.injEq] at hg
    subst hg
    exact ⟨[], by simp, ⟨rfl, fun j h1 => by simp at h1, by simp⟩⟩
  | rv :: l, rs, hg => by
    rw [List.map_cons] at hg
    obtain ⟨v, rs', hv, hrs, rfl⟩ := allSome_cons hg
    obtain ⟨xs, g1, g2⟩ := resM_ok h l hrs
    have one : ∃ x, (resM tm rv).run c.p w = .ok x w ∧ Rel1 m w (Fb X m s.h) v x ∧ ∀ id ∈ v.ids, getBox id s.h ≠ none := by
      cases rv with
      | tmp t =>
        simp only [resV, Option.some.injEq] at hv
        subst hv
        exact ⟨tm.getD t undef, by simp [resM], h.tmps t, h.wft t⟩
      | cell a t =>
        simp only [resV] at hv
        split at hv
        · rename_i id sh ht
          split at hv
          · rename_i hc
            have hx := h.tmps a
            rw [ht] at hx
            have hsh := sh_is (oIs_eq hc)
            obtain ⟨b, o', cs, hvv, h1, h2, h3, h4, h5, _⟩ := getRef_ok h (rel_ref.1 hx) hv
            obtain ⟨y, hy1, hy2⟩ := run_load_cells hsh h1 (fun j v hv => (h4 j v hv).1)
            exact ⟨y, by simp [resM, hvv, asAddr, hy1], cells_rel h2 hy2 h3, h5⟩
          · cases hv
        · cases hv
    obtain ⟨x, k1, k2, k3⟩ := one
    refine ⟨x :: xs, by simp [List.mapM_cons, k1, g1], ⟨by simp [g2.len], fun j h1 h2 => ?_, fun y hy => ?_⟩⟩
    · cases j with
      | zero => simpa using k2
      | succ j => simpa using g2.rel j (by simpa using h1) (by simpa using h2)
    · rcases List.mem_cons.1 hy with rfl | hy
      · exact k3
      · exact g2.ids y hy
theorem results_ok (h : R0 X S0 w0 c.n m s tm w) {fn : Func} {rs : List V} (hg : allSome (fn.results.toList.map (resV c s)) = some rs) :
    ∃ xs, (results fn tm).run c.p w = .ok (retV xs) w ∧ RelA m w (Fb X m s.h) s.h rs xs := by
  obtain ⟨xs, g1, g2⟩ := resM_ok h _ hg
  refine ⟨xs, ?_, g2⟩
  have e : (fn.results.mapM (resM tm)).run c.p w = .ok xs.toArray w := by
    rw [Array.mapM_eq_mapM_toList]
    simp [g1]
  have e2 : (results fn tm).run c.p w = ((fn.results.mapM (resM tm)).run c.p w).andThen fun vs w => (pure (if h : vs.size = 1 then vs[0] else .tuple vs) : Sem Value).run c.p w := by
    unfold results
    rw [Sem.run_bind]
    rfl
  rw [e2, e]
  simp only [Result.andThen_ok]
  match xs with
  | [] => rfl
  | [x] => rfl
  | x :: y :: q => simp [retV]
end
end Go.Eng
end
/-! Functions: the contract of what the interpreter tells. Conditions: none. -/
section
set_option linter.unusedVariables false
set_option linter.unusedSimpArgs false
namespace Go.Eng
open Go.RowKit
theorem live_ids (h : Heap) : ∀ (v : V), ∀ i ∈ (V.map (liveLeaf h) v).ids, i ∈ v.ids ∧ getBox i h ≠ none := by
  intro v
  induction v with
  | ref j p s =>
    intro i hi
    simp only [V.map, liveLeaf] at hi
    split at hi
    · rename_i hg; simp [V.ids] at hi ⊢; subst hi; exact ⟨rfl, by rw [hg]; simp⟩
    · cases hi
  | slf j t =>
    intro i hi
    simp only [V.map, liveLeaf] at hi
    split at hi
    · rename_i hg; simp [V.ids] at hi ⊢; subst hi; exact ⟨rfl, by rw [hg]; simp⟩
    · cases hi
  | slw j t l n =>
    intro i hi
    simp only [V.map, liveLeaf] at hi
    split at hi
    · rename_i hg; simp [V.ids] at hi ⊢; subst hi; exact ⟨rfl, by rw [hg]; simp⟩
    · cases hi
  | blk j t =>
    intro i hi
    simp only [V.map, liveLeaf] at hi
    split at hi
    · rename_i hg; simp [V.ids] at hi ⊢; subst hi; exact ⟨rfl, by rw [hg]; simp⟩
    · cases hi
  | tv j n e p =>
    intro i hi
    simp only [V.map, liveLeaf] at hi
    split at hi
    · rename_i hg; simp [V.ids] at hi ⊢; subst hi; exact ⟨rfl, by rw [hg]; simp⟩
    · cases hi
  | fn g c ih => intro i hi; exact ih i hi
  | pair a b iha ihb =>
    intro i hi
    simp only [V.map, V.ids, List.mem_append] at hi ⊢
    rcases hi with e | e
    · exact ⟨.inl (iha i e).1, (iha i e).2⟩
    · exact ⟨.inr (ihb i e).1, (ihb i e).2⟩
  | tup v ih => intro i hi; exact ih i hi
  | _ => intro i hi; simp [V.map, liveLeaf, V.ids] at hi
theorem live_ok {m : Lm} {w : World} {F : Cells} (h : Heap) : LeafOk m w F F (liveLeaf h) where
  u := rfl
  rel := by
    intro v cs hv
    cases v <;> simp only [liveLeaf] <;> try exact hv
    case ref j p s => split <;> first | exact hv | (obtain ⟨v, hv, _⟩ := hv; exact ⟨v, hv⟩)
    case slf j t => split <;> first | exact hv | (obtain ⟨a, l, c, _, hv⟩ := hv; exact ⟨_, hv⟩)
    case blk j t => split <;> first | exact hv | (obtain ⟨b, q, _, hv, _⟩ := hv; exact ⟨_, hv⟩)
    case tv j n e p => split <;> first | exact hv | (obtain ⟨b, q, v, _, rfl, h3, _⟩ := hv; exact h3)
    case slw j t l n => split <;> first | exact hv | (obtain ⟨a, l, c, a', c', _, _, _, _, hv, _⟩ := hv; exact ⟨_, hv⟩)
  agg := by intro v; cases v <;> simp only [liveLeaf] <;> try rfl
            all_goals (split <;> rfl)
theorem live_ntv {h : Heap} : ∀ (v : V), v.ntv = true → (V.map (liveLeaf h) v).ntv = true := by
  intro v
  induction v with
  | fn f c ih => exact ih
  | pair a b iha ihb => intro hn; simp only [V.ntv, Bool.and_eq_true] at hn; simp [V.map, V.ntv, iha hn.1, ihb hn.2]
  | tup v ih => exact ih
  | tv j n e p => intro hn; cases hn
  | _ => intro hn; simp only [V.map, liveLeaf] <;> first | rfl | (split <;> rfl)
theorem live_tup (h : Heap) (v y : V) (hv : liveLeaf h v = .tup y) : v = .tup y := by
  cases v <;> simp only [liveLeaf] at hv <;> first | exact hv | (split at hv <;> cases hv) | cases hv
theorem labOf_ne {ls : List Nat} {id : Nat} (h : labOf ls id ≠ 0) : ∃ i l, id = 2001 + i ∧ ls[i]? = some l ∧ labOf ls id = l := by
  unfold labOf at h ⊢
  split at h
  · rename_i hle
    have hle : 2001 ≤ id := Nat.le_of_ble_eq_true hle
    rw [List.getD_eq_getElem?_getD] at h ⊢
    cases hg : ls[id - 2001]? with
    | none => rw [hg] at h; simp at h
    | some l => exact ⟨id - 2001, l, by omega, hg, (by rw [if_pos (by assumption)]; rfl)⟩
  · exact absurd rfl h
theorem sim_ok {K0 : Par} {c : Cx} (hG : Good K0 c.p c.E) {f g : FuncId} {fn : Func} {body : Code} (hf : c.p.funcs[g]? = some fn) (hb : fn.body = some body) (hcall : ∀ args w, (callFunc f args).run c.p w = .ok (.enter g args) w)
    (hL : ∀ q x, (q, x) ∈ cutsOf body true 1 → LOk K0 c q x) {as : List A} {ts : List T} {p1 : List P} {l1 : List Nat} (hfit : fitL as ts = some (p1, l1)) {r : Res} (he : execFn c g as p1 l1 = some r) : Sim K0 c.p f ts r.ret r.args := by
  intro X ml w cargs R hrel hdj hRX hX hTab
  unfold execFn at he
  rw [hf] at he
  simp only [hb] at he
  split at he
  case h_2 => cases he
  rename_i body' vs n h hbb hini
  obtain rfl := Option.some.inj hbb
  replace he := cond_some he
  obtain ⟨hc, he⟩ := he
  simp only [Bool.and_eq_true] at hc
  obtain ⟨hc1, hc2, hc3, hc4⟩ := hc
  have hc1 := Nat.le_of_ble_eq_true hc1
  have hc2 := beq_iff.1 hc2
  have hc3 := Nat.le_of_ble_eq_true hc3
  have hc4 := Nat.le_of_ble_eq_true hc4
  -- the frame's state at its beginning
  obtain ⟨_, m0, new, I, hA, hA2⟩ := iniL_ok as (m := fun _ => .arr none 0 0 .unit) (rest := []) hfit (by simpa using hini) hrel (fun k _ => rfl)
  obtain ⟨labs, hlabs, L⟩ := I.laid
  have hnewp : ∀ id, getBox id h ≠ none → id ∈ new := by
    intro id hp
    by_cases hm : id ∈ new
    · exact hm
    · rw [L.rest id hm] at hp; exact absurd rfl hp
  have hnamed : ∀ id ∈ new, namedB id = true := by
    intro id hm
    obtain ⟨q1, q2⟩ := I.new id hm
    simp only [namedB, Bool.and_eq_true]
    exact ⟨by rw [Nat.ble_eq]; exact q1, by rw [Nat.blt_eq]; omega⟩
  have hOwn : ∀ b o, Own m0 h b o ↔ inRs R b o := by
    intro b o
    rw [← inRs_perm L.rng]
    constructor
    · rintro ⟨id, hp, hh⟩
      obtain ⟨q, hq, hh⟩ := (has_rng _ b o).1 hh
      exact ⟨q, List.mem_flatMap.2 ⟨id, hnewp id hp, hq⟩, hh⟩
    · rintro ⟨q, hq, hh⟩
      obtain ⟨id, hm, hq⟩ := List.mem_flatMap.1 hq
      obtain ⟨bx, hbx, _⟩ := L.box id hm
      exact ⟨id, by rw [hbx]; simp, (has_rng _ b o).2 ⟨q, hq, hh⟩⟩
  have hFb : (fun b o => X b o ∨ inRs R b o) = Fb X m0 h := by
    funext b o; simp only [Fb, hOwn]
  rw [hFb] at hA L
  have hlen := hA.len
  have hR0 : R0 X ⟨inRs R, m0, [], K0⟩ w c.n m0 { t := putAll 0 vs .e, h := h } (cargs.toArray ++ Array.replicate (fn.ntmps - cargs.toArray.size) undef) w := by
    have htmp : ∀ i, (St.mk (putAll 0 vs .e) h []).tmp i = if i < vs.length then vs.getD i .u else .u := by
      intro i
      have := tmp_putAll vs 0 .e i (by omega)
      have e0 : (St.mk .e [] []).tmp i = .u := by
        simp only [St.tmp]
        have ge : Tr.get dep .e i = .u := rfl
        rw [ge]; cases Nat.blt i 1024 <;> rfl
      rw [e0] at this
      simp only [Nat.zero_le, true_and, Nat.zero_add, Nat.sub_zero] at this
      exact this
    have hin : ∀ i (hi : i < vs.length), (St.mk (putAll 0 vs .e) h []).tmp i = vs[i] := by
      intro i hi
      rw [htmp, if_pos hi, List.getD_eq_getElem?_getD, List.getElem?_eq_getElem hi]; rfl
    refine ⟨by simp; omega, hc3, L.keys (by simp [keys]), fun i => ?_, fun i => ?_, fun j bx hj id hid => ?_, fun id bx hg => ?_, ?_, ?_, rfl, fun id hi => (by cases hi), ?_, Fr.refl _ _ _, hX, fun _ _ _ => ⟨rfl, fun _ => rfl⟩, hTab⟩
    · by_cases hi : i < vs.length
      · rw [hin i hi]
        have : (cargs.toArray ++ Array.replicate (fn.ntmps - cargs.toArray.size) undef).getD i undef = cargs[i]'(by omega) := by
          rw [Array.getD_eq_getD_getElem?, Array.getElem?_append_left (by simp; omega)]
          simp [List.getElem?_eq_getElem (show i < cargs.length by omega)]
        rw [this]; exact hA.rel i hi (by omega)
      · rw [htmp, if_neg hi]; exact rel_u
    · by_cases hi : i < vs.length
      · rw [hin i hi]; exact hA.ids _ (List.getElem_mem hi)
      · rw [htmp, if_neg hi]; simp [V.ids]
    · obtain ⟨bx', q1, _, q3⟩ := L.box j (hnewp j (by rw [hj]; simp))
      have hj' : getBox j h = some bx := hj
      rw [hj'] at q1; obtain rfl := Option.some.inj q1
      exact q3.1 id hid
    · obtain ⟨bx', q1, q2, _⟩ := L.box id (hnewp id (by rw [hg]; simp))
      have hg' : getBox id h = some bx := hg
      rw [hg'] at q1; obtain rfl := Option.some.inj q1
      exact q2
    · intro i j hij hi hj b o hh hh'
      exact dj_of (hdj.perm L.rng.symm) i (hnewp i hi) j (hnewp j hj) hij b o hh hh'
    · exact fun b o ho hx => hRX b o ((hOwn b o).1 ho) hx
    · exact fun b o ho => .inl ((hOwn b o).1 ho.own)
  refine .inl ⟨g, hcall _ _, calls_of_wp hf hb ?_⟩
  -- behind the body
  have hfin : ∀ m s tm w', finish c fn l1 vs s = some r → R0 X ⟨inRs R, m0, [], K0⟩ w c.n m s tm w' → ∃ v, (results fn tm).run c.p w' = .ok v w' ∧ ∃ xs R', Ending.returned v = .returned (retV xs) ∧ Fr K0 w.heap.size (inRs R) w w' ∧
      TRelL ml w' (fun b o => X b o ∨ inRs R' b o) (r.ret ++ r.args) (xs ++ cargs) R' ∧ Dj R' ∧ (∀ b o, inRs R' b o → inRs R b o ∨ w.heap.size ≤ b) ∧ xs.length = r.ret.length := by
    intro m s tm w' hfi hR
    unfold finish at hfi
    split at hfi
    case h_2 => cases hfi
    rename_i ats ac has
    split at hfi
    case h_2 => cases hfi
    rename_i rs hrs
    split at hfi
    case h_2 => cases hfi
    rename_i rts rc hrts
    replace hfi := cond_some hfi
    obtain ⟨_, hfi⟩ := hfi
    obtain rfl := Option.some.inj hfi
    have allow : ∀ b o, Own m s.h b o → inRs R b o ∨ w.heap.size ≤ b := fun b o ⟨id, q1, q2⟩ => hR.allow b o ⟨id, q1, rfl, q2⟩
    obtain ⟨xs, g1, g2⟩ := results_ok hR hrs
    have hml : ∀ id, getBox id s.h ≠ none → labOf l1 id ≠ 0 → (ml (labOf l1 id)).fix = (m id).fix := by
      intro id hp h0
      obtain ⟨i, l, rfl, hi, hl⟩ := labOf_ne h0
      rw [hl] at h0 ⊢
      obtain ⟨p1', p2'⟩ := I.names i l hi
      have hnm := hnamed _ (hnewp _ p1')
      rw [p2' h0, (hR.nm _ hp (by rw [hnm]; rfl)).1]
    -- the arguments as they are now
    have hkeep : Keep w (Fb X m0 h) w' (Fb X m s.h) := by
      intro b o v hv hnf
      have hlt := cell_lt hv
      have hnr : ¬ inRs R b o := fun q => hnf (.inr ((hOwn b o).2 q))
      refine ⟨by rw [hR.fr.cell b o hlt hnr]; exact hv, ?_⟩
      rintro (q | q)
      · exact hnf (.inl q)
      · rcases allow b o q with z | z
        · exact hnr z
        · omega
    have hAa : RelA m w' (Fb X m s.h) s.h (vs.map (V.map (liveLeaf s.h))) cargs := by
      refine ⟨by simpa using hlen, fun j h1 h2 => ?_, fun v hv id hid => ?_⟩
      · simp only [List.getElem_map]
        have hj : j < vs.length := by simpa using h1
        have := ((hA.rel j hj h2).mono hkeep).map (live_ok s.h) (fun _ _ => rfl) (live_tup s.h)
        refine this.fixs (fun id hid => ?_) (live_ntv _ (iniL_ntv _ hini _ (List.getElem_mem hj)))
        obtain ⟨q1, q2⟩ := live_ids s.h _ id hid
        have hnm := hnamed _ (hnewp id (hA.ids _ (List.getElem_mem hj) id q1))
        exact (hR.nm id q2 (by rw [hnm]; rfl)).1
      · obtain ⟨v0, _, rfl⟩ := List.mem_map.1 hv
        exact (live_ids s.h v0 id hid).2
    obtain ⟨R1, new1, ⟨k1, k2, k3, k4⟩, k5, k6⟩ := serRL_ok hR hml _ _ _ _ _ has hAa
    rw [List.nil_append] at k1; subst k1
    obtain ⟨R2, new2, ⟨l1', l2, l3, l4⟩, l5, l6⟩ := serRL_ok hR hml _ _ _ _ _ hrts g2
    subst l1'
    have hcov : Cov m (ac ++ new2) (R1 ++ R2) := k2.append l2
    have htok : ∀ x ∈ ac ++ new2, Tok m s.h x := fun x hx => by
      rcases List.mem_append.1 hx with hx | hx
      · exact k3 x hx
      · exact l3 x hx
    have hnd : ((ac ++ new2).filterMap slotV).Nodup := l4 (k4 (by simp))
    have hsub : ∀ b o, inRs (R1 ++ R2) b o → Own m s.h b o := by
      intro b o hr
      obtain ⟨x, hx, id, hs, hh⟩ := inRs_tb.1 (hcov.sub hr)
      obtain ⟨⟨id', z1, z2⟩, _⟩ := htok x hx
      rw [hs] at z1; obtain rfl := Option.some.inj z1
      exact ⟨id, z2, hh⟩
    have hsw : ∀ b o, inRs (R2 ++ R1) b o ↔ inRs (R1 ++ R2) b o := fun b o => inRs_perm List.perm_append_comm
    have hF : Keep w' (Fb X m s.h) w' (fun b o => X b o ∨ inRs (R2 ++ R1) b o) := by
      intro b o v hv hnf
      refine ⟨hv, ?_⟩
      rintro (q | q)
      · exact hnf (.inl q)
      · exact hnf (.inr (hsub b o ((hsw b o).1 q)))
    refine ⟨_, g1, xs, R2 ++ R1, rfl, hR.fr, ?_, (hcov.dj hR.disj htok hnd).perm List.perm_append_comm, fun b o hr => allow b o (hsub b o ((hsw b o).1 hr)), by rw [l6]; exact g2.len.symm⟩
    exact (TRelL.app l5 k5).mono hF
  refine exec_ok (X := X) (S0 := ⟨inRs R, m0, [], K0⟩) (w0 := w) (D := []) hG body true 1 he hL hR0 ⟨fun m s tm w' hk hR => ?_, fun j m s tm w' hk hR => ?_, fun m s tm w' hk hR => ?_⟩
  · exact ⟨rfl, hfin m s tm w' hk hR⟩
  · cases hk
  · exact ⟨rfl, hfin m s tm w' hk hR⟩
end Go.Eng
end
