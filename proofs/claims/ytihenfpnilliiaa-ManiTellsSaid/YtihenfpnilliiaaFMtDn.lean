/- mani.Down as an entry: the versions in a set, the newest first. Conditions: none. -/
import Derived.Test.YtihenfpnilliiaaFMtc
import Derived.Below
import Derived.Deep.Draws
import Derived.Deep.AppendLies
import Derived.Laws.BytesArg
import Derived.Laws.MakeOwn
import Derived.Laws.OwnMore
import Derived.Deep.OwnRows
import Derived.Lib.ConvBytes
import Derived.Laws.Slices
import Derived.WalkKit
import Derived.KernelRfl
import Derived.RowKit3
import Derived.Deep.LoopGhost
import Derived.Deep.QuietTactic
import Derived.BigQuiet
import Derived.WideLaws
import Derived.Deep.DeepCutAuto
import Derived.Deep.CutBlock
import Derived.Deep.RegionHeld3
import Derived.Laws.Rows
import Derived.Lib.AppendStr
import Derived.ArgAppend
import Derived.Laws.IdiomCopy
import Derived.OrdersHeld
import Derived.Laws.BitsLemmas
import Derived.RowKit
import Derived.RangeFuncNested
import Derived.RangeFuncBound
import Derived.RangeFuncCalls
import Derived.RangeFuncLeaves
import Derived.RangeFuncBox
import Derived.Shelf.Abstract
import Derived.OwnWalkIn
import Derived.TacticsInMore
import Derived.LoopNIn
import Derived.LoopIn
import Derived.Maps.AppendAt
set_option linter.unusedVariables false
set_option linter.unusedSimpArgs false
namespace Go.Proofs.Ytihenfpnilliiaa
open Go Go.RowKit
structure Aside0 (p : Prop) : Prop where
  mk ::
  h : p
theorem Dn.info : (Try.prog.info? 3).map (fun i => (i.zero, i.size, i.bytes)) = some (some (.int .i64 0), 1, 8) := by kernel_rfl
/-- What lay below n₀ lies as it lay, but for one block. -/
def Dn.Kp (n₀ Bo : Nat) (W W' : World) : Prop := W.heap.size ≤ W'.heap.size ∧ ∀ i, i < n₀ → i ≠ Bo → W'.heap[i]? = W.heap[i]?
theorem Dn.Kp.refl (n₀ Bo : Nat) (W : World) : Dn.Kp n₀ Bo W W := ⟨Nat.le_refl _, fun _ _ _ => rfl⟩
theorem Dn.Kp.trans {n₀ Bo : Nat} {A B C : World} (h : Dn.Kp n₀ Bo A B) (k : Dn.Kp n₀ Bo B C) : Dn.Kp n₀ Bo A C := ⟨Nat.le_trans h.1 k.1, fun i hi hn => (k.2 i hi hn).trans (h.2 i hi hn)⟩
theorem Dn.Kp.cell {n₀ Bo : Nat} {A B : World} (h : Dn.Kp n₀ Bo A B) {p : Addr} (hp : p.block < n₀) (hn : p.block ≠ Bo) : B.cell? p = A.cell? p := by simp only [World.cell?, h.2 p.block hp hn]
/-- The elements of a row of releases, the last one first: index, version, the needs' slice. -/
def Dn.item (len : Nat) (vr : Nat → Int) (vs : Nat → Option Addr × Nat × Nat) (k : Nat) : Int × Int × Option Addr × Nat × Nat := (((len - 1 - k : Nat) : Int), vr (len - 1 - k), vs (len - 1 - k))
theorem Dn.le {w : World} {base base' size n : Nat} {e : TypeId} {v : Value} {xs : List Value} (h : w.ownsRow base e size v n xs) (hb : base' ≤ base) : w.ownsRow base' e size v n xs :=
  ⟨h.1, h.2.elim Or.inl (fun ⟨g, cap, cur, hv, hg, r⟩ => Or.inr ⟨g, cap, cur, hv, Nat.le_trans hb hg, r⟩)⟩
theorem Dn.app {W w1 : World} {n₁ n₀ B : Nat} (hnB : n₁ ≤ B) (hnn : n₁ ≤ n₀) {t e : TypeId} {size : Nat} {v v' : Value} {k m : Nat} {xs ys : List Value} {tmp : Obj}
    (hv : Boxed W B t v) (hte : t ≠ e) (hrow : W.ownsRow n₀ e size v k xs) (hn : n₀ ≤ W.heap.size) (hown' : w1.ownsRow n₀ e size v' m ys) (hgrow : (W.alloc tmp).grownBy w1 v.ownBlock) :
    Boxed w1 B t v ∧ Boxed (w1.setCell ⟨B, 0, none⟩ v') B t v' ∧ (w1.setCell ⟨B, 0, none⟩ v').ownsRow n₀ e size v' m ys ∧ KeepsOthers W (w1.setCell ⟨B, 0, none⟩ v') ∧ Dn.Kp n₀ B W (w1.setCell ⟨B, 0, none⟩ v') ∧ Below n₁ W (w1.setCell ⟨B, 0, none⟩ v') := by
  obtain ⟨h1, h2, _, h4, h5⟩ := hv.appended hte (Dn.le hrow hnn) (Nat.le_trans hnn hn) hnB (Dn.le hown' hnn) hgrow
  refine ⟨h1, h2, hown'.kept (grownBy_setCell' w1 B v') (.inr (h1.not_row hte hown').symm), h4, ⟨h4.size, fun i hi hne => ?_⟩, h5⟩
  rw [Below.heap_setCell _ _ _ i hne, hgrow.block i (by simp; omega) (fun e' => ?_), Below.heap_alloc _ _ _ (by omega)]
  rcases hrow.2 with ⟨rfl, _⟩ | ⟨g, cap, cur, rfl, hb, _, _⟩
  · simp [Value.ownBlock] at e'
  · obtain rfl : i = g := by simpa [Value.ownBlock] using e'
    omega
section
attribute [local go_sem] Oper.semAt_some
set_option maxRecDepth 100000 in
set_option maxHeartbeats 2000000 in
theorem Dn.back1_in (l Bs n₀ Bo : Nat) (ad : Addr) (len cap : Nat) (vr : Nat → Int) (vs : Nat → Option Addr × Nat × Nat) (hlen : len < 4611686018427387904) (hb : 0 < len → ad.block < n₀) (hbo : 0 < len → ad.block ≠ Bo) (hBs0 : Bs < n₀) (hBso : Bs ≠ Bo) (J Jx : List Nat → World → Prop)
    (hY : ∀ pre x W, J pre W → pre.length < len → YieldAt Fence.wide 0 Try.prog l #[.int .i64 (Dn.item len vr vs x).1, .agg #[.int .i64 (Dn.item len vr vs x).2.1, .slice (Dn.item len vr vs x).2.2.1 (Dn.item len vr vs x).2.2.2.1 (Dn.item len vr vs x).2.2.2.2]] W fun e W' =>
      (e = .returned (.bool true) ∧ J (pre ++ [x]) W' ∧ Dn.Kp n₀ Bo W W') ∨ (e = .returned (.bool false) ∧ Jx (pre ++ [x]) W'))
    (W : World) (hBs : W.cell? ⟨Bs, 0, none⟩ = some (.slice (some ad) len cap)) (hc0 : ∀ j, j < len → W.cell? (ad.add (j * 2)) = some (.int .i64 (vr j))) (hc1 : ∀ j, j < len → W.cell? ⟨(ad.add (j * 2)).block, (ad.add (j * 2)).off + 1, none⟩ = some (.slice (vs j).1 (vs j).2.1 (vs j).2.2)) (h0 : J [] W) :
    CallsIn Fence.wide 1 Try.prog 52 #[.func (.yield l) #[] #[], .pointer (some ⟨Bs, 0, none⟩)] W fun e W' => (∃ v, e = .returned v) ∧
      ((∃ ys, ys = List.range len ∧ J ys W') ∨ (∃ pre, True ∧ Jx pre W')) := by
  refine callsIn_of_wp Try.func52 rfl trivial ?_ rfl
  simp only [Try.ntmps52, List.size_toArray, List.length_cons, List.length_nil, Nat.reduceAdd, Nat.reduceSub, Array.replicate_succ, Array.replicate_zero, List.push_toArray, List.append_toArray, List.nil_append, List.cons_append]
  gi_wp2
  gi_loopw [3] (fun i wr => ∃ k : Nat, k ≤ len ∧ i = .int .i64 ((len : Int) - 1 - k) ∧ J (List.range k) wr ∧ Dn.Kp n₀ Bo W wr) (fun i _ => (intOf i + 1).toNat)
  case atStart => exact ⟨0, Nat.zero_le _, by simp, h0, Dn.Kp.refl _ _ _⟩
  case round =>
    obtain ⟨k, hk, rfl, hJs, hnx⟩ := hrel
    have hBs' : wr.cell? ⟨Bs, 0, none⟩ = some (.slice (some ad) len cap) := (hnx.cell (p := ⟨Bs, 0, none⟩) hBs0 hBso).trans hBs
    by_cases hlt : k < len
    · obtain ⟨q, hq⟩ : ∃ q : Nat, len - 1 - k = q := ⟨_, rfl⟩
      have hqi : (len : Int) - 1 - k = (q : Int) := by omega
      have hql : q < len := by omega
      have hblk : ∀ j, (ad.add j).block = ad.block := fun j => by unfold Addr.add; split <;> rfl
      have hx0 := (hnx.cell (p := ad.add (q * 2)) (by rw [hblk]; exact hb (by omega)) (by rw [hblk]; exact hbo (by omega))).trans (hc0 q hql)
      have hx1 := (hnx.cell (p := ⟨(ad.add (q * 2)).block, (ad.add (q * 2)).off + 1, none⟩) (by show (ad.add (q * 2)).block < _; rw [hblk]; exact hb (by omega)) (by show (ad.add (q * 2)).block ≠ _; rw [hblk]; exact hbo (by omega))).trans (hc1 q hql)
      obtain ⟨fn, tmps, assign, body, hy, hR⟩ := hY _ k wr hJs (by rw [List.length_range]; exact hlt)
      rw [hqi]
      have hitem : Dn.item len vr vs k = ((q : Int), vr q, vs q) := by unfold Dn.item; rw [hq]
      rw [hitem] at hy
      dsimp only at hy
      have HIT := Aside0.mk hitem
      clear hblk hitem hq
      gi_wp2
      refine hR.mono ?_
      rintro e W3 (⟨rfl, hJ3, hk3⟩ | ⟨rfl, hJx3⟩)
      · gi_wp2
        go_roundw
        case rel => exact ⟨k + 1, by omega, by congr 1; omega, by rw [List.range_succ]; exact hJ3, hnx.trans hk3⟩
        case measure => simp [intOf]
      · gi_wp2
        refine bodyPost_ret (results_none rfl _ _ _) rfl ?_
        exact ⟨⟨_, rfl⟩, .inr ⟨_, trivial, hJx3⟩⟩
    · obtain rfl : k = len := by omega
      have hneg : (k : Int) - 1 - k = -1 := by omega
      rw [hneg]
      clear hneg
      gi_wp2
      go_end0
      exact ⟨⟨_, rfl⟩, .inl ⟨_, rfl, hJs⟩⟩
set_option maxRecDepth 100000 in
set_option maxHeartbeats 2000000 in
theorem Dn.back1_nil (l Bs c : Nat) (J : List Nat → World → Prop) (W : World) (hBs : W.cell? ⟨Bs, 0, none⟩ = some (.slice none 0 c)) (h0 : J [] W) :
    CallsIn Fence.wide 1 Try.prog 52 #[.func (.yield l) #[] #[], .pointer (some ⟨Bs, 0, none⟩)] W fun e W' => (∃ v, e = .returned v) ∧ J [] W' := by
  refine callsIn_of_wp Try.func52 rfl trivial ?_ rfl
  simp only [Try.ntmps52, List.size_toArray, List.length_cons, List.length_nil, Nat.reduceAdd, Nat.reduceSub, Array.replicate_succ, Array.replicate_zero, List.push_toArray, List.append_toArray, List.nil_append, List.cons_append]
  gi_wp2
  gi_loopw [3] (fun i wr => i = .int .i64 (-1) ∧ J [] wr) (fun _ _ => 0)
  case atStart => exact ⟨by simp, h0⟩
  case round =>
    obtain ⟨rfl, hJs⟩ := hrel
    gi_wp2
    go_end0
    exact ⟨⟨_, rfl⟩, hJs⟩
set_option maxHeartbeats 1000000 in
theorem Dn.back_in (a : Option Addr) (len cap : Nat) (w : World) :
    CallsIn Fence.wide 1 Try.prog 34 #[.slice a len cap] w fun e w' => e = .returned (.func (.func 52) #[] #[.pointer (some ⟨w.heap.size, 0, none⟩)]) ∧ w' = w.alloc (.cells #[.slice a len cap] 22) := by
  refine callsIn_of_wp Try.func34 rfl trivial ?_ rfl
  simp only [Try.ntmps34, List.size_toArray, List.length_cons, List.length_nil, Nat.reduceAdd, Nat.reduceSub, Array.replicate_succ, Array.replicate_zero, List.push_toArray, List.append_toArray, List.nil_append, List.cons_append]
  gi_wp2
  go_ret
  exact ⟨rfl, rfl⟩
theorem Dn.stops (Bs n₀ Bo : Nat) (A : Option Addr) (len cap : Nat) (vr : Nat → Int) (vs : Nat → Option Addr × Nat × Nat) (hlen : len < 4611686018427387904) (w : World) (hn : n₀ ≤ w.heap.size) (hBs0 : Bs < n₀) (hBso : Bs ≠ Bo) (hc : w.cell? ⟨Bs, 0, none⟩ = some (.slice A len cap))
    (hrow : 0 < len → ∃ ad, A = some ad ∧ ad.block < n₀ ∧ ad.block ≠ Bo ∧ ∀ j, j < len → w.cell? (ad.add (j * 2)) = some (.int .i64 (vr j)) ∧ w.cell? ⟨(ad.add (j * 2)).block, (ad.add (j * 2)).off + 1, none⟩ = some (.slice (vs j).1 (vs j).2.1 (vs j).2.2)) :
    SeqStopsK Fence.wide 1 Try.prog 52 #[.pointer (some ⟨Bs, 0, none⟩)] (fun x : Nat => #[Value.int .i64 (Dn.item len vr vs x).1, Value.agg #[.int .i64 (Dn.item len vr vs x).2.1, .slice (Dn.item len vr vs x).2.2.1 (Dn.item len vr vs x).2.2.2.1 (Dn.item len vr vs x).2.2.2.2]]) (Dn.Kp n₀ Bo) (fun ys => ys = List.range len) (fun _ => True) len w := by
  intro l J Jx W hW _ _ hY h0
  have hc' := (hW.cell (p := ⟨Bs, 0, none⟩) (by show Bs < _; omega)).trans hc
  have hblk : ∀ (ad : Addr) j, (ad.add j).block = ad.block := fun ad j => by unfold Addr.add; split <;> rfl
  cases A with
  | none =>
    have hz : len = 0 := by
      rcases Nat.eq_zero_or_pos len with h | h
      · exact h
      · obtain ⟨ad, e, _⟩ := hrow h; cases e
    subst hz
    exact (Dn.back1_nil l Bs cap J W hc' h0).mono fun e W' ⟨he, hj⟩ => ⟨he, .inl ⟨_, rfl, hj⟩⟩
  | some ad =>
    have hr : 0 < len → ad.block < n₀ ∧ ad.block ≠ Bo ∧ ∀ j, j < len → w.cell? (ad.add (j * 2)) = some (.int .i64 (vr j)) ∧ w.cell? ⟨(ad.add (j * 2)).block, (ad.add (j * 2)).off + 1, none⟩ = some (.slice (vs j).1 (vs j).2.1 (vs j).2.2) := fun h => by
      obtain ⟨ad', e, h'⟩ := hrow h; cases e; exact h'
    exact Dn.back1_in l Bs n₀ Bo ad len cap vr vs hlen (fun h => (hr h).1) (fun h => (hr h).2.1) hBs0 hBso J Jx hY W hc'
      (fun j hj => (hW.cell (p := ad.add (j * 2)) (by rw [hblk]; have := (hr (by omega)).1; omega)).trans ((hr (by omega)).2.2 j hj).1)
      (fun j hj => (hW.cell (p := ⟨(ad.add (j * 2)).block, (ad.add (j * 2)).off + 1, none⟩) (by show (ad.add (j * 2)).block < _; rw [hblk]; have := (hr (by omega)).1; omega)).trans ((hr (by omega)).2.2 j hj).2) h0
def Dn.sel (hb : Int → Bool) (g : Nat → Int) (pre : List Nat) : List Int := (pre.map g).filter hb
theorem Dn.sel_snoc (hb : Int → Bool) (g : Nat → Int) (pre : List Nat) (x : Nat) : Dn.sel hb g (pre ++ [x]) = if hb (g x) then Dn.sel hb g pre ++ [g x] else Dn.sel hb g pre := by
  unfold Dn.sel
  rw [List.map_append, List.filter_append]
  cases h : hb (g x) <;> simp [h]
theorem Dn.sel_length (hb : Int → Bool) (g : Nat → Int) (pre : List Nat) : (Dn.sel hb g pre).length ≤ pre.length := by
  unfold Dn.sel
  have := List.length_filter_le hb (pre.map g)
  simpa using this
/-- What is told. -/
def Dn.res (hb : Int → Bool) (vr : Nat → Int) (n1 : Nat) : List Int := ((List.range n1).map fun j => vr (n1 - 1 - j)).filter hb
set_option maxRecDepth 100000 in
set_option maxHeartbeats 4000000 in
theorem Dn.walk (nm : ByteArray) (A1 : Option Addr) (n1 c1 : Nat) (vr : Nat → Int) (vs : Nat → Option Addr × Nat × Nat) (Ai : Option Addr) (ni ci : Nat) (hb : Int → Bool) (w : World)
    (hvs : 0 < n1 → ∃ ad, A1 = some ad ∧ ad.block < w.heap.size ∧ ∀ j, j < n1 → w.cell? (ad.add (j * 2)) = some (.int .i64 (vr j)) ∧ w.cell? ⟨(ad.add (j * 2)).block, (ad.add (j * 2)).off + 1, none⟩ = some (.slice (vs j).1 (vs j).2.1 (vs j).2.2)) (hlen : n1 < 1000000000000)
    (hh : ∀ W, Below w.heap.size w W → ∀ j, j < n1 → Calls Try.prog 15 #[.slice Ai ni ci, .int .i64 (vr j)] W fun e w2 => e = .returned (.bool (hb (vr j))) ∧ Below W.heap.size W w2) :
    Calls Try.prog 13 #[.agg #[.string nm, .slice A1 n1 c1], .slice Ai ni ci] w fun e w' => ∃ v0_ : Value, e = .returned (v0_) ∧ w'.ownsRow w.heap.size 3 1 v0_ (Dn.res hb vr n1).length ((Dn.res hb vr n1).map (Value.int .i64)) ∧ ((Dn.res hb vr n1).length = 0 → v0_ = .slice none 0 0) ∧ Below w.heap.size w w' := by
  have hfB : Fence.wide.fn 34 := trivial
  have hfH : Fence.wide.fn 15 := trivial
  refine (callsIn_wide (n := 2)).1 ?_
  refine callsIn_of_wp_marks Try.func13 rfl trivial ?_ rfl
  simp only [Try.ntmps13, List.size_toArray, List.length_cons, List.length_nil, Nat.reduceAdd, Nat.reduceSub, Array.replicate_succ, Array.replicate_zero, List.push_toArray, List.append_toArray, List.nil_append, List.cons_append]
  gi_wp2_with (gi_at_call 34; refine (Dn.back_in _ _ _ _).mono ?_; rintro e w' ⟨rfl, rfl⟩)
  obtain ⟨w0, hw0⟩ : ∃ w0 : World, (((w.alloc (.cells #[.string nm, .slice A1 n1 c1] 24)).alloc (.cells #[.slice Ai ni ci] 25)).alloc (.cells #[.slice none 0 0] 34)).alloc (.cells #[.slice A1 n1 c1] 22) = w0 := ⟨_, rfl⟩
  have hsz : w0.heap.size = w.heap.size + 4 := by rw [← hw0]; simp
  have bI : Boxed w0 (w.heap.size + 1) 25 (.slice Ai ni ci) := by rw [← hw0]; have := (((Boxed.new (w.alloc (.cells #[.string nm, .slice A1 n1 c1] 24)) 25 (.slice Ai ni ci)).alloc (.cells #[.slice none 0 0] 34)).alloc (.cells #[.slice A1 n1 c1] 22)); simpa using this
  have bO : Boxed w0 (w.heap.size + 2) 34 (.slice none 0 0) := by rw [← hw0]; have := ((Boxed.new ((w.alloc (.cells #[.string nm, .slice A1 n1 c1] 24)).alloc (.cells #[.slice Ai ni ci] 25)) 34 (.slice none 0 0)).alloc (.cells #[.slice A1 n1 c1] 22)); simpa using this
  have bS : Boxed w0 (w.heap.size + 3) 22 (.slice A1 n1 c1) := by rw [← hw0]; have := (Boxed.new (((w.alloc (.cells #[.string nm, .slice A1 n1 c1] 24)).alloc (.cells #[.slice Ai ni ci] 25)).alloc (.cells #[.slice none 0 0] 34)) 22 (.slice A1 n1 c1)); simpa using this
  have hB0 : Below w.heap.size w w0 := by rw [← hw0]; exact ((((Below.refl _ w).alloc (Nat.le_refl _) _).alloc (by simp) _).alloc (by simp; omega) _).alloc (by simp; omega) _
  rw [hw0]
  clear hw0
  have hblk : ∀ (ad : Addr) j, (ad.add j).block = ad.block := fun ad j => by unfold Addr.add; split <;> rfl
  have hstops := Dn.stops (w.heap.size + 3) w0.heap.size (w.heap.size + 2) A1 n1 c1 vr vs (by omega) w0 (Nat.le_refl _) (by omega) (by omega) bS.cell fun h => by
    obtain ⟨ad, e, h1, h2⟩ := hvs h
    refine ⟨ad, e, by omega, by omega, fun j hj => ⟨(hB0.cell (p := ad.add (j * 2)) (by rw [hblk]; exact h1)).trans (h2 j hj).1, (hB0.cell (p := ⟨(ad.add (j * 2)).block, (ad.add (j * 2)).off + 1, none⟩) (by show (ad.add (j * 2)).block < _; rw [hblk]; exact h1)).trans (h2 j hj).2⟩⟩
  refine wpIn_rangeFunc_ownH (w := w0) rfl (by omega) (gf := 52) (lb := #[.pointer (some ⟨w.heap.size + 3, 0, none⟩)]) rfl trivial (enters_of Try.func52 (by kernel_rfl) rfl) hstops (fun h k => h.trans k)
    (fun W l o o' hl _ _ _ => ⟨by simp, fun i hi _ => World.putObj_heap_other (by omega)⟩) (Below.refl _ _) (fun _ => rfl)
    (fun pre W => (∃ v, Boxed W (w.heap.size + 2) 34 v ∧ W.ownsRow w0.heap.size 3 1 v (Dn.sel hb (fun j => (Dn.item n1 vr vs j).2.1) pre).length ((Dn.sel hb (fun j => (Dn.item n1 vr vs j).2.1) pre).map (Value.int .i64)) ∧ ((Dn.sel hb (fun j => (Dn.item n1 vr vs j).2.1) pre).length = 0 → v = .slice none 0 0)) ∧ Boxed W (w.heap.size + 1) 25 (.slice Ai ni ci) ∧ Boxed W (w.heap.size + 3) 22 (.slice A1 n1 c1) ∧ Below w.heap.size w W)
    (fun _ _ _ => False)
    (OwnFrom.and (Own.from (holdsRow_own w0.heap.size (w.heap.size + 2) 34 3 1 (fun pre => (Dn.sel hb (fun j => (Dn.item n1 vr vs j).2.1) pre).length) (fun pre => (Dn.sel hb (fun j => (Dn.item n1 vr vs j).2.1) pre).map (Value.int .i64)) (fun pre v => (Dn.sel hb (fun j => (Dn.item n1 vr vs j).2.1) pre).length = 0 → v = .slice none 0 0)) _) (OwnFrom.and (Own.from (boxed_own (w.heap.size + 1) 25 (fun _ => .slice Ai ni ci)) _) (OwnFrom.and (Own.from (boxed_own (w.heap.size + 3) 22 (fun _ => .slice A1 n1 c1)) _) (ownFrom_below (Nat.le_refl _) (by omega)))))
    (fun _ _ _ _ _ hs _ _ => hs)
    ⟨⟨_, bO, World.ownsRow_nil _ _ _ _, fun _ => rfl⟩, bI, bS, hB0⟩
    (fun x a' W => ∃ Bx, w0.heap.size ≤ Bx ∧ W.heap[Bx]? = some (.cells #[.int .i64 (Dn.item n1 vr vs x).2.1, .slice (Dn.item n1 vr vs x).2.2.1 (Dn.item n1 vr vs x).2.2.2.1 (Dn.item n1 vr vs x).2.2.2.2] 38 (0, 0)) ∧ a' = { tmps := #[.agg #[.string nm, .slice A1 n1 c1], .slice Ai ni ci, .pointer (some ⟨w.heap.size, 0, none⟩), .pointer (some ⟨w.heap.size + 1, 0, none⟩), .slice none 0 0, .pointer (some ⟨w.heap.size + 2, 0, none⟩), undef, .pointer (some ⟨Bx, 0, none⟩), .pointer (some ⟨w.heap.size, 1, none⟩), .slice A1 n1 c1, .func (.func 52) #[] #[.pointer (some ⟨w.heap.size + 3, 0, none⟩)], .int .i64 (Dn.item n1 vr vs x).1, .agg #[.int .i64 (Dn.item n1 vr vs x).2.1, .slice (Dn.item n1 vr vs x).2.2.1 (Dn.item n1 vr vs x).2.2.2.1 (Dn.item n1 vr vs x).2.2.2.2], undef, undef, undef, undef, undef, undef, undef, undef, undef, undef], defers := [] })
    (fun x a' _ W W' row hs hg hr => by
      obtain ⟨Bx, h1, h2, h3⟩ := hs
      refine ⟨Bx, h1, (hg.block Bx (Array.getElem?_eq_some_iff.1 h2).1 (fun e' => ?_)).trans h2, h3⟩
      obtain ⟨_, o, ho, hc⟩ := hr Bx e'.symm
      rw [h2] at ho; cases ho; cases hc) ?assign ?body ?done ?stop
  case assign =>
    rintro l pre x W K ⟨⟨v, hv, hrow, hG⟩, hbI, hbS, hB⟩ hK
    have hWs := (Array.getElem?_eq_some_iff.1 hbS).1
    gi_wp2
    refine hK _ _ ((KeepsOthers.alloc _ _).from _) ⟨by simp, fun i hi _ => Below.heap_alloc _ _ _ (by omega)⟩ ⟨⟨v, hv.alloc _, hrow.alloc _, hG⟩, hbI.alloc _, hbS.alloc _, hB.alloc (by omega) _⟩ ⟨W.heap.size, by omega, World.alloc_heap_new _ _, rfl⟩
  case body =>
    rintro l pre x a' W _ _ ⟨⟨v, hv, hrow, hG⟩, hbI, hbS, hB⟩ ⟨Bx, hBx, hX, rfl⟩ hlt
    have hWs := (Array.getElem?_eq_some_iff.1 hbS).1
    have cI := hbI.cell
    have cX : W.cell? ⟨Bx, 0, none⟩ = some (.int .i64 (Dn.item n1 vr vs x).2.1) := by simp [World.cell?, hX]
    obtain ⟨z, hz⟩ : ∃ z : Int, (Dn.item n1 vr vs x).2.1 = z := ⟨_, rfl⟩
    have hhz : ∀ W2, Below w.heap.size w W2 → Calls Try.prog 15 #[.slice Ai ni ci, .int .i64 z] W2 fun e w2 => e = .returned (.bool (hb z)) ∧ Below W2.heap.size W2 w2 := by
      rw [← hz]
      exact fun W2 h2 => hh W2 h2 (n1 - 1 - x) (by omega)
    rw [hz] at cX
    have tr : ∀ w2 : World, Below W.heap.size W w2 → Boxed w2 (w.heap.size + 2) 34 v ∧ w2.ownsRow w0.heap.size 3 1 v _ _ ∧ Boxed w2 (w.heap.size + 1) 25 (.slice Ai ni ci) ∧ Boxed w2 (w.heap.size + 3) 22 (.slice A1 n1 c1) ∧ Below w.heap.size w w2 ∧ KeepsOthers W w2 ∧ Dn.Kp w0.heap.size (w.heap.size + 2) W w2 ∧ w2.cell? ⟨Bx, 0, none⟩ = some (.int .i64 z) := fun w2 hb2 => by
      have hg : W.grownBy w2 none := ⟨hb2.os, hb2.tape, hb2.output, hb2.size, fun k hk _ => hb2.block k hk⟩
      refine ⟨hv.kept hg (by simp), hrow.kept hg ?_, hbI.kept hg (by simp), hbS.kept hg (by simp), hB.trans (hb2.mono (by omega)), .of_grownBy hg (fun j o ej => by cases ej), ⟨hb2.size, fun i hi _ => hb2.block i (by omega)⟩, (hb2.cell (p := ⟨Bx, 0, none⟩) (Array.getElem?_eq_some_iff.1 hX).1).trans cX⟩
      rcases hrow.2 with ⟨rfl, _⟩ | ⟨g, cap, cur, rfl, _⟩
      · exact .inl rfl
      · exact .inr (by simp [Value.ownBlock])
    have hsn := Dn.sel_snoc hb (fun j => (Dn.item n1 vr vs j).2.1) pre x
    have hsl := Dn.sel_length hb (fun j => (Dn.item n1 vr vs j).2.1) pre
    rw [hz] at hsn
    obtain ⟨i0, hi, hz0, hz1, hz2⟩ := info_parts Dn.info
    clear hX hz
    cases hbz : hb z with
    | false =>
      rw [hbz] at hsn
      rw [hbz] at hhz
      gi_wp2
      refine ⟨rfl, ?_⟩
      refine ((callsIn_wide.2 (hhz _ hB)).inRound l).mono ?_
      rintro e w2 ⟨rfl, hb2⟩
      gi_wp2
      obtain ⟨f1, f2, f3, f4, f5, f6, f7, f8⟩ := tr _ hb2
      exact ⟨f6.from _, f7, ⟨v, f1, by rw [hsn]; exact f2, by rw [hsn]; exact hG⟩, f3, f4, f5⟩
    | true =>
      rw [hbz] at hsn
      rw [hbz] at hhz
      gi_wp2
      refine ⟨rfl, ?_⟩
      refine ((callsIn_wide.2 (hhz _ hB)).inRound l).mono ?_
      rintro e w2 ⟨rfl, hb2⟩
      obtain ⟨f1, f2, f3, f4, f5, f6, f7, f8⟩ := tr _ hb2
      have cO2 := f1.cell
      gi_wp2_with (gi_at_builtin; refine wpListIn_append_own _ rfl _ _ 34 rfl w0.heap.size 3 i0 (.int .i64 0) 1 8 Try.underlying34 hi hz0 hz1 hz2 rfl (by decide) _ _ _ rfl (f2.alloc _) ⟨w2.heap.size, 0, none⟩ 1 1 [.int .i64 z] rfl rfl (cell_one_new _ _ _) (by simp [Value.oneCell']) (by show _ ≤ maxLen; unfold maxLen; omega) (by omega) (by have := f6.size; simp; omega) ?_; intro v' w3 hown' hgrow _; obtain ⟨g', cap', rfl⟩ := ownsRow_succ hown'; obtain ⟨g1, g2, g3, g4, g5, g6⟩ := Dn.app (n₁ := w.heap.size) (by omega) (by omega) f1 (by decide) f2 (by have := f6.size; omega) hown' hgrow; have cO3 := g1.cell; have fO3 := g1.frozen)
      exact ⟨(f6.trans g4).from _, f7.trans g5, ⟨_, g2, by rw [hsn]; simpa using g3, by rw [hsn]; intro q; simp at q⟩, (g5.2 _ (by omega) (by omega)).trans f3, (g5.2 _ (by omega) (by omega)).trans f4, f5.trans g6⟩
  case done =>
    rintro D ys W hD rfl ⟨⟨v, hv, hrow, hG⟩, hbI, hbS, hB⟩ hK
    have hc := hv.cell
    gi_wp2
    refine ⟨by simp, .inl ⟨_, _, rfl, run_takeDeferred hK, ?_⟩⟩
    have hsel : Dn.sel hb (fun j => (Dn.item n1 vr vs j).2.1) (List.range n1) = Dn.res hb vr n1 := rfl
    rw [hsel] at hrow hG
    refine ⟨_, results_tmp rfl _ _ _, v, rfl, ?_, hG, ?_⟩
    · have := Dn.le (ownsRow_putObj hrow (.deferred none) hK rfl) (show w.heap.size ≤ w0.heap.size by omega)
      exact this
    · exact hB.trans (belowK_b (w := w) (Nat.le_refl _) W D _ _ (by omega) hK rfl rfl)
  case stop =>
    rintro D c pre W _ _ h _
    exact h.elim
end
open Go.Eng
/-- The versions of these releases that are in the set. -/
noncomputable def downR (inn : Eng.P) : List Eng.P → Option (List Eng.P)
  | [] => some []
  | x :: t => match f15_v [inn, x.fst] with
    | some (0, b :: _) => (downR inn t).map fun r => bif b.toBool then x.fst :: r else r
    | _ => none
noncomputable def down13_v (ps : List Eng.P) : Option (Nat × List Eng.P) :=
  bif decide (((lf ps 0).snd).fst.xs.length < 1000000000000) then (downR (lf ps 1) (((lf ps 0).snd).fst).xs.reverse).map fun r => (0, [.list r.isEmpty r]) else none
abbrev shSpan : Sh := .pair (.int .i64) (.pair (.int .i64) .unit)
abbrev shNeed : Sh := .pair .str (.pair (.slice shSpan) .unit)
abbrev shRel : Sh := .pair (.int .i64) (.pair (.slice shNeed) .unit)
abbrev shMani : Sh := .pair .str (.pair (.slice shRel) .unit)
noncomputable def down13_e : EntD := ⟨13, [.imm shMani, .imm (.slice shSpan)], down13_v, [fun ps ls qs => ⟨[.own 0 (.int .i64) (lf qs 0).isNil (lf qs 0).xs], [.imm shMani (lf ps 0), .imm (.slice shSpan) (lf ps 1)]⟩]⟩
theorem has_calls {p1 : Eng.P} {v : Value} {w : World} {F : Cells} (hr : Rep w F (.slice shSpan) p1 [v]) (z : Int) {b : Eng.P} {r : List Eng.P} (hv : f15_v [p1, .int .i64 z] = some (0, b :: r)) (W : World) (hW : Below w.heap.size w W) :
    Calls Try.prog 15 #[v, .int .i64 z] W fun e w2 => e = .returned (.bool b.toBool) ∧ Below W.heap.size W w2 := by
  have hfit : fitL [.imm (.slice shSpan), .imm (.int .i64)] [.imm (.slice shSpan) p1, .imm (.int .i64) (.int .i64 z)] = some ([p1, .int .i64 z], []) := by
    simp [fitL, A.fit, Sh.beq_refl]
  have hs := f15_ok _ _ _ hfit _ hv _ rfl
  have hk : Keep w F W (fun _ _ => False) := fun b o v hc _ => ⟨by rw [← hc]; exact hW.cell (p := mkA b o) (cell_lt hc), fun q => q⟩
  have hF : (fun (b o : Nat) => False ∨ inRs [] b o) = fun _ _ => False := by funext b o; simp [inRs]
  have hA : TRelL (fun _ => .arr none 0 0 .unit) W (fun _ _ => False) [.imm (.slice shSpan) p1, .imm (.int .i64) (.int .i64 z)] [v, .int .i64 z] [] :=
    ⟨_, _, [], [], rfl, rfl, ⟨Rep.mono hk _ _ _ hr, rfl⟩, _, _, [], [], rfl, rfl, ⟨⟨z, rfl, rfl⟩, rfl⟩, rfl, rfl⟩
  rcases hs (fun _ _ => False) (fun _ => .arr none 0 0 .unit) W [v, .int .i64 z] [] (by rw [hF]; exact hA) List.Pairwise.nil (fun _ _ _ q => q) (fun _ _ q => q.elim) with ⟨g', h1, h2⟩ | ⟨v', w', h1, _⟩
  · have h1 := (Try.call15 #[v, .int .i64 z] W).symm.trans h1
    injection h1 with h1
    injection h1 with h1
    subst h1
    refine h2.mono ?_
    rintro en w' ⟨vs, R', rfl, hfr, hrel, _, _, hlen⟩
    obtain ⟨Q, S, rfl, h3, _⟩ := TRelL.append [T.imm .bool (lf (b :: r) 0)] hlen hrel
    obtain ⟨x, q, Q1, S1, rfl, rfl, h4, rfl, rfl⟩ := h3
    obtain ⟨⟨bb, hb1, hb2⟩, _⟩ := h4
    have hb1 : b = .bool bb := hb1
    injection hb2 with hb2
    subst hb1; subst hb2
    exact ⟨rfl, hfr.below fun c o _ hin => by obtain ⟨y, hy, _⟩ := hin; cases hy⟩
  · have h1 := (Try.call15 #[v, .int .i64 z] W).symm.trans h1
    injection h1 with h1
    cases h1
def hbOf (inn : Eng.P) (z : Int) : Prop := ∃ b r, f15_v [inn, .int .i64 z] = some (0, b :: r) ∧ b.toBool = true
theorem downR_spec {inn : Eng.P} {hb : Int → Bool} (hhb : ∀ z b r, f15_v [inn, .int .i64 z] = some (0, b :: r) → hb z = b.toBool) : ∀ (l r : List Eng.P), (∀ x ∈ l, ∃ i, x.fst = .int .i64 i) → downR inn l = some r →
    (∀ x ∈ l, ∃ b q, f15_v [inn, x.fst] = some (0, b :: q)) ∧ r = ((l.map fun x => x.fst.toInt).filter hb).map (Eng.P.int .i64)
  | [], r, _, h => by simp [downR] at h; subst h; exact ⟨by simp, rfl⟩
  | x :: t, r, hx, h => by
    obtain ⟨i, hi⟩ := hx x (by simp)
    simp only [downR] at h
    split at h
    · rename_i b q hq
      obtain ⟨r', hr', rfl⟩ := Option.map_eq_some_iff.1 h
      obtain ⟨h1, h2⟩ := downR_spec hhb t r' (fun y hy => hx y (by simp [hy])) hr'
      refine ⟨fun y hy => ?_, ?_⟩
      · rcases List.mem_cons.1 hy with rfl | hy
        · exact ⟨b, q, hq⟩
        · exact h1 y hy
      · have hbi := hhb i b q (by rw [← hi]; exact hq)
        rw [List.map_cons, List.filter_cons, hi]
        show _ = List.map (Eng.P.int .i64) (if hb i = true then i :: _ else _)
        rw [hbi]
        cases b.toBool with
        | true => rw [cond_true, if_pos rfl, List.map_cons, ← h2]
        | false => rw [cond_false, if_neg (by simp), ← h2]
    · cases h
theorem fit_imm {s : Sh} {t : T} {ps : List Eng.P} {ls : List Nat} (h : A.fit (.imm s) t = some (ps, ls)) : ∃ p, t = .imm s p ∧ ps = [p] ∧ ls = [] := by
  cases t <;> simp only [A.fit] at h <;> try (cases h; done)
  split at h
  · rename_i hb
    cases h
    exact ⟨_, by rw [Sh.beq_eq hb], rfl, rfl⟩
  · cases h
theorem fitL_cons {a : A} {r : List A} {t : T} {q : List T} {ps : List Eng.P} {ls : List Nat} (h : fitL (a :: r) (t :: q) = some (ps, ls)) : ∃ p1 l1 p2 l2, a.fit t = some (p1, l1) ∧ fitL r q = some (p2, l2) ∧ ps = p1 ++ p2 ∧ ls = l1 ++ l2 := by
  simp only [fitL] at h
  split at h
  · rename_i h1 h2
    cases h
    exact ⟨_, _, _, _, h1, h2, rfl, rfl⟩
  · cases h
open Classical in
theorem down13_ok : OkEnt Try.prog down13_e := by
  intro ts ps ls hfit v hv g hg X ml w cargs R hrel hdj hRX hX
  obtain ⟨p0, p1, rfl, rfl, rfl⟩ : ∃ p0 p1, ts = [.imm shMani p0, .imm (.slice shSpan) p1] ∧ ps = [p0, p1] ∧ ls = [] := by
    match ts with
    | [] => cases hfit
    | t0 :: ts =>
      obtain ⟨a0, b0, a2, b2, h1, h2, rfl, rfl⟩ := fitL_cons hfit
      obtain ⟨p0, rfl, rfl, rfl⟩ := fit_imm h1
      match ts with
      | [] => cases h2
      | t1 :: ts =>
        obtain ⟨a3, b3, a4, b4, h3, h4, rfl, rfl⟩ := fitL_cons h2
        obtain ⟨p1, rfl, rfl, rfl⟩ := fit_imm h3
        match ts with
        | [] => cases h4; exact ⟨p0, p1, rfl, rfl, rfl⟩
        | _ :: _ => cases h4
  obtain ⟨x0, q0, Q0, S0', rfl, rfl, h0, x1, q1, Q1, S1, rfl, rfl, h1, rfl, rfl⟩ := hrel
  obtain ⟨cs, rfl, h0, rfl⟩ : ∃ cs, x0 = .agg cs ∧ Rep w (fun b o => X b o ∨ inRs (Q0 ++ (Q1 ++ [])) b o) shMani p0 cs.toList ∧ Q0 = [] := h0
  obtain ⟨h1, rfl⟩ : Rep w (fun b o => X b o ∨ inRs ([] ++ (Q1 ++ [])) b o) (.slice shSpan) p1 [x1] ∧ Q1 = [] := h1
  generalize hF : (fun b o => X b o ∨ inRs ([] ++ ([] ++ [])) b o) = F at h0 h1
  have h0' := h0
  have h1' := h1
  obtain ⟨a1, ys, cap1, hp1, hx1, hle1, hna1, _⟩ := h1
  injection hx1 with hx1
  obtain ⟨y0, y1, c0, c1, rfl, hcs, ⟨nm, rfl, rfl⟩, y2, y3, c2, c3, rfl, rfl, hsl, rfl, rfl⟩ := h0
  obtain ⟨a, xs, cap, rfl, rfl, hle, hna, hel⟩ := hsl
  obtain rfl : cs = #[.string nm, .slice a xs.length cap] := by apply Array.ext'; simpa using hcs
  replace hv : (bif decide (xs.length < 1000000000000) then (downR p1 xs.reverse).map fun r => (0, [Eng.P.list r.isEmpty r]) else none) = some v := hv
  obtain ⟨hlen, hv⟩ := cond_some hv
  have hlen : xs.length < 1000000000000 := of_decide_eq_true hlen
  obtain ⟨r, hr, rfl⟩ := Option.map_eq_some_iff.1 hv
  replace hg : some _ = some g := hg
  obtain rfl := Option.some.inj hg
  have hat : ∀ i, ∃ q : Int × Option Addr × Nat × Nat, i < xs.length → (rd xs i).fst = .int .i64 q.1 ∧ ∀ b o, a = some (mkA b o) → w.cell? (mkA b (o + i * 2)) = some (.int .i64 q.1) ∧ w.cell? (mkA b (o + i * 2 + 1)) = some (.slice q.2.1 q.2.2.1 q.2.2.2) := by
    intro i
    by_cases hi : i < xs.length
    · obtain ⟨b, o, c, ha, hc, hsg⟩ := hel i hi
      obtain ⟨z0, z1, d0, d1, hz, rfl, ⟨n, rfl, rfl⟩, z2, z3, d2, d3, rfl, rfl, hz2, rfl, rfl⟩ := hc
      obtain ⟨a', xs', cap', rfl, rfl, _⟩ := hz2
      refine ⟨(n, a', xs'.length, cap'), fun _ => ⟨by rw [hz]; rfl, fun b' o' e => ?_⟩⟩
      rw [ha] at e
      injection e with e
      injection e with e1 e2
      subst e1; subst e2
      exact ⟨(hsg 0 _ rfl).1, (hsg 1 _ rfl).1⟩
    · exact ⟨(0, none, 0, 0), fun h => absurd h hi⟩
  obtain ⟨qf, hqf⟩ : ∃ qf : Nat → Int × Option Addr × Nat × Nat, ∀ i, i < xs.length → (rd xs i).fst = .int .i64 (qf i).1 ∧ ∀ b o, a = some (mkA b o) → w.cell? (mkA b (o + i * 2)) = some (.int .i64 (qf i).1) ∧ w.cell? (mkA b (o + i * 2 + 1)) = some (.slice (qf i).2.1 (qf i).2.2.1 (qf i).2.2.2) :=
    ⟨fun i => Classical.choose (hat i), fun i => Classical.choose_spec (hat i)⟩
  have hhb : ∀ z b q, f15_v [p1, .int .i64 z] = some (0, b :: q) → decide (hbOf p1 z) = b.toBool := by
    intro z b q hq
    cases hbb : b.toBool with
    | true => exact decide_eq_true ⟨b, q, hq, hbb⟩
    | false =>
      refine decide_eq_false ?_
      rintro ⟨b', q', h1, h2⟩
      rw [hq] at h1
      cases h1
      rw [hbb] at h2; cases h2
  have hfst : ∀ x ∈ xs.reverse, ∃ i, x.fst = .int .i64 i := by
    intro x hx
    obtain ⟨j, hj, rfl⟩ := List.getElem_of_mem (List.mem_reverse.1 hx)
    have := (hqf j hj).1
    rw [show rd xs j = xs[j] by simp [rd, List.getD_eq_getElem?_getD, hj]] at this
    exact ⟨_, this⟩
  obtain ⟨hall, hres⟩ := downR_spec hhb xs.reverse r hfst hr
  have hvr : xs.reverse.map (fun x => x.fst.toInt) = (List.range xs.length).map fun j => (qf (xs.length - 1 - j)).1 := by
    apply List.ext_getElem (by simp)
    intro j g1 g2
    have hj : j < xs.length := by simpa using g1
    have := (hqf (xs.length - 1 - j) (by omega)).1
    rw [show rd xs (xs.length - 1 - j) = xs[xs.length - 1 - j] by simp [rd, List.getD_eq_getElem?_getD, show xs.length - 1 - j < xs.length by omega]] at this
    rw [List.getElem_map, List.getElem_map, List.getElem_range, List.getElem_reverse, this]
    rfl
  have hR : Dn.res (fun z => decide (hbOf p1 z)) (fun j => (qf j).1) xs.length = (xs.reverse.map fun x => x.fst.toInt).filter fun z => decide (hbOf p1 z) := by
    unfold Dn.res
    rw [hvr]
  have hrow : 0 < xs.length → ∃ ad, a = some ad ∧ ad.block < w.heap.size ∧ ∀ j, j < xs.length → w.cell? (ad.add (j * 2)) = some (.int .i64 (qf j).1) ∧ w.cell? ⟨(ad.add (j * 2)).block, (ad.add (j * 2)).off + 1, none⟩ = some (.slice (qf j).2.1 (qf j).2.2.1 (qf j).2.2.2) := by
    intro h
    obtain ⟨b, o, c, ha, _⟩ := hel 0 h
    have hb := ((hqf 0 h).2 b o ha).1
    refine ⟨mkA b o, ha, cell_lt hb, fun j hj => ?_⟩
    rw [mkA_add]
    exact (hqf j hj).2 b o ha
  have hwalk := Dn.walk nm a xs.length cap (fun j => (qf j).1) (fun j => (qf j).2) a1 ys.length cap1 (fun z => decide (hbOf p1 z)) w hrow hlen fun W hW j hj => by
    have hm : rd xs j ∈ xs.reverse := by
      rw [show rd xs j = xs[j] by simp [rd, List.getD_eq_getElem?_getD, hj]]
      exact List.mem_reverse.2 (List.getElem_mem hj)
    obtain ⟨b, q, hq⟩ := hall _ hm
    rw [(hqf j hj).1] at hq
    rw [hhb _ _ _ hq]
    have := has_calls h1' (qf j).1 hq W hW
    rw [hx1] at this
    exact this
  refine .inl ⟨13, Try.call13 _ _, ?_⟩
  rw [hx1]
  refine hwalk.mono ?_
  rintro e w' ⟨v0, rfl, ⟨hwl, hown⟩, hnil, hbel⟩
  rw [hR] at hwl hown hnil
  generalize hL : (xs.reverse.map fun x => x.fst.toInt).filter (fun z => decide (hbOf p1 z)) = L at *
  subst hres
  have hk : ∀ R' : List Rng, (∀ b o, inRs R' b o → w.heap.size ≤ b) → Keep w F w' (fun b o => X b o ∨ inRs R' b o) := by
    intro R' hR' b o u hc hf
    have hlt := cell_lt hc
    refine ⟨by rw [← hc]; exact hbel.cell (p := mkA b o) hlt, ?_⟩
    rintro (q | q)
    · exact hf (by rw [← hF]; exact .inl q)
    · have := hR' b o q; omega
  have hargs : ∀ R' : List Rng, (∀ b o, inRs R' b o → w.heap.size ≤ b) → TRelL ml w' (fun b o => X b o ∨ inRs R' b o) [.imm shMani (.pair (.str nm) (.pair (.list a.isNone xs) .unit)), .imm (.slice shSpan) p1] [.agg #[.string nm, .slice a xs.length cap], .slice a1 ys.length cap1] [] := fun R' hR' =>
    ⟨_, _, [], [], rfl, rfl, ⟨_, rfl, Rep.mono (hk R' hR') _ _ _ h0', rfl⟩, _, _, [], [], rfl, rfl, ⟨by rw [← hx1]; exact Rep.mono (hk R' hR') _ _ _ h1', rfl⟩, rfl, rfl⟩
  by_cases hz : L.length = 0
  · obtain rfl := List.eq_nil_of_length_eq_zero hz
    obtain rfl := hnil rfl
    refine ⟨[.slice none 0 0], [], rfl, Fr.of_below hbel (fun k => k.elim) _, ⟨_, _, [], [], rfl, rfl, ⟨none, 0, rfl, fun h => absurd rfl h, rfl, Nat.le_refl _, fun _ => rfl, fun b o h => (by cases h), rfl⟩, hargs [] (fun b o h => (by obtain ⟨y, hy, _⟩ := h; cases hy))⟩, List.Pairwise.nil, fun b o h => .inl h, rfl⟩
  · rcases hown with ⟨_, h⟩ | ⟨gb, capo, cur, rfl, hgb, hheap, hcap, _, hsz, htk⟩
    · exact absurd h hz
    have hcell : ∀ o, w'.cell? (mkA gb o) = cur[o]? := fun o => by simp [World.cell?, mkA, hheap]
    have hfro : ∀ o, w'.frozen? (mkA gb o) = false := fun o => by simp [World.frozen?, mkA, hheap]
    have hR' : ∀ b o, inRs [(gb, 0, some (capo * 1))] b o → w.heap.size ≤ b := by
      rintro b o ⟨y, hy, hh⟩
      obtain rfl := List.mem_singleton.1 hy
      have := hh.1
      omega
    refine ⟨[.slice (some ⟨gb, 0, none⟩) L.length capo], [(gb, 0, some (capo * 1))], rfl, Fr.of_below hbel (fun k => k.elim) _, ⟨_, _, [(gb, 0, some (capo * 1))], [], rfl, rfl, ⟨some (gb, 0), capo, by simp [adr, mkA, P.xs, lf], fun h => absurd rfl h, ?_, by simpa [P.xs, lf] using hcap, fun h => (by cases h), ?_, by simp [Loc.rng, Sh.size]⟩, hargs _ hR'⟩, List.pairwise_singleton _ _, fun b o h => .inr (hR' b o h), rfl⟩
    · cases L with
      | nil => exact absurd rfl hz
      | cons _ _ => rfl
    · rintro b o h
      cases h
      refine ⟨fun i hi => ?_, fun j hj => ?_⟩
      · have hi : i < L.length := by simpa [P.xs, lf] using hi
        refine ⟨[.int .i64 L[i]], ⟨L[i], ?_, rfl⟩, ?_⟩
        · show rd (L.map (Eng.P.int .i64)) i = _
          simp [rd, List.getD_eq_getElem?_getD, hi]
        · intro j u hu
          have hj : j = 0 := by
            cases j with
            | zero => rfl
            | succ j => simp at hu
          subst hj
          have hu : Value.int .i64 L[i] = u := by simpa using hu
          subst hu
          refine ⟨?_, hfro _⟩
          rw [hcell]
          have hlt : i < (cur.toList.take (L.length * 1)).length := by rw [htk]; simpa using hi
          have : (cur.toList.take (L.length * 1))[i]? = some (.int .i64 L[i]) := by rw [htk]; simp [hi]
          rw [List.getElem?_take_of_lt (by omega)] at this
          simpa [Sh.size] using this
      · have hj : j < capo := by simpa [Sh.size] using hj
        refine ⟨cur[j]'(by omega), ?_, hfro _⟩
        rw [hcell, Nat.zero_add]
        exact Array.getElem?_eq_getElem _
end Go.Proofs.Ytihenfpnilliiaa
