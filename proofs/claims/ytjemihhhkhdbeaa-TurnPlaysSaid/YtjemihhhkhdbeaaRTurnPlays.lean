/- The statement TurnPlays: at every input that can be read the Go function tells true, and its arguments read afterwards as before. Conditions: none. -/
import Derived.Test.YtjemihhhkhdbeaaRows
import Derived.Test.YtjemihhhkhdbeaaTv6
import Derived.WalkKit
import Derived.ProofKit
import Derived.OpenShut
import Derived.ShutString
import Derived.ChangeOld
import Derived.Below
import Derived.SizedLaws
namespace Go.Proofs.Ytjemihhhkhdbeaa.turnPlays
open Go Go.Eng Go.ChangeShapes Go.WideShapes Go.ChangeAt Go.RowKit
set_option linter.unusedVariables false
theorem own : ownKnob Try.prog.godebug = none := by kernel_rfl
theorem laidOut : laidOutB Try.prog = true := by kernel_rfl
set_option maxRecDepth 100000 in
theorem lifted (os : Os) (started : os.Started) (H : Type) (enc : TypeId × Value → H) :
    ReturnsInHanded {} Try.checked os 6 .any (Rows.turnPlaysSpec.pre6 enc Try.prog Try.f6 Rows.turnPlaysRow.domain false) (Rows.turnPlaysSpec.post enc Try.prog Try.f6 false true false false) := by
  refine returnsInHanded_of_change_sized (C := Try.checked) own started (by kernel_rfl) Try.func6
    (ChangeSpec.witness6 (enc := enc) (C := Try.checked) false ⟨#[], #[.int .i64 0, .slice none 0 0], []⟩ 8 (by kernel_rfl) (by kernel_rfl) (by kernel_rfl) (by kernel_rfl)) ?_
  intro W base args ds gs before hval0 hW hcnd hsz0 _
  have hval : ∀ (j : Nat) t v, Try.f6.params[j]? = some t → args[j]? = some v → Value.okWide Try.prog W .any base t v := hval0
  have hW' := hW
  obtain ⟨p, q, hA0, hV, rfl, hfz, hnd⟩ := hW
  have hA : DataW.TrodAll enc Try.prog W 0 (fun _ => true) true Try.f6.params.toList args.toList ds p := hA0
  rw [Try.params6] at hA hval
  obtain ⟨v0, vs0, d0, ds0, p0, q0, hargs, rfl, rfl, h0, r0⟩ := trodAll_cons hA
  obtain ⟨v1, vs1, d1, ds1, p1, q1, rfl, rfl, rfl, h1, r1⟩ := trodAll_cons r0
  obtain ⟨rfl, rfl, rfl⟩ := trodAll_nil r1
  obtain rfl : args = #[v0, v1] := by cases args; simp_all
  obtain ⟨rfl, rfl⟩ := trodVars_none hV
  have k0 := h0
  have lt0 : ∀ x ∈ p0, x.block < W.heap.size := by obtain ⟨m, hm⟩ := k0; exact DataW.trod_lt m _ _ _ hm
  obtain ⟨x0, g0, t0⟩ := arg_trel (P := Try.prog) (n := 12) (sh := (.int .i64)) (by kernel_rfl) (by kernel_rfl) (hval 0 3 v0 rfl rfl) h0
  have k1 := h1
  have lt1 : ∀ x ∈ p1, x.block < W.heap.size := by obtain ⟨m, hm⟩ := k1; exact DataW.trod_lt m _ _ _ hm
  obtain ⟨x1, g1, t1⟩ := arg_trel (P := Try.prog) (n := 12) (sh := (.slice (.pair (.int .i64) (.pair (.int .i64) (.pair .str .unit))))) (by kernel_rfl) (by kernel_rfl) (hval 1 45 v1 rfl rfl) h1
  have hTR : TRelL (fun _ => .arr none 0 0 .unit) W (fun _ _ => False) [.imm (.int .i64) x0, .imm (.slice (.pair (.int .i64) (.pair (.int .i64) (.pair .str .unit)))) x1] [v0, v1] [] := ⟨_, _, [], [], rfl, rfl, t0 _, _, _, [], [], rfl, rfl, t1 _, rfl, rfl⟩
  have hS := f6_ok [.imm (.int .i64) x0, .imm (.slice (.pair (.int .i64) (.pair (.int .i64) (.pair .str .unit)))) x1] [x0, x1] [] (by kernel_rfl) (0, [.bool true]) (turnPlays_pure (TRel1.cn (t0 fun _ => .arr none 0 0 .unit)) (TRel1.cn (t1 fun _ => .arr none 0 0 .unit))) _ rfl
  refine (law_calls Try.call6 hS hTR).mono fun e W' hpost => ?_
  obtain ⟨he, bel⟩ := hpost
  subst he
  exact ⟨_, rfl, _, _, _, [], _, [], hW', trodAll_mk1 (shut_bool Try.underlying4 _), (trodAll_cons_mk (Below.trod laidOut (by kernel_rfl) (of_decide_eq_true (by kernel_rfl)) k0 bel lt0) (trodAll_cons_mk (Below.trod laidOut (by kernel_rfl) (of_decide_eq_true (by kernel_rfl)) k1 bel lt1) trodAll_mk0)), rfl, bel.frame _, fun h => by cases h⟩
theorem over : Rows.turnPlaysRow.holds Try.pinned (OpenSpec.ofChange Rows.turnPlaysSpec) :=
  OpenClaim.holds_of_wide 6 Try.f6 rfl rfl rfl rfl rfl rfl rfl ⟨rfl, rfl, rfl, rfl, rfl⟩ rfl rfl rfl rfl rfl (by kernel_rfl) Try.func6 (by kernel_rfl)
    (of_decide_eq_true (by kernel_rfl)) (by unfold Func.isWrapper; first | (rw [if_pos (by decide +kernel)]; kernel_rfl) | (rw [if_neg (by decide +kernel)]; exact ⟨rfl, rfl⟩))
    (fun os started H enc _ => lifted os started H enc)
theorem proved : Rows.TurnPlaysSaid := over
#print axioms proved
end Go.Proofs.Ytjemihhhkhdbeaa.turnPlays
namespace Go.Proofs.Ytjemihhhkhdbeaa
/-- The row, under a short name, for the claim. -/
theorem turnPlays_holds : Rows.TurnPlaysSaid := turnPlays.proved
end Go.Proofs.Ytjemihhhkhdbeaa
