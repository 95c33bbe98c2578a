/- The comparison of spans by their beginnings. Conditions: none. -/
import Derived.Test.YtihenfpnilliiaaFMtSs
import Derived.Test.YtihenfpnilliiaaShelfSpan
import Derived.Test.YtihenfpnilliiaaE4
set_option linter.unusedVariables false
namespace Go.Proofs.Ytihenfpnilliiaa
open Go Go.Eng Go.Sort
def sort49_50_cf (p q : P) : Int := if p.fst.toInt < q.fst.toInt then -1 else if p.fst.toInt > q.fst.toInt then 1 else 0
theorem sort49_50_lay : Go.Proofs.SlLaysF0.n6 Try.prog Try.sortSpan_ren := Try.sortSpan
theorem cf_lt (p q : P) : ltOf sort49_50_cf p q = decide (p.fst.toInt < q.fst.toInt) := by
  unfold ltOf sort49_50_cf
  by_cases h : p.fst.toInt < q.fst.toInt
  · simp [h]
  · by_cases h2 : p.fst.toInt > q.fst.toInt <;> simp [h, h2]
theorem sort49_50_swo : SWO (ltOf sort49_50_cf) where
  irrefl x := by simp [cf_lt]
  trans x y z h1 h2 := by simp [cf_lt] at *; omega
  ntrans x y z h1 h2 := by simp [cf_lt] at *; omega
theorem f64_told (x : P) : f64_v [x] = some (0, [.bool false]) := by
  simp [f64_v, f64_t, Tree.run, lf0]
theorem f51_told (x y : P) : f51_v [x, y] = some (0, [.int .i64 (if x.toInt < y.toInt then -1 else if x.toInt > y.toInt then 1 else 0)]) := by
  simp only [f51_v, f51_t, Tree.run, lf0, lfs, f64_told, Option.bind_some, nb_same, cond_true, P.toBool, cond_false]
  by_cases h : x.toInt < y.toInt
  · simp [h]
  · by_cases h2 : x.toInt > y.toInt <;> simp [h, h2]
theorem sort49_50_told (x y : P) : f50_v [canon (.pair (.int .i64) (.pair (.int .i64) .unit)) x, canon (.pair (.int .i64) (.pair (.int .i64) .unit)) y] = some (0, [.int .i64 (sort49_50_cf x y)]) := by
  simp only [f50_v, f50_t, Tree.run, lf0, lfs, f51_told, Option.bind_some, nb_same, cond_true, canon, P.fst, P.toInt]
  rfl
end Go.Proofs.Ytihenfpnilliiaa
