/- The comparison of spans by their beginnings. Conditions: none. -/
import Derived.Test.YtjemihhhkhdbeaaFDoc
import Derived.Test.YtjemihhhkhdbeaaShelfSpan
import Derived.Test.YtjemihhhkhdbeaaE4
set_option linter.unusedVariables false
namespace Go.Proofs.Ytjemihhhkhdbeaa
open Go Go.Eng Go.Sort
def sort155_156_cf (p q : P) : Int := if p.fst.toInt < q.fst.toInt then -1 else if p.fst.toInt > q.fst.toInt then 1 else 0
theorem sort155_156_lay : Go.Proofs.SlLaysF0.n6 Try.prog Try.sortSpan_ren := Try.sortSpan
theorem cf_lt (p q : P) : ltOf sort155_156_cf p q = decide (p.fst.toInt < q.fst.toInt) := by
  unfold ltOf sort155_156_cf
  by_cases h : p.fst.toInt < q.fst.toInt
  · simp [h]
  · by_cases h2 : p.fst.toInt > q.fst.toInt <;> simp [h, h2]
theorem sort155_156_swo : SWO (ltOf sort155_156_cf) where
  irrefl x := by simp [cf_lt]
  trans x y z h1 h2 := by simp [cf_lt] at *; omega
  ntrans x y z h1 h2 := by simp [cf_lt] at *; omega
theorem f181_told (x : P) : f181_v [x] = some (0, [.bool false]) := by
  simp [f181_v, f181_t, Tree.run, lf0]
theorem f142_told (x y : P) : f142_v [x, y] = some (0, [.int .i64 (if x.toInt < y.toInt then -1 else if x.toInt > y.toInt then 1 else 0)]) := by
  simp only [f142_v, f142_t, Tree.run, lf0, lfs, f181_told, Option.bind_some, nb_same, cond_true, P.toBool, cond_false]
  by_cases h : x.toInt < y.toInt
  · simp [h]
  · by_cases h2 : x.toInt > y.toInt <;> simp [h, h2]
theorem sort155_156_told (x y : P) : f156_v [canon (.pair (.int .i64) (.pair (.int .i64) .unit)) x, canon (.pair (.int .i64) (.pair (.int .i64) .unit)) y] = some (0, [.int .i64 (sort155_156_cf x y)]) := by
  simp only [f156_v, f156_t, Tree.run, lf0, lfs, f142_told, Option.bind_some, nb_same, cond_true, canon, P.fst, P.toInt]
  rfl
end Go.Proofs.Ytjemihhhkhdbeaa
