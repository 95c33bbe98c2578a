/- The comparisons of sorts: what each tells. Conditions: none. -/
import Derived.Test.YtjemihhhkhdbeaaE4
import Derived.Test.YtjemihhhkhdbeaaProg
import Derived.KernelRfl
open Go Go.Eng Go.Proofs
set_option pp.deepTerms true
set_option linter.unusedVariables false
namespace Go.Proofs.Ytjemihhhkhdbeaa
/-! ### cmp.isNaN[int] -/
noncomputable def f181_t (ps : List P) : Tree (Nat × List P) :=
 .ret (0, [.bool (((lf ps 0).toInt) != ((lf ps 0).toInt))])
noncomputable def f181_v (ps : List P) : Option (Nat × List P) := (f181_t ps).run some
noncomputable def f181_e : EntD := ⟨181, [.imm (.int .i64)], f181_v, [fun ps ls qs => ⟨[.imm .bool (lf qs 0)], [.imm (.int .i64) (lf ps 0)]⟩]⟩
noncomputable def f181_u : List Cu := []
noncomputable def f181_c : Cx := ⟨Try.prog, envOf [], 6, lOf f181_u⟩
noncomputable def f181_b : Code := match Try.f181.body with | some b => b | none => .skip
theorem f181_x (ps : List P) (ls : List Nat) : execFn f181_c 181 f181_e.tm (explF ps 1 0) ls = (f181_t ps).run fun q => altR (f181_e.res.map fun f => f ps ls) 0 q some := by kernel_rfl
theorem f181_ok : OkEnt Try.prog f181_e := ent_ok (c := f181_c) (g := 181) (body := f181_b) (us := f181_u) (n := 1) (t := f181_t) (good_envOf _ trivial) Try.func181 rfl Try.call181 rfl trivial (by kernel_rfl) f181_x (fun _ => rfl)
/-! ### cmp.Compare[int] -/
noncomputable def f142_t (ps : List P) : Tree (Nat × List P) :=
 .loop (f181_v [lf ps 0]) fun x1 =>
  .ite (Nat.beq x1.1 0) (
   .loop (f181_v [lf ps 1]) fun x2 =>
    .ite (Nat.beq x2.1 0) (
     .ite ((lf x1.2 0).toBool) (
      .ite ((lf x2.2 0).toBool) (
       .ret (0, [.int .i64 (0 : Int)])) (
       .ret (0, [.int .i64 (-1 : Int)]))) (
      .ite ((lf x2.2 0).toBool) (
       .ret (0, [.int .i64 (1 : Int)])) (
       .ite (decide ((lf ps 0).toInt < (lf ps 1).toInt)) (
        .ret (0, [.int .i64 (-1 : Int)])) (
        .ite (decide ((lf ps 0).toInt > (lf ps 1).toInt)) (
         .ret (0, [.int .i64 (1 : Int)])) (
         .ret (0, [.int .i64 (0 : Int)])))))) (
     .fail)) (
   .fail)
noncomputable def f142_v (ps : List P) : Option (Nat × List P) := (f142_t ps).run some
noncomputable def f142_e : EntD := ⟨142, [.imm (.int .i64), .imm (.int .i64)], f142_v, [fun ps ls qs => ⟨[.imm (.int .i64) (lf qs 0)], [.imm (.int .i64) (lf ps 0), .imm (.int .i64) (lf ps 1)]⟩]⟩
noncomputable def f142_u : List Cu := []
noncomputable def f142_c : Cx := ⟨Try.prog, envOf [f181_e], 20, lOf f142_u⟩
noncomputable def f142_b : Code := match Try.f142.body with | some b => b | none => .skip
theorem f142_x (ps : List P) (ls : List Nat) : execFn f142_c 142 f142_e.tm (explF ps 2 0) ls = (f142_t ps).run fun q => altR (f142_e.res.map fun f => f ps ls) 0 q some := by kernel_rfl
theorem f142_ok : OkEnt Try.prog f142_e := ent_ok (c := f142_c) (g := 142) (body := f142_b) (us := f142_u) (n := 2) (t := f142_t) (good_envOf _ ⟨f181_ok, trivial⟩) Try.func142 rfl Try.call142 rfl trivial (by kernel_rfl) f142_x (fun _ => rfl)
/-! ### comprador/span.Of$1 -/
noncomputable def f156_t (ps : List P) : Tree (Nat × List P) :=
 .loop (f142_v [(lf ps 0).fst, (lf ps 1).fst]) fun x1 =>
  .ite (Nat.beq x1.1 0) (
   .ret (0, [lf x1.2 0])) (
   .fail)
noncomputable def f156_v (ps : List P) : Option (Nat × List P) := (f156_t ps).run some
noncomputable def f156_e : EntD := ⟨156, [.imm (.pair (.int .i64) (.pair (.int .i64) .unit)), .imm (.pair (.int .i64) (.pair (.int .i64) .unit))], f156_v, [fun ps ls qs => ⟨[.imm (.int .i64) (lf qs 0)], [.imm (.pair (.int .i64) (.pair (.int .i64) .unit)) (lf ps 0), .imm (.pair (.int .i64) (.pair (.int .i64) .unit)) (lf ps 1)]⟩]⟩
noncomputable def f156_u : List Cu := []
noncomputable def f156_c : Cx := ⟨Try.prog, envOf [f142_e], 10, lOf f156_u⟩
noncomputable def f156_b : Code := match Try.f156.body with | some b => b | none => .skip
theorem f156_x (ps : List P) (ls : List Nat) : execFn f156_c 156 f156_e.tm (explF ps 2 0) ls = (f156_t ps).run fun q => altR (f156_e.res.map fun f => f ps ls) 0 q some := by kernel_rfl
theorem f156_ok : OkEnt Try.prog f156_e := ent_ok (c := f156_c) (g := 156) (body := f156_b) (us := f156_u) (n := 2) (t := f156_t) (good_envOf _ ⟨f142_ok, trivial⟩) Try.func156 rfl Try.call156 rfl trivial (by kernel_rfl) f156_x (fun _ => rfl)
end Go.Proofs.Ytjemihhhkhdbeaa
