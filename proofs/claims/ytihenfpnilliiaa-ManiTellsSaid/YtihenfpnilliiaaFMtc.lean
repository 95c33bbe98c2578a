/- The comparisons of sorts: what each tells. Conditions: none. -/
import Derived.Test.YtihenfpnilliiaaE3
import Derived.Test.YtihenfpnilliiaaProg
import Derived.KernelRfl
open Go Go.Eng Go.Proofs
set_option pp.deepTerms true
set_option linter.unusedVariables false
namespace Go.Proofs.Ytihenfpnilliiaa
/-! ### cmp.isNaN[int] -/
noncomputable def f64_t (ps : List P) : Tree (Nat × List P) :=
 .ret (0, [.bool (((lf ps 0).toInt) != ((lf ps 0).toInt))])
noncomputable def f64_v (ps : List P) : Option (Nat × List P) := (f64_t ps).run some
noncomputable def f64_e : EntD := ⟨64, [.imm (.int .i64)], f64_v, [fun ps ls qs => ⟨[.imm .bool (lf qs 0)], [.imm (.int .i64) (lf ps 0)]⟩]⟩
noncomputable def f64_u : List Cu := []
noncomputable def f64_c : Cx := ⟨Try.prog, envOf [], 6, lOf f64_u⟩
noncomputable def f64_b : Code := match Try.f64.body with | some b => b | none => .skip
theorem f64_x (ps : List P) (ls : List Nat) : execFn f64_c 64 f64_e.tm (explF ps 1 0) ls = (f64_t ps).run fun q => altR (f64_e.res.map fun f => f ps ls) 0 q some := by kernel_rfl
theorem f64_okT : OkEntK True Try.prog f64_e := ent_ok (c := f64_c) (g := 64) (body := f64_b) (us := f64_u) (n := 1) (t := f64_t) (good_envOf _ trivial) Try.func64 rfl Try.call64 rfl trivial (by kernel_rfl) f64_x (fun _ => rfl)
theorem f64_ok : OkEnt Try.prog f64_e := f64_okT.weak
/-! ### cmp.Compare[int] -/
noncomputable def f51_t (ps : List P) : Tree (Nat × List P) :=
 .loop (f64_v [lf ps 0]) fun x1 =>
  .ite (Nat.beq x1.1 0) (
   .loop (f64_v [lf ps 1]) fun x2 =>
    .ite (Nat.beq x2.1 0) (
     .ite ((lf x1.2 0).toBool) (
      .ite ((lf x2.2 0).toBool) (
       .ret (0, [.int .i64 (0 : Int)])) (
       .ret (0, [.int .i64 (-1 : Int)]))) (
      .ite ((lf x2.2 0).toBool) (
       .ret (0, [.int .i64 (1 : Int)])) (
       .ite (decide ((lf ps 0).toInt < (lf ps 1).toInt)) (
        .ret (0, [.int .i64 (-1 : Int)])) (
        .ite (decide ((lf ps 0).toInt > (lf ps 1).toInt)) (
         .ret (0, [.int .i64 (1 : Int)])) (
         .ret (0, [.int .i64 (0 : Int)])))))) (
     .fail)) (
   .fail)
noncomputable def f51_v (ps : List P) : Option (Nat × List P) := (f51_t ps).run some
noncomputable def f51_e : EntD := ⟨51, [.imm (.int .i64), .imm (.int .i64)], f51_v, [fun ps ls qs => ⟨[.imm (.int .i64) (lf qs 0)], [.imm (.int .i64) (lf ps 0), .imm (.int .i64) (lf ps 1)]⟩]⟩
noncomputable def f51_u : List Cu := []
noncomputable def f51_c : Cx := ⟨Try.prog, envOf [f64_e], 20, lOf f51_u⟩
noncomputable def f51_b : Code := match Try.f51.body with | some b => b | none => .skip
theorem f51_x (ps : List P) (ls : List Nat) : execFn f51_c 51 f51_e.tm (explF ps 2 0) ls = (f51_t ps).run fun q => altR (f51_e.res.map fun f => f ps ls) 0 q some := by kernel_rfl
theorem f51_okT : OkEntK True Try.prog f51_e := ent_ok (c := f51_c) (g := 51) (body := f51_b) (us := f51_u) (n := 2) (t := f51_t) (good_envOf _ ⟨f64_okT, trivial⟩) Try.func51 rfl Try.call51 rfl trivial (by kernel_rfl) f51_x (fun _ => rfl)
theorem f51_ok : OkEnt Try.prog f51_e := f51_okT.weak
/-! ### comprador/span.Of$1 -/
noncomputable def f50_t (ps : List P) : Tree (Nat × List P) :=
 .loop (f51_v [(lf ps 0).fst, (lf ps 1).fst]) fun x1 =>
  .ite (Nat.beq x1.1 0) (
   .ret (0, [lf x1.2 0])) (
   .fail)
noncomputable def f50_v (ps : List P) : Option (Nat × List P) := (f50_t ps).run some
noncomputable def f50_e : EntD := ⟨50, [.imm (.pair (.int .i64) (.pair (.int .i64) .unit)), .imm (.pair (.int .i64) (.pair (.int .i64) .unit))], f50_v, [fun ps ls qs => ⟨[.imm (.int .i64) (lf qs 0)], [.imm (.pair (.int .i64) (.pair (.int .i64) .unit)) (lf ps 0), .imm (.pair (.int .i64) (.pair (.int .i64) .unit)) (lf ps 1)]⟩]⟩
noncomputable def f50_u : List Cu := []
noncomputable def f50_c : Cx := ⟨Try.prog, envOf [f51_e], 10, lOf f50_u⟩
noncomputable def f50_b : Code := match Try.f50.body with | some b => b | none => .skip
theorem f50_x (ps : List P) (ls : List Nat) : execFn f50_c 50 f50_e.tm (explF ps 2 0) ls = (f50_t ps).run fun q => altR (f50_e.res.map fun f => f ps ls) 0 q some := by kernel_rfl
theorem f50_okT : OkEntK True Try.prog f50_e := ent_ok (c := f50_c) (g := 50) (body := f50_b) (us := f50_u) (n := 2) (t := f50_t) (good_envOf _ ⟨f51_okT, trivial⟩) Try.func50 rfl Try.call50 rfl trivial (by kernel_rfl) f50_x (fun _ => rfl)
theorem f50_ok : OkEnt Try.prog f50_e := f50_okT.weak
/-! ### comprador/span.after$1 -/
noncomputable def f57_t (ps : List P) : Tree (Nat × List P) :=
 .ite (decide ((((lf ps 0).snd).fst).toInt ≤ (lf ps 1).toInt)) (
  .ret (0, [.int .i64 (-1 : Int)])) (
  .ret (0, [.int .i64 (1 : Int)]))
noncomputable def f57_v (ps : List P) : Option (Nat × List P) := (f57_t ps).run some
noncomputable def f57_e : EntD := ⟨57, [.imm (.pair (.int .i64) (.pair (.int .i64) .unit)), .imm (.int .i64)], f57_v, [fun ps ls qs => ⟨[.imm (.int .i64) (lf qs 0)], [.imm (.pair (.int .i64) (.pair (.int .i64) .unit)) (lf ps 0), .imm (.int .i64) (lf ps 1)]⟩]⟩
noncomputable def f57_u : List Cu := []
noncomputable def f57_c : Cx := ⟨Try.prog, envOf [], 9, lOf f57_u⟩
noncomputable def f57_b : Code := match Try.f57.body with | some b => b | none => .skip
theorem f57_x (ps : List P) (ls : List Nat) : execFn f57_c 57 f57_e.tm (explF ps 2 0) ls = (f57_t ps).run fun q => altR (f57_e.res.map fun f => f ps ls) 0 q some := by kernel_rfl
theorem f57_okT : OkEntK True Try.prog f57_e := ent_ok (c := f57_c) (g := 57) (body := f57_b) (us := f57_u) (n := 2) (t := f57_t) (good_envOf _ trivial) Try.func57 rfl Try.call57 rfl trivial (by kernel_rfl) f57_x (fun _ => rfl)
theorem f57_ok : OkEnt Try.prog f57_e := f57_okT.weak
/-! ### slices.BinarySearchFunc[[]comprador/api.Span,comprador/api.Span,int] -/
noncomputable def f56_k60 : Sk := { t := [(0, .imm (.slice (.pair (.int .i64) (.pair (.int .i64) .unit))) .unit), (1, .imm (.int .i64) .unit), (2, .fn 57 (.imm .unit .unit)), (8, .imm (.int .i64) .unit), (9, .imm (.int .i64) .unit), (10, .imm (.int .i64) .unit)], h := [] }
noncomputable def f56_o60 : List (Out × Sk) := [((.exit 0), { t := [(0, .imm (.slice (.pair (.int .i64) (.pair (.int .i64) .unit))) .unit), (1, .imm (.int .i64) .unit), (2, .fn 57 (.imm .unit .unit)), (8, .imm (.int .i64) .unit), (9, .imm (.int .i64) .unit)], h := [] })]
noncomputable def f56_s60 (ls : List P) : Tree Step :=
 .ite (decide ((lf ls 4).toInt < (lf ls 5).toInt)) (
  .ite (inb (IntKind.i64.wrap ((IntKind.u64.wrap (IntKind.i64.wrap (((lf ls 4).toInt) + ((lf ls 5).toInt)))).fdiv (2 ^ (1)))) (((lf ls 0).xs).length)) (
   .loop (f57_v [rd ((lf ls 0).xs) ((IntKind.i64.wrap ((IntKind.u64.wrap (IntKind.i64.wrap (((lf ls 4).toInt) + ((lf ls 5).toInt)))).fdiv (2 ^ (1)))).toNat), lf ls 1]) fun x1 =>
    .ite (Nat.beq x1.1 0) (
     .ite (decide ((lf x1.2 0).toInt < (0 : Int))) (
      .ret (.inl [lf ls 0, lf ls 1, lf ls 2, lf ls 3, .int .i64 (IntKind.i64.wrap ((IntKind.i64.wrap ((IntKind.u64.wrap (IntKind.i64.wrap (((lf ls 4).toInt) + ((lf ls 5).toInt)))).fdiv (2 ^ (1)))) + (1 : Int))), lf ls 5])) (
      .ret (.inl [lf ls 0, lf ls 1, lf ls 2, lf ls 3, lf ls 4, .int .i64 (IntKind.i64.wrap ((IntKind.u64.wrap (IntKind.i64.wrap (((lf ls 4).toInt) + ((lf ls 5).toInt)))).fdiv (2 ^ (1))))]))) (
     .fail)) (
   .fail)) (
  .ret (.inr (0, [lf ls 0, lf ls 1, lf ls 2, lf ls 3, lf ls 4])))
noncomputable def f56_t (ps : List P) : Tree (Nat × List P) :=
 .loop (loopT f56_s60 FUEL [lf ps 0, lf ps 1, lf ps 2, .int .i64 (((lf ps 0).xs).length : Int), .int .i64 (0 : Int), .int .i64 (((lf ps 0).xs).length : Int)]) fun y2 =>
  .ite (Nat.beq y2.1 0) (
   .ite (decide ((lf y2.2 4).toInt < (lf y2.2 3).toInt)) (
    .ite (inb ((lf y2.2 4).toInt) (((lf y2.2 0).xs).length)) (
     .loop (f57_v [rd ((lf y2.2 0).xs) (((lf y2.2 4).toInt).toNat), lf y2.2 1]) fun x3 =>
      .ite (Nat.beq x3.1 0) (
       .ret (0, [lf y2.2 4, .bool (((lf x3.2 0).toInt) == (0 : Int))])) (
       .fail)) (
     .fail)) (
    .ret (0, [lf y2.2 4, .bool false]))) (
   .fail)
noncomputable def f56_v (ps : List P) : Option (Nat × List P) := (f56_t ps).run some
noncomputable def f56_e : EntD := ⟨56, [.imm (.slice (.pair (.int .i64) (.pair (.int .i64) .unit))), .imm (.int .i64), .fn 57 (.imm .unit)], f56_v, [fun ps ls qs => ⟨[.imm (.int .i64) (lf qs 0), .imm .bool (lf qs 1)], [.imm (.slice (.pair (.int .i64) (.pair (.int .i64) .unit))) (lf ps 0), .imm (.int .i64) (lf ps 1), .fn 57 (.imm .unit (lf ps 2))]⟩]⟩
noncomputable def f56_u : List Cu := [.loop 60 f56_k60 f56_o60 f56_s60]
noncomputable def f56_c : Cx := ⟨Try.prog, envOf [f57_e], 49, lOf f56_u⟩
noncomputable def f56_b : Code := match Try.f56.body with | some b => b | none => .skip
theorem f56_q60 : (Cu.loop 60 f56_k60 f56_o60 f56_s60).Ok f56_c f56_b := ⟨by kernel_rfl, fun ls Kr Kx => by kernel_rfl⟩
theorem f56_x (ps : List P) (ls : List Nat) : execFn f56_c 56 f56_e.tm (explF ps 3 0) ls = (f56_t ps).run fun q => altR (f56_e.res.map fun f => f ps ls) 0 q some := by kernel_rfl
theorem f56_okT : OkEntK True Try.prog f56_e := ent_ok (c := f56_c) (g := 56) (body := f56_b) (us := f56_u) (n := 3) (t := f56_t) (good_envOf _ ⟨f57_okT, trivial⟩) Try.func56 rfl Try.call56 rfl ⟨f56_q60, trivial⟩ (by kernel_rfl) f56_x (fun _ => rfl)
theorem f56_ok : OkEnt Try.prog f56_e := f56_okT.weak
/-! ### comprador/span.after -/
noncomputable def f37_t (ps : List P) : Tree (Nat × List P) :=
 .loop (f56_v [lf ps 0, lf ps 1, .unit]) fun x1 =>
  .ite (Nat.beq x1.1 0) (
   .ret (0, [lf x1.2 0])) (
   .fail)
noncomputable def f37_v (ps : List P) : Option (Nat × List P) := (f37_t ps).run some
noncomputable def f37_e : EntD := ⟨37, [.imm (.slice (.pair (.int .i64) (.pair (.int .i64) .unit))), .imm (.int .i64)], f37_v, [fun ps ls qs => ⟨[.imm (.int .i64) (lf qs 0)], [.imm (.slice (.pair (.int .i64) (.pair (.int .i64) .unit))) (lf ps 0), .imm (.int .i64) (lf ps 1)]⟩]⟩
noncomputable def f37_u : List Cu := []
noncomputable def f37_c : Cx := ⟨Try.prog, envOf [f56_e], 14, lOf f37_u⟩
noncomputable def f37_b : Code := match Try.f37.body with | some b => b | none => .skip
theorem f37_x (ps : List P) (ls : List Nat) : execFn f37_c 37 f37_e.tm (explF ps 2 0) ls = (f37_t ps).run fun q => altR (f37_e.res.map fun f => f ps ls) 0 q some := by kernel_rfl
theorem f37_okT : OkEntK True Try.prog f37_e := ent_ok (c := f37_c) (g := 37) (body := f37_b) (us := f37_u) (n := 2) (t := f37_t) (good_envOf _ ⟨f56_okT, trivial⟩) Try.func37 rfl Try.call37 rfl trivial (by kernel_rfl) f37_x (fun _ => rfl)
theorem f37_ok : OkEnt Try.prog f37_e := f37_okT.weak
/-! ### comprador/span.Has -/
noncomputable def f15_t (ps : List P) : Tree (Nat × List P) :=
 .loop (f37_v [lf ps 0, lf ps 1]) fun x1 =>
  .ite (Nat.beq x1.1 0) (
   .ite (decide ((lf x1.2 0).toInt < (((lf ps 0).xs).length : Int))) (
    .ite (inb ((lf x1.2 0).toInt) (((lf ps 0).xs).length)) (
     .ret (0, [.bool (decide (((rd ((lf ps 0).xs) (((lf x1.2 0).toInt).toNat)).fst).toInt ≤ (lf ps 1).toInt))])) (
     .fail)) (
    .ret (0, [.bool false]))) (
   .fail)
noncomputable def f15_v (ps : List P) : Option (Nat × List P) := (f15_t ps).run some
noncomputable def f15_e : EntD := ⟨15, [.imm (.slice (.pair (.int .i64) (.pair (.int .i64) .unit))), .imm (.int .i64)], f15_v, [fun ps ls qs => ⟨[.imm .bool (lf qs 0)], [.imm (.slice (.pair (.int .i64) (.pair (.int .i64) .unit))) (lf ps 0), .imm (.int .i64) (lf ps 1)]⟩]⟩
noncomputable def f15_u : List Cu := []
noncomputable def f15_c : Cx := ⟨Try.prog, envOf [f37_e], 22, lOf f15_u⟩
noncomputable def f15_b : Code := match Try.f15.body with | some b => b | none => .skip
theorem f15_x (ps : List P) (ls : List Nat) : execFn f15_c 15 f15_e.tm (explF ps 2 0) ls = (f15_t ps).run fun q => altR (f15_e.res.map fun f => f ps ls) 0 q some := by kernel_rfl
theorem f15_okT : OkEntK True Try.prog f15_e := ent_ok (c := f15_c) (g := 15) (body := f15_b) (us := f15_u) (n := 2) (t := f15_t) (good_envOf _ ⟨f37_okT, trivial⟩) Try.func15 rfl Try.call15 rfl trivial (by kernel_rfl) f15_x (fun _ => rfl)
theorem f15_ok : OkEnt Try.prog f15_e := f15_okT.weak
end Go.Proofs.Ytihenfpnilliiaa
