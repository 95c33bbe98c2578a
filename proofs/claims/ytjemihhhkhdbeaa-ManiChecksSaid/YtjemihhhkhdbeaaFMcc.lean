/- The comparisons of sorts: what each tells. Conditions: none. -/
import Derived.Test.YtjemihhhkhdbeaaE3
import Derived.Test.YtjemihhhkhdbeaaProg
import Derived.KernelRfl
open Go Go.Eng Go.Proofs
set_option pp.deepTerms true
set_option linter.unusedVariables false
namespace Go.Proofs.Ytjemihhhkhdbeaa
/-! ### comprador/span.after$1 -/
noncomputable def f189_t (ps : List P) : Tree (Nat × List P) :=
 .ite (decide ((((lf ps 0).snd).fst).toInt ≤ (lf ps 1).toInt)) (
  .ret (0, [.int .i64 (-1 : Int)])) (
  .ret (0, [.int .i64 (1 : Int)]))
noncomputable def f189_v (ps : List P) : Option (Nat × List P) := (f189_t ps).run some
noncomputable def f189_e : EntD := ⟨189, [.imm (.pair (.int .i64) (.pair (.int .i64) .unit)), .imm (.int .i64)], f189_v, [fun ps ls qs => ⟨[.imm (.int .i64) (lf qs 0)], [.imm (.pair (.int .i64) (.pair (.int .i64) .unit)) (lf ps 0), .imm (.int .i64) (lf ps 1)]⟩]⟩
noncomputable def f189_u : List Cu := []
noncomputable def f189_c : Cx := ⟨Try.prog, envOf [], 9, lOf f189_u⟩
noncomputable def f189_b : Code := match Try.f189.body with | some b => b | none => .skip
theorem f189_x (ps : List P) (ls : List Nat) : execFn f189_c 189 f189_e.tm (explF ps 2 0) ls = (f189_t ps).run fun q => altR (f189_e.res.map fun f => f ps ls) 0 q some := by kernel_rfl
theorem f189_ok : OkEnt Try.prog f189_e := ent_ok (c := f189_c) (g := 189) (body := f189_b) (us := f189_u) (n := 2) (t := f189_t) (good_envOf _ trivial) Try.func189 rfl Try.call189 rfl trivial (by kernel_rfl) f189_x (fun _ => rfl)
/-! ### slices.BinarySearchFunc[[]comprador/api.Span,comprador/api.Span,int] -/
noncomputable def f188_k60 : Sk := { t := [(0, .imm (.slice (.pair (.int .i64) (.pair (.int .i64) .unit))) .unit), (1, .imm (.int .i64) .unit), (2, .fn 189 (.imm .unit .unit)), (8, .imm (.int .i64) .unit), (9, .imm (.int .i64) .unit), (10, .imm (.int .i64) .unit)], h := [] }
noncomputable def f188_o60 : List (Out × Sk) := [((.exit 0), { t := [(0, .imm (.slice (.pair (.int .i64) (.pair (.int .i64) .unit))) .unit), (1, .imm (.int .i64) .unit), (2, .fn 189 (.imm .unit .unit)), (8, .imm (.int .i64) .unit), (9, .imm (.int .i64) .unit)], h := [] })]
noncomputable def f188_s60 (ls : List P) : Tree Step :=
 .ite (decide ((lf ls 4).toInt < (lf ls 5).toInt)) (
  .ite (inb (IntKind.i64.wrap ((IntKind.u64.wrap (IntKind.i64.wrap (((lf ls 4).toInt) + ((lf ls 5).toInt)))).fdiv (2 ^ (1)))) (((lf ls 0).xs).length)) (
   .loop (f189_v [rd ((lf ls 0).xs) ((IntKind.i64.wrap ((IntKind.u64.wrap (IntKind.i64.wrap (((lf ls 4).toInt) + ((lf ls 5).toInt)))).fdiv (2 ^ (1)))).toNat), lf ls 1]) fun x1 =>
    .ite (Nat.beq x1.1 0) (
     .ite (decide ((lf x1.2 0).toInt < (0 : Int))) (
      .ret (.inl [lf ls 0, lf ls 1, lf ls 2, lf ls 3, .int .i64 (IntKind.i64.wrap ((IntKind.i64.wrap ((IntKind.u64.wrap (IntKind.i64.wrap (((lf ls 4).toInt) + ((lf ls 5).toInt)))).fdiv (2 ^ (1)))) + (1 : Int))), lf ls 5])) (
      .ret (.inl [lf ls 0, lf ls 1, lf ls 2, lf ls 3, lf ls 4, .int .i64 (IntKind.i64.wrap ((IntKind.u64.wrap (IntKind.i64.wrap (((lf ls 4).toInt) + ((lf ls 5).toInt)))).fdiv (2 ^ (1))))]))) (
     .fail)) (
   .fail)) (
  .ret (.inr (0, [lf ls 0, lf ls 1, lf ls 2, lf ls 3, lf ls 4])))
noncomputable def f188_t (ps : List P) : Tree (Nat × List P) :=
 .loop (loopT f188_s60 FUEL [lf ps 0, lf ps 1, lf ps 2, .int .i64 (((lf ps 0).xs).length : Int), .int .i64 (0 : Int), .int .i64 (((lf ps 0).xs).length : Int)]) fun y2 =>
  .ite (Nat.beq y2.1 0) (
   .ite (decide ((lf y2.2 4).toInt < (lf y2.2 3).toInt)) (
    .ite (inb ((lf y2.2 4).toInt) (((lf y2.2 0).xs).length)) (
     .loop (f189_v [rd ((lf y2.2 0).xs) (((lf y2.2 4).toInt).toNat), lf y2.2 1]) fun x3 =>
      .ite (Nat.beq x3.1 0) (
       .ret (0, [lf y2.2 4, .bool (((lf x3.2 0).toInt) == (0 : Int))])) (
       .fail)) (
     .fail)) (
    .ret (0, [lf y2.2 4, .bool false]))) (
   .fail)
noncomputable def f188_v (ps : List P) : Option (Nat × List P) := (f188_t ps).run some
noncomputable def f188_e : EntD := ⟨188, [.imm (.slice (.pair (.int .i64) (.pair (.int .i64) .unit))), .imm (.int .i64), .fn 189 (.imm .unit)], f188_v, [fun ps ls qs => ⟨[.imm (.int .i64) (lf qs 0), .imm .bool (lf qs 1)], [.imm (.slice (.pair (.int .i64) (.pair (.int .i64) .unit))) (lf ps 0), .imm (.int .i64) (lf ps 1), .fn 189 (.imm .unit (lf ps 2))]⟩]⟩
noncomputable def f188_u : List Cu := [.loop 60 f188_k60 f188_o60 f188_s60]
noncomputable def f188_c : Cx := ⟨Try.prog, envOf [f189_e], 49, lOf f188_u⟩
noncomputable def f188_b : Code := match Try.f188.body with | some b => b | none => .skip
theorem f188_q60 : (Cu.loop 60 f188_k60 f188_o60 f188_s60).Ok f188_c f188_b := ⟨by kernel_rfl, fun ls Kr Kx => by kernel_rfl⟩
theorem f188_x (ps : List P) (ls : List Nat) : execFn f188_c 188 f188_e.tm (explF ps 3 0) ls = (f188_t ps).run fun q => altR (f188_e.res.map fun f => f ps ls) 0 q some := by kernel_rfl
theorem f188_ok : OkEnt Try.prog f188_e := ent_ok (c := f188_c) (g := 188) (body := f188_b) (us := f188_u) (n := 3) (t := f188_t) (good_envOf _ ⟨f189_ok, trivial⟩) Try.func188 rfl Try.call188 rfl ⟨f188_q60, trivial⟩ (by kernel_rfl) f188_x (fun _ => rfl)
/-! ### comprador/span.after -/
noncomputable def f160_t (ps : List P) : Tree (Nat × List P) :=
 .loop (f188_v [lf ps 0, lf ps 1, .unit]) fun x1 =>
  .ite (Nat.beq x1.1 0) (
   .ret (0, [lf x1.2 0])) (
   .fail)
noncomputable def f160_v (ps : List P) : Option (Nat × List P) := (f160_t ps).run some
noncomputable def f160_e : EntD := ⟨160, [.imm (.slice (.pair (.int .i64) (.pair (.int .i64) .unit))), .imm (.int .i64)], f160_v, [fun ps ls qs => ⟨[.imm (.int .i64) (lf qs 0)], [.imm (.slice (.pair (.int .i64) (.pair (.int .i64) .unit))) (lf ps 0), .imm (.int .i64) (lf ps 1)]⟩]⟩
noncomputable def f160_u : List Cu := []
noncomputable def f160_c : Cx := ⟨Try.prog, envOf [f188_e], 14, lOf f160_u⟩
noncomputable def f160_b : Code := match Try.f160.body with | some b => b | none => .skip
theorem f160_x (ps : List P) (ls : List Nat) : execFn f160_c 160 f160_e.tm (explF ps 2 0) ls = (f160_t ps).run fun q => altR (f160_e.res.map fun f => f ps ls) 0 q some := by kernel_rfl
theorem f160_ok : OkEnt Try.prog f160_e := ent_ok (c := f160_c) (g := 160) (body := f160_b) (us := f160_u) (n := 2) (t := f160_t) (good_envOf _ ⟨f188_ok, trivial⟩) Try.func160 rfl Try.call160 rfl trivial (by kernel_rfl) f160_x (fun _ => rfl)
/-! ### comprador/span.Has -/
noncomputable def f92_t (ps : List P) : Tree (Nat × List P) :=
 .loop (f160_v [lf ps 0, lf ps 1]) fun x1 =>
  .ite (Nat.beq x1.1 0) (
   .ite (decide ((lf x1.2 0).toInt < (((lf ps 0).xs).length : Int))) (
    .ite (inb ((lf x1.2 0).toInt) (((lf ps 0).xs).length)) (
     .ret (0, [.bool (decide (((rd ((lf ps 0).xs) (((lf x1.2 0).toInt).toNat)).fst).toInt ≤ (lf ps 1).toInt))])) (
     .fail)) (
    .ret (0, [.bool false]))) (
   .fail)
noncomputable def f92_v (ps : List P) : Option (Nat × List P) := (f92_t ps).run some
noncomputable def f92_e : EntD := ⟨92, [.imm (.slice (.pair (.int .i64) (.pair (.int .i64) .unit))), .imm (.int .i64)], f92_v, [fun ps ls qs => ⟨[.imm .bool (lf qs 0)], [.imm (.slice (.pair (.int .i64) (.pair (.int .i64) .unit))) (lf ps 0), .imm (.int .i64) (lf ps 1)]⟩]⟩
noncomputable def f92_u : List Cu := []
noncomputable def f92_c : Cx := ⟨Try.prog, envOf [f160_e], 22, lOf f92_u⟩
noncomputable def f92_b : Code := match Try.f92.body with | some b => b | none => .skip
theorem f92_x (ps : List P) (ls : List Nat) : execFn f92_c 92 f92_e.tm (explF ps 2 0) ls = (f92_t ps).run fun q => altR (f92_e.res.map fun f => f ps ls) 0 q some := by kernel_rfl
theorem f92_ok : OkEnt Try.prog f92_e := ent_ok (c := f92_c) (g := 92) (body := f92_b) (us := f92_u) (n := 2) (t := f92_t) (good_envOf _ ⟨f160_ok, trivial⟩) Try.func92 rfl Try.call92 rfl trivial (by kernel_rfl) f92_x (fun _ => rfl)
end Go.Proofs.Ytjemihhhkhdbeaa
