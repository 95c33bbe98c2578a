/- Functions: what each tells. Conditions: none. -/
import Derived.Test.YtjemihhhkhdbeaaFMc2
open Go Go.Eng Go.Proofs
set_option pp.deepTerms true
set_option linter.unusedVariables false
namespace Go.Proofs.Ytjemihhhkhdbeaa
/-! ### comprador/mani.Clone -/
noncomputable def f57_k58 : Sk := { t := [(2, .ref 5100 [] (.pair .str (.pair (.slice (.pair (.int .i64) (.pair (.slice (.pair .str (.pair (.slice (.pair (.int .i64) (.pair (.int .i64) .unit))) .unit))) .unit))) .unit))), (3, .ref 5101 [] (.pair .str (.pair (.slice (.pair (.int .i64) (.pair (.slice (.pair .str (.pair (.slice (.pair (.int .i64) (.pair (.int .i64) .unit))) .unit))) .unit))) .unit))), (10, .imm (.slice (.pair (.int .i64) (.pair (.slice (.pair .str (.pair (.slice (.pair (.int .i64) (.pair (.int .i64) .unit))) .unit))) .unit))) .unit), (11, .imm (.int .i64) .unit), (12, .imm (.int .i64) .unit)], h := [(5100, .obj (.pair .str (.pair (.slice (.pair (.int .i64) (.pair (.slice (.pair .str (.pair (.slice (.pair (.int .i64) (.pair (.int .i64) .unit))) .unit))) .unit))) .unit)) (.imm (.pair .str (.pair (.slice (.pair (.int .i64) (.pair (.slice (.pair .str (.pair (.slice (.pair (.int .i64) (.pair (.int .i64) .unit))) .unit))) .unit))) .unit)) .unit)), (5101, .obj (.pair .str (.pair (.slice (.pair (.int .i64) (.pair (.slice (.pair .str (.pair (.slice (.pair (.int .i64) (.pair (.int .i64) .unit))) .unit))) .unit))) .unit)) (.pair (.imm .str .unit) (.pair (.slf 5102 (.pair (.int .i64) (.pair (.slice (.pair .str (.pair (.slice (.pair (.int .i64) (.pair (.int .i64) .unit))) .unit))) .unit))) (.imm .unit .unit)))), (5102, .arr (.pair (.int .i64) (.pair (.slice (.pair .str (.pair (.slice (.pair (.int .i64) (.pair (.int .i64) .unit))) .unit))) .unit)) true [])] }
noncomputable def f57_o58 : List (Out × Sk) := [((.exit 0), { t := [(2, .ref 5130 [] (.pair .str (.pair (.slice (.pair (.int .i64) (.pair (.slice (.pair .str (.pair (.slice (.pair (.int .i64) (.pair (.int .i64) .unit))) .unit))) .unit))) .unit))), (3, .ref 5131 [] (.pair .str (.pair (.slice (.pair (.int .i64) (.pair (.slice (.pair .str (.pair (.slice (.pair (.int .i64) (.pair (.int .i64) .unit))) .unit))) .unit))) .unit)))], h := [(5130, .obj (.pair .str (.pair (.slice (.pair (.int .i64) (.pair (.slice (.pair .str (.pair (.slice (.pair (.int .i64) (.pair (.int .i64) .unit))) .unit))) .unit))) .unit)) (.imm (.pair .str (.pair (.slice (.pair (.int .i64) (.pair (.slice (.pair .str (.pair (.slice (.pair (.int .i64) (.pair (.int .i64) .unit))) .unit))) .unit))) .unit)) .unit)), (5131, .obj (.pair .str (.pair (.slice (.pair (.int .i64) (.pair (.slice (.pair .str (.pair (.slice (.pair (.int .i64) (.pair (.int .i64) .unit))) .unit))) .unit))) .unit)) (.pair (.imm .str .unit) (.pair (.slf 5132 (.pair (.int .i64) (.pair (.slice (.pair .str (.pair (.slice (.pair (.int .i64) (.pair (.int .i64) .unit))) .unit))) .unit))) (.imm .unit .unit)))), (5132, .arr (.pair (.int .i64) (.pair (.slice (.pair .str (.pair (.slice (.pair (.int .i64) (.pair (.int .i64) .unit))) .unit))) .unit)) true [])] })]
noncomputable def f57_s58 (ls : List P) : Tree Step :=
 .ite (decide ((lf ls 2).toInt < (lf ls 1).toInt)) (
  .ite (inb ((lf ls 2).toInt) (((lf ls 0).xs).length)) (
   .loop (f135_v [rd ((lf ls 0).xs) (((lf ls 2).toInt).toNat)]) fun x1 =>
    .ite (Nat.beq x1.1 0) (
     .ite (decide ((((lf ls 6).xs).length + 1) * 32 ≤ 140737488355328)) (
      .ret (.inl [lf ls 0, lf ls 1, .int .i64 (IntKind.i64.wrap (((lf ls 2).toInt) + (1 : Int))), lf ls 3, lf ls 4, lf ls 5, .list (((lf ls 6).isNil) && false) (((lf ls 6).xs) ++ [.pair (lf x1.2 0) (.pair (.list ((lf x1.2 1).isNil) ((lf x1.2 1).xs)) (lf x1.2 2))])])) (
      .fail)) (
     .fail)) (
   .fail)) (
  .ret (.inr (0, [lf ls 3, lf ls 4, lf ls 5, .list ((lf ls 6).isNil) ((lf ls 6).xs)])))
noncomputable def f57_t (ps : List P) : Tree (Nat × List P) :=
 .loop (loopT f57_s58 FUEL [((lf ps 0).snd).fst, .int .i64 (((((lf ps 0).snd).fst).xs).length : Int), .int .i64 (0 : Int), .pair (.str .empty) (.pair (.list true []) .unit), (lf ps 0).fst, .unit, .list true []]) fun y2 =>
  .ite (Nat.beq y2.1 0) (
   .ret (0, [lf y2.2 1, .list ((lf y2.2 3).isNil) ((lf y2.2 3).xs), lf y2.2 2])) (
   .fail)
noncomputable def f57_v (ps : List P) : Option (Nat × List P) := (f57_t ps).run some
noncomputable def f57_e : EntD := ⟨57, [.imm (.pair .str (.pair (.slice (.pair (.int .i64) (.pair (.slice (.pair .str (.pair (.slice (.pair (.int .i64) (.pair (.int .i64) .unit))) .unit))) .unit))) .unit))], f57_v, [fun ps ls qs => ⟨[.pair (.imm .str (lf qs 0)) (.pair (.own (ls.getD 3131 0) (.pair (.int .i64) (.pair (.slice (.pair .str (.pair (.slice (.pair (.int .i64) (.pair (.int .i64) .unit))) .unit))) .unit)) (lf qs 1).isNil (lf qs 1).xs) (.imm .unit (lf qs 2)))], [.imm (.pair .str (.pair (.slice (.pair (.int .i64) (.pair (.slice (.pair .str (.pair (.slice (.pair (.int .i64) (.pair (.int .i64) .unit))) .unit))) .unit))) .unit)) (lf ps 0)]⟩]⟩
noncomputable def f57_u : List Cu := [.loop 58 f57_k58 f57_o58 f57_s58]
noncomputable def f57_c : Cx := ⟨Try.prog, envOf [f135_e], 25, lOf f57_u⟩
noncomputable def f57_b : Code := match Try.f57.body with | some b => b | none => .skip
theorem f57_q58 : (Cu.loop 58 f57_k58 f57_o58 f57_s58).Ok f57_c f57_b := ⟨by kernel_rfl, fun ls Kr Kx => by kernel_rfl⟩
theorem f57_x (ps : List P) (ls : List Nat) : execFn f57_c 57 f57_e.tm (explF ps 1 0) ls = (f57_t ps).run fun q => altR (f57_e.res.map fun f => f ps ls) 0 q some := by kernel_rfl
theorem f57_ok : OkEnt Try.prog f57_e := ent_ok (c := f57_c) (g := 57) (body := f57_b) (us := f57_u) (n := 1) (t := f57_t) (good_envOf _ ⟨f135_ok, trivial⟩) Try.func57 rfl Try.call57 rfl ⟨f57_q58, trivial⟩ (by kernel_rfl) f57_x (fun _ => rfl)
/-! ### comprador/compradorlaw09.ManiChecks -/
noncomputable def f7_t (ps : List P) : Tree (Nat × List P) :=
 .loop (f51_v [lf ps 0]) fun x1 =>
  .ite (Nat.beq x1.1 0) (
   .ite ((lf x1.2 0).toBool) (
    .loop (f52_v []) fun x2 =>
     .ite (Nat.beq x2.1 0) (
      .ret (0, [lf x2.2 0])) (
      .fail)) (
    .loop (f51_v [lf ps 1]) fun x3 =>
     .ite (Nat.beq x3.1 0) (
      .ite ((lf x3.2 0).toBool) (
       .loop (f52_v []) fun x4 =>
        .ite (Nat.beq x4.1 0) (
         .ret (0, [lf x4.2 0])) (
         .fail)) (
       .loop (f53_v [lf ps 0]) fun x5 =>
        .ite (Nat.beq x5.1 0) (
         .loop (f54_v [lf ps 0]) fun x6 =>
          .ite (Nat.beq x6.1 0) (
           .ite (((lf x5.2 0).toBool) == ((lf x6.2 0).toBool)) (
            .loop (f55_v [lf ps 0, lf ps 1]) fun x7 =>
             .ite (Nat.beq x7.1 0) (
              .loop (f56_v [lf ps 0, lf ps 1]) fun x8 =>
               .ite (Nat.beq x8.1 0) (
                .ite (((lf x7.2 0).toBool) == ((lf x8.2 0).toBool)) (
                 .loop (f57_v [lf ps 0]) fun x9 =>
                  .ite (Nat.beq x9.1 0) (
                   .loop (f56_v [.pair (lf x9.2 0) (.pair (.list ((lf x9.2 1).isNil) ((lf x9.2 1).xs)) (lf x9.2 2)), lf ps 0]) fun x10 =>
                    .ite (Nat.beq x10.1 0) (
                     .ite ((lf x10.2 0).toBool) (
                      .loop (f52_v []) fun x11 =>
                       .ite (Nat.beq x11.1 0) (
                        .ret (0, [lf x11.2 0])) (
                        .fail)) (
                      .ret (0, [.bool false]))) (
                     .fail)) (
                   .fail)) (
                 .ret (0, [.bool false]))) (
                .fail)) (
              .fail)) (
            .ret (0, [.bool false]))) (
           .fail)) (
         .fail))) (
      .fail))) (
   .fail)
noncomputable def f7_v (ps : List P) : Option (Nat × List P) := (f7_t ps).run some
noncomputable def f7_e : EntD := ⟨7, [.imm (.pair .str (.pair (.slice (.pair (.int .i64) (.pair (.slice (.pair .str (.pair (.slice (.pair (.int .i64) (.pair (.int .i64) .unit))) .unit))) .unit))) .unit)), .imm (.pair .str (.pair (.slice (.pair (.int .i64) (.pair (.slice (.pair .str (.pair (.slice (.pair (.int .i64) (.pair (.int .i64) .unit))) .unit))) .unit))) .unit))], f7_v, [fun ps ls qs => ⟨[.imm .bool (lf qs 0)], [.imm (.pair .str (.pair (.slice (.pair (.int .i64) (.pair (.slice (.pair .str (.pair (.slice (.pair (.int .i64) (.pair (.int .i64) .unit))) .unit))) .unit))) .unit)) (lf ps 0), .imm (.pair .str (.pair (.slice (.pair (.int .i64) (.pair (.slice (.pair .str (.pair (.slice (.pair (.int .i64) (.pair (.int .i64) .unit))) .unit))) .unit))) .unit)) (lf ps 1)]⟩]⟩
noncomputable def f7_u : List Cu := []
noncomputable def f7_c : Cx := ⟨Try.prog, envOf [f51_e, f52_e, f53_e, f54_e, f55_e, f56_e, f57_e], 35, lOf f7_u⟩
noncomputable def f7_b : Code := match Try.f7.body with | some b => b | none => .skip
theorem f7_x (ps : List P) (ls : List Nat) : execFn f7_c 7 f7_e.tm (explF ps 2 0) ls = (f7_t ps).run fun q => altR (f7_e.res.map fun f => f ps ls) 0 q some := by kernel_rfl
theorem f7_ok : OkEnt Try.prog f7_e := ent_ok (c := f7_c) (g := 7) (body := f7_b) (us := f7_u) (n := 2) (t := f7_t) (good_envOf _ ⟨f51_ok, f52_ok, f53_ok, f54_ok, f55_ok, f56_ok, f57_ok, trivial⟩) Try.func7 rfl Try.call7 rfl trivial (by kernel_rfl) f7_x (fun _ => rfl)
end Go.Proofs.Ytjemihhhkhdbeaa
