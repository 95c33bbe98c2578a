/- Functions: what each tells. Conditions: none. -/
import Derived.Test.YtjemihhhkhdbeaaFSk2
open Go Go.Eng Go.Proofs
set_option pp.deepTerms true
set_option linter.unusedVariables false
namespace Go.Proofs.Ytjemihhhkhdbeaa
/-! ### comprador/compradorlaw24.StoreKeeps -/
noncomputable def f3_k1047114 : Sk := { t := [(5, .ref 14200 [] (.pair (.slice (.pair (.slice (.pair .str (.pair (.slice (.pair (.int .i64) (.pair (.int .i64) .unit))) (.pair .bool .unit)))) (.pair (.int .i64) (.pair .bool (.pair .bool .unit))))) (.pair .map .unit))), (6, .slf 14201 (.pair .bool (.pair (.int .i64) (.pair (.slice (.pair .str (.pair (.slice (.pair (.int .i64) (.pair (.int .i64) .unit))) (.pair .bool .unit)))) (.pair .bool .unit))))), (8, .slf 14202 .bool), (12, .imm (.int .i64) .unit), (13, .imm (.int .i64) .unit), (14, .ref 14203 [] (.pair (.slice (.pair .str (.pair (.slice (.pair (.int .i64) (.pair (.int .i64) .unit))) (.pair .bool .unit)))) (.pair (.int .i64) (.pair .bool (.pair .bool .unit))))), (15, .imm .bool .unit), (16, .imm (.int .i64) .unit)], h := [(14200, .obj (.pair (.slice (.pair (.slice (.pair .str (.pair (.slice (.pair (.int .i64) (.pair (.int .i64) .unit))) (.pair .bool .unit)))) (.pair (.int .i64) (.pair .bool (.pair .bool .unit))))) (.pair .map .unit)) (.pair (.slf 14204 (.pair (.slice (.pair .str (.pair (.slice (.pair (.int .i64) (.pair (.int .i64) .unit))) (.pair .bool .unit)))) (.pair (.int .i64) (.pair .bool (.pair .bool .unit))))) (.pair (.blk 14205 (.mt .str (.slice (.int .i64)))) (.imm .unit .unit)))), (14201, .arr (.pair .bool (.pair (.int .i64) (.pair (.slice (.pair .str (.pair (.slice (.pair (.int .i64) (.pair (.int .i64) .unit))) (.pair .bool .unit)))) (.pair .bool .unit)))) true []), (14202, .arr .bool true []), (14203, .obj (.pair (.slice (.pair .str (.pair (.slice (.pair (.int .i64) (.pair (.int .i64) .unit))) (.pair .bool .unit)))) (.pair (.int .i64) (.pair .bool (.pair .bool .unit)))) (.pair (.slf 14206 (.pair .str (.pair (.slice (.pair (.int .i64) (.pair (.int .i64) .unit))) (.pair .bool .unit)))) (.imm (.pair (.int .i64) (.pair .bool (.pair .bool .unit))) .unit))), (14204, .arr (.pair (.slice (.pair .str (.pair (.slice (.pair (.int .i64) (.pair (.int .i64) .unit))) (.pair .bool .unit)))) (.pair (.int .i64) (.pair .bool (.pair .bool .unit)))) true []), (14205, .blk (.mt .str (.slice (.int .i64))) .unit), (14206, .arr (.pair .str (.pair (.slice (.pair (.int .i64) (.pair (.int .i64) .unit))) (.pair .bool .unit))) true [])] }
noncomputable def f3_o1047114 : List (Out × Sk) := [((.exit 6), { t := [(5, .ref 14230 [] (.pair (.slice (.pair (.slice (.pair .str (.pair (.slice (.pair (.int .i64) (.pair (.int .i64) .unit))) (.pair .bool .unit)))) (.pair (.int .i64) (.pair .bool (.pair .bool .unit))))) (.pair .map .unit))), (6, .slf 14231 (.pair .bool (.pair (.int .i64) (.pair (.slice (.pair .str (.pair (.slice (.pair (.int .i64) (.pair (.int .i64) .unit))) (.pair .bool .unit)))) (.pair .bool .unit))))), (8, .slf 14232 .bool), (12, .imm (.int .i64) .unit), (13, .imm (.int .i64) .unit), (15, .imm .bool .unit)], h := [(14230, .obj (.pair (.slice (.pair (.slice (.pair .str (.pair (.slice (.pair (.int .i64) (.pair (.int .i64) .unit))) (.pair .bool .unit)))) (.pair (.int .i64) (.pair .bool (.pair .bool .unit))))) (.pair .map .unit)) (.pair (.slf 14233 (.pair (.slice (.pair .str (.pair (.slice (.pair (.int .i64) (.pair (.int .i64) .unit))) (.pair .bool .unit)))) (.pair (.int .i64) (.pair .bool (.pair .bool .unit))))) (.pair (.blk 14234 (.mt .str (.slice (.int .i64)))) (.imm .unit .unit)))), (14231, .arr (.pair .bool (.pair (.int .i64) (.pair (.slice (.pair .str (.pair (.slice (.pair (.int .i64) (.pair (.int .i64) .unit))) (.pair .bool .unit)))) (.pair .bool .unit)))) true []), (14232, .arr .bool true []), (14233, .arr (.pair (.slice (.pair .str (.pair (.slice (.pair (.int .i64) (.pair (.int .i64) .unit))) (.pair .bool .unit)))) (.pair (.int .i64) (.pair .bool (.pair .bool .unit)))) true []), (14234, .blk (.mt .str (.slice (.int .i64))) .unit)] })]
noncomputable def f3_s1047114 (ls : List P) : Tree Step :=
 .ite (decide ((lf ls 3).toInt < (((lf ls 10).xs).length : Int))) (
  .ite (inb ((lf ls 3).toInt) (((lf ls 10).xs).length)) (
   .ret (.inl [lf ls 0, lf ls 1, lf ls 2, .int .i64 (IntKind.i64.wrap (((lf ls 3).toInt) + (1 : Int))), lf ls 4, .list ((lf ls 5).isNil) ((lf ls 5).xs), .list ((lf ls 6).isNil) ((lf ls 6).xs), lf ls 7, .list ((lf ls 8).isNil) ((lf ls 8).xs), lf ls 9, .list ((lf ls 10).isNil) (((lf ls 10).xs).set (((lf ls 3).toInt).toNat) (.pair (.str (⟨#[122, 122]⟩)) ((rd ((lf ls 10).xs) (((lf ls 3).toInt).toNat)).snd)))])) (
   .fail)) (
  .ret (.inr (0, [lf ls 0, lf ls 1, lf ls 2, lf ls 4, .list ((lf ls 5).isNil) ((lf ls 5).xs), .list ((lf ls 6).isNil) ((lf ls 6).xs), .list ((lf ls 8).isNil) ((lf ls 8).xs), lf ls 9])))
noncomputable def f3_k4090 : Sk := { t := [(5, .ref 8800 [] (.pair (.slice (.pair (.slice (.pair .str (.pair (.slice (.pair (.int .i64) (.pair (.int .i64) .unit))) (.pair .bool .unit)))) (.pair (.int .i64) (.pair .bool (.pair .bool .unit))))) (.pair .map .unit))), (6, .slf 8801 (.pair .bool (.pair (.int .i64) (.pair (.slice (.pair .str (.pair (.slice (.pair (.int .i64) (.pair (.int .i64) .unit))) (.pair .bool .unit)))) (.pair .bool .unit))))), (8, .slf 8802 .bool), (12, .imm (.int .i64) .unit), (13, .imm (.int .i64) .unit)], h := [(8800, .obj (.pair (.slice (.pair (.slice (.pair .str (.pair (.slice (.pair (.int .i64) (.pair (.int .i64) .unit))) (.pair .bool .unit)))) (.pair (.int .i64) (.pair .bool (.pair .bool .unit))))) (.pair .map .unit)) (.pair (.slf 8803 (.pair (.slice (.pair .str (.pair (.slice (.pair (.int .i64) (.pair (.int .i64) .unit))) (.pair .bool .unit)))) (.pair (.int .i64) (.pair .bool (.pair .bool .unit))))) (.pair (.blk 8804 (.mt .str (.slice (.int .i64)))) (.imm .unit .unit)))), (8801, .arr (.pair .bool (.pair (.int .i64) (.pair (.slice (.pair .str (.pair (.slice (.pair (.int .i64) (.pair (.int .i64) .unit))) (.pair .bool .unit)))) (.pair .bool .unit)))) true []), (8802, .arr .bool true []), (8803, .arr (.pair (.slice (.pair .str (.pair (.slice (.pair (.int .i64) (.pair (.int .i64) .unit))) (.pair .bool .unit)))) (.pair (.int .i64) (.pair .bool (.pair .bool .unit)))) true []), (8804, .blk (.mt .str (.slice (.int .i64))) .unit)] }
noncomputable def f3_o4090 : List (Out × Sk) := [(.ret, { t := [(4, .imm .bool .unit)], h := [] }), ((.exit 4), { t := [(5, .ref 8830 [] (.pair (.slice (.pair (.slice (.pair .str (.pair (.slice (.pair (.int .i64) (.pair (.int .i64) .unit))) (.pair .bool .unit)))) (.pair (.int .i64) (.pair .bool (.pair .bool .unit))))) (.pair .map .unit))), (12, .imm (.int .i64) .unit)], h := [(8830, .obj (.pair (.slice (.pair (.slice (.pair .str (.pair (.slice (.pair (.int .i64) (.pair (.int .i64) .unit))) (.pair .bool .unit)))) (.pair (.int .i64) (.pair .bool (.pair .bool .unit))))) (.pair .map .unit)) (.pair (.slf 8831 (.pair (.slice (.pair .str (.pair (.slice (.pair (.int .i64) (.pair (.int .i64) .unit))) (.pair .bool .unit)))) (.pair (.int .i64) (.pair .bool (.pair .bool .unit))))) (.pair (.blk 8832 (.mt .str (.slice (.int .i64)))) (.imm .unit .unit)))), (8831, .arr (.pair (.slice (.pair .str (.pair (.slice (.pair (.int .i64) (.pair (.int .i64) .unit))) (.pair .bool .unit)))) (.pair (.int .i64) (.pair .bool (.pair .bool .unit)))) true []), (8832, .blk (.mt .str (.slice (.int .i64))) .unit)] })]
noncomputable def f3_s4090 (ls : List P) : Tree Step :=
 .ite (decide ((lf ls 1).toInt < (((lf ls 3).xs).length : Int))) (
  .loop (f21_v [.list ((lf ls 5).isNil) ((lf ls 5).xs), lf ls 6, lf ls 2, lf ls 1]) fun x13 =>
   .ite (Nat.beq x13.1 0) (
    .loop (loopT f3_s1047114 FUEL [lf ls 0, lf ls 1, lf x13.2 2, .int .i64 (0 : Int), lf x13.2 5, .list ((lf ls 3).isNil) ((lf ls 3).xs), .list ((lf ls 4).isNil) ((lf ls 4).xs), lf x13.2 1, .list ((lf x13.2 3).isNil) ((lf x13.2 3).xs), lf x13.2 4, .list ((lf x13.2 0).isNil) ((lf x13.2 0).xs)]) fun y14 =>
     .ite (Nat.beq y14.1 0) (
      .loop (f21_v [.list ((lf y14.2 6).isNil) ((lf y14.2 6).xs), lf y14.2 7, lf y14.2 3, lf y14.2 1]) fun x15 =>
       .ite (Nat.beq x15.1 0) (
        .ite (!((lf y14.2 2).toBool)) (
         .ret (.inr (0, [.bool false]))) (
         .ite (!((lf x15.2 2).toBool)) (
          .ret (.inr (0, [.bool false]))) (
          .ite (inb ((lf y14.2 1).toInt) (((lf y14.2 4).xs).length)) (
           .loop (f22_v [.list ((lf x15.2 0).isNil) ((lf x15.2 0).xs), (((rd ((lf y14.2 4).xs) (((lf y14.2 1).toInt).toNat)).snd).snd).fst]) fun x16 =>
            .ite (Nat.beq x16.1 0) (
             .ite (!((lf x16.2 0).toBool)) (
              .ret (.inr (0, [.bool false]))) (
              .ite (inb ((lf y14.2 1).toInt) (((lf y14.2 5).xs).length)) (
               .ite (!((((((lf x15.2 1).snd).snd).fst).toBool) == ((rd ((lf y14.2 5).xs) (((lf y14.2 1).toInt).toNat)).toBool))) (
                .ret (.inr (0, [.bool false]))) (
                .ite (inb ((lf y14.2 1).toInt) (((lf y14.2 4).xs).length)) (
                 .ite ((((lf x15.2 1).fst).toInt) != ((((rd ((lf y14.2 4).xs) (((lf y14.2 1).toInt).toNat)).snd).fst).toInt)) (
                  .ret (.inr (0, [.bool false]))) (
                  .ite (inb ((lf y14.2 1).toInt) (((lf y14.2 5).xs).length)) (
                   .ite (!((rd ((lf y14.2 5).xs) (((lf y14.2 1).toInt).toNat)).toBool)) (
                    .ret (.inl [.int .i64 (IntKind.i64.wrap (((lf y14.2 0).toInt) + (1 : Int))), .int .i64 (IntKind.i64.wrap (((lf y14.2 1).toInt) + (1 : Int))), lf x15.2 5, .list ((lf y14.2 4).isNil) ((lf y14.2 4).xs), .list ((lf y14.2 5).isNil) ((lf y14.2 5).xs), .list ((lf x15.2 3).isNil) ((lf x15.2 3).xs), lf x15.2 4])) (
                    .ret (.inl [lf y14.2 0, .int .i64 (IntKind.i64.wrap (((lf y14.2 1).toInt) + (1 : Int))), lf x15.2 5, .list ((lf y14.2 4).isNil) ((lf y14.2 4).xs), .list ((lf y14.2 5).isNil) ((lf y14.2 5).xs), .list ((lf x15.2 3).isNil) ((lf x15.2 3).xs), lf x15.2 4]))) (
                   .fail))) (
                 .fail))) (
               .fail))) (
             .fail)) (
           .fail)))) (
        .fail)) (
      .fail)) (
    .fail)) (
  .ret (.inr (1, [lf ls 0, lf ls 2, .list ((lf ls 5).isNil) ((lf ls 5).xs), lf ls 6])))
noncomputable def f3_k1018 : Sk := { t := [(1, .imm (.slice (.int .i64)) .unit), (5, .ref 7100 [] (.pair (.slice (.pair (.slice (.pair .str (.pair (.slice (.pair (.int .i64) (.pair (.int .i64) .unit))) (.pair .bool .unit)))) (.pair (.int .i64) (.pair .bool (.pair .bool .unit))))) (.pair .map .unit))), (6, .slf 7101 (.pair .bool (.pair (.int .i64) (.pair (.slice (.pair .str (.pair (.slice (.pair (.int .i64) (.pair (.int .i64) .unit))) (.pair .bool .unit)))) (.pair .bool .unit))))), (8, .slf 7102 .bool), (9, .imm (.int .i64) .unit)], h := [(7100, .obj (.pair (.slice (.pair (.slice (.pair .str (.pair (.slice (.pair (.int .i64) (.pair (.int .i64) .unit))) (.pair .bool .unit)))) (.pair (.int .i64) (.pair .bool (.pair .bool .unit))))) (.pair .map .unit)) (.pair (.slf 7103 (.pair (.slice (.pair .str (.pair (.slice (.pair (.int .i64) (.pair (.int .i64) .unit))) (.pair .bool .unit)))) (.pair (.int .i64) (.pair .bool (.pair .bool .unit))))) (.pair (.blk 7104 (.mt .str (.slice (.int .i64)))) (.imm .unit .unit)))), (7101, .arr (.pair .bool (.pair (.int .i64) (.pair (.slice (.pair .str (.pair (.slice (.pair (.int .i64) (.pair (.int .i64) .unit))) (.pair .bool .unit)))) (.pair .bool .unit)))) true []), (7102, .arr .bool true []), (7103, .arr (.pair (.slice (.pair .str (.pair (.slice (.pair (.int .i64) (.pair (.int .i64) .unit))) (.pair .bool .unit)))) (.pair (.int .i64) (.pair .bool (.pair .bool .unit)))) true []), (7104, .blk (.mt .str (.slice (.int .i64))) .unit)] }
noncomputable def f3_o1018 : List (Out × Sk) := [(.ret, { t := [(4, .imm .bool .unit)], h := [] }), ((.exit 2), { t := [(5, .ref 7130 [] (.pair (.slice (.pair (.slice (.pair .str (.pair (.slice (.pair (.int .i64) (.pair (.int .i64) .unit))) (.pair .bool .unit)))) (.pair (.int .i64) (.pair .bool (.pair .bool .unit))))) (.pair .map .unit))), (6, .slf 7131 (.pair .bool (.pair (.int .i64) (.pair (.slice (.pair .str (.pair (.slice (.pair (.int .i64) (.pair (.int .i64) .unit))) (.pair .bool .unit)))) (.pair .bool .unit))))), (8, .slf 7132 .bool)], h := [(7130, .obj (.pair (.slice (.pair (.slice (.pair .str (.pair (.slice (.pair (.int .i64) (.pair (.int .i64) .unit))) (.pair .bool .unit)))) (.pair (.int .i64) (.pair .bool (.pair .bool .unit))))) (.pair .map .unit)) (.pair (.slf 7133 (.pair (.slice (.pair .str (.pair (.slice (.pair (.int .i64) (.pair (.int .i64) .unit))) (.pair .bool .unit)))) (.pair (.int .i64) (.pair .bool (.pair .bool .unit))))) (.pair (.blk 7134 (.mt .str (.slice (.int .i64)))) (.imm .unit .unit)))), (7131, .arr (.pair .bool (.pair (.int .i64) (.pair (.slice (.pair .str (.pair (.slice (.pair (.int .i64) (.pair (.int .i64) .unit))) (.pair .bool .unit)))) (.pair .bool .unit)))) true []), (7132, .arr .bool true []), (7133, .arr (.pair (.slice (.pair .str (.pair (.slice (.pair (.int .i64) (.pair (.int .i64) .unit))) (.pair .bool .unit)))) (.pair (.int .i64) (.pair .bool (.pair .bool .unit)))) true []), (7134, .blk (.mt .str (.slice (.int .i64))) .unit)] })]
noncomputable def f3_s1018 (ls : List P) : Tree Step :=
 .ite (decide ((lf ls 1).toInt < (((lf ls 0).xs).length : Int))) (
  .ite (inb ((lf ls 1).toInt) (((lf ls 0).xs).length)) (
   .ite (decide ((rd ((lf ls 0).xs) (((lf ls 1).toInt).toNat)).toInt ≥ (0 : Int))) (
    .ite (decide ((rd ((lf ls 0).xs) (((lf ls 1).toInt).toNat)).toInt < (((lf ls 3).xs).length : Int))) (
     .ite (inb ((rd ((lf ls 0).xs) (((lf ls 1).toInt).toNat)).toInt) (((lf ls 3).xs).length)) (
      .ite ((((((rd ((lf ls 3).xs) (((rd ((lf ls 0).xs) (((lf ls 1).toInt).toNat)).toInt).toNat)).snd).snd).snd).fst).toBool) (
       .ite (inb ((rd ((lf ls 0).xs) (((lf ls 1).toInt).toNat)).toInt) (((lf ls 4).xs).length)) (
        .loop (f20_v [.list ((lf ls 5).isNil) ((lf ls 5).xs), lf ls 6, lf ls 2, rd ((lf ls 0).xs) (((lf ls 1).toInt).toNat)]) fun x8 =>
         .ite (Nat.beq x8.1 0) (
          .ite (!(((lf x8.2 0).toBool) == (!((rd ((lf ls 4).xs) (((rd ((lf ls 0).xs) (((lf ls 1).toInt).toNat)).toInt).toNat)).toBool)))) (
           .ret (.inr (0, [.bool false]))) (
           .ite (!((rd ((lf ls 4).xs) (((rd ((lf ls 0).xs) (((lf ls 1).toInt).toNat)).toInt).toNat)).toBool)) (
            .ite (inb ((rd ((lf ls 0).xs) (((lf ls 1).toInt).toNat)).toInt) (((lf ls 4).xs).length)) (
             .ret (.inl [lf ls 0, .int .i64 (IntKind.i64.wrap (((lf ls 1).toInt) + (1 : Int))), lf ls 2, .list ((lf ls 3).isNil) ((lf ls 3).xs), .list ((lf ls 4).isNil) (((lf ls 4).xs).set (((rd ((lf ls 0).xs) (((lf ls 1).toInt).toNat)).toInt).toNat) (.bool true)), .list ((lf x8.2 1).isNil) ((lf x8.2 1).xs), lf ls 6])) (
             .fail)) (
            .ret (.inl [lf ls 0, .int .i64 (IntKind.i64.wrap (((lf ls 1).toInt) + (1 : Int))), lf ls 2, .list ((lf ls 3).isNil) ((lf ls 3).xs), .list ((lf ls 4).isNil) ((lf ls 4).xs), .list ((lf x8.2 1).isNil) ((lf x8.2 1).xs), lf ls 6])))) (
          .fail)) (
        .fail)) (
       .loop (f20_v [.list ((lf ls 5).isNil) ((lf ls 5).xs), lf ls 6, lf ls 2, rd ((lf ls 0).xs) (((lf ls 1).toInt).toNat)]) fun x9 =>
        .ite (Nat.beq x9.1 0) (
         .ite (!(((lf x9.2 0).toBool) == false)) (
          .ret (.inr (0, [.bool false]))) (
          .ret (.inl [lf ls 0, .int .i64 (IntKind.i64.wrap (((lf ls 1).toInt) + (1 : Int))), lf ls 2, .list ((lf ls 3).isNil) ((lf ls 3).xs), .list ((lf ls 4).isNil) ((lf ls 4).xs), .list ((lf x9.2 1).isNil) ((lf x9.2 1).xs), lf ls 6]))) (
         .fail))) (
      .fail)) (
     .loop (f20_v [.list ((lf ls 5).isNil) ((lf ls 5).xs), lf ls 6, lf ls 2, rd ((lf ls 0).xs) (((lf ls 1).toInt).toNat)]) fun x10 =>
      .ite (Nat.beq x10.1 0) (
       .ite (!(((lf x10.2 0).toBool) == false)) (
        .ret (.inr (0, [.bool false]))) (
        .ret (.inl [lf ls 0, .int .i64 (IntKind.i64.wrap (((lf ls 1).toInt) + (1 : Int))), lf ls 2, .list ((lf ls 3).isNil) ((lf ls 3).xs), .list ((lf ls 4).isNil) ((lf ls 4).xs), .list ((lf x10.2 1).isNil) ((lf x10.2 1).xs), lf ls 6]))) (
       .fail))) (
    .loop (f20_v [.list ((lf ls 5).isNil) ((lf ls 5).xs), lf ls 6, lf ls 2, rd ((lf ls 0).xs) (((lf ls 1).toInt).toNat)]) fun x11 =>
     .ite (Nat.beq x11.1 0) (
      .ite (!(((lf x11.2 0).toBool) == false)) (
       .ret (.inr (0, [.bool false]))) (
       .ret (.inl [lf ls 0, .int .i64 (IntKind.i64.wrap (((lf ls 1).toInt) + (1 : Int))), lf ls 2, .list ((lf ls 3).isNil) ((lf ls 3).xs), .list ((lf ls 4).isNil) ((lf ls 4).xs), .list ((lf x11.2 1).isNil) ((lf x11.2 1).xs), lf ls 6]))) (
      .fail))) (
   .fail)) (
  .ret (.inr (1, [lf ls 2, .list ((lf ls 3).isNil) ((lf ls 3).xs), .list ((lf ls 4).isNil) ((lf ls 4).xs), .list ((lf ls 5).isNil) ((lf ls 5).xs), lf ls 6])))
noncomputable def f3_k250 : Sk := { t := [(0, .imm (.slice (.pair .bool (.pair (.int .i64) (.pair (.slice (.pair .str (.pair (.slice (.pair (.int .i64) (.pair (.int .i64) .unit))) (.pair .bool .unit)))) (.pair .bool .unit))))) .unit), (1, .imm (.slice (.int .i64)) .unit), (5, .ref 6100 [] (.pair (.slice (.pair (.slice (.pair .str (.pair (.slice (.pair (.int .i64) (.pair (.int .i64) .unit))) (.pair .bool .unit)))) (.pair (.int .i64) (.pair .bool (.pair .bool .unit))))) (.pair .map .unit))), (6, .slf 6101 (.pair .bool (.pair (.int .i64) (.pair (.slice (.pair .str (.pair (.slice (.pair (.int .i64) (.pair (.int .i64) .unit))) (.pair .bool .unit)))) (.pair .bool .unit))))), (7, .imm (.int .i64) .unit)], h := [(6100, .obj (.pair (.slice (.pair (.slice (.pair .str (.pair (.slice (.pair (.int .i64) (.pair (.int .i64) .unit))) (.pair .bool .unit)))) (.pair (.int .i64) (.pair .bool (.pair .bool .unit))))) (.pair .map .unit)) (.pair (.slf 6102 (.pair (.slice (.pair .str (.pair (.slice (.pair (.int .i64) (.pair (.int .i64) .unit))) (.pair .bool .unit)))) (.pair (.int .i64) (.pair .bool (.pair .bool .unit))))) (.pair (.blk 6103 (.mt .str (.slice (.int .i64)))) (.imm .unit .unit)))), (6101, .arr (.pair .bool (.pair (.int .i64) (.pair (.slice (.pair .str (.pair (.slice (.pair (.int .i64) (.pair (.int .i64) .unit))) (.pair .bool .unit)))) (.pair .bool .unit)))) true []), (6102, .arr (.pair (.slice (.pair .str (.pair (.slice (.pair (.int .i64) (.pair (.int .i64) .unit))) (.pair .bool .unit)))) (.pair (.int .i64) (.pair .bool (.pair .bool .unit)))) true []), (6103, .blk (.mt .str (.slice (.int .i64))) .unit)] }
noncomputable def f3_o250 : List (Out × Sk) := [(.ret, { t := [(4, .imm .bool .unit)], h := [] }), ((.exit 0), { t := [(1, .imm (.slice (.int .i64)) .unit), (5, .ref 6130 [] (.pair (.slice (.pair (.slice (.pair .str (.pair (.slice (.pair (.int .i64) (.pair (.int .i64) .unit))) (.pair .bool .unit)))) (.pair (.int .i64) (.pair .bool (.pair .bool .unit))))) (.pair .map .unit))), (6, .slf 6131 (.pair .bool (.pair (.int .i64) (.pair (.slice (.pair .str (.pair (.slice (.pair (.int .i64) (.pair (.int .i64) .unit))) (.pair .bool .unit)))) (.pair .bool .unit)))))], h := [(6130, .obj (.pair (.slice (.pair (.slice (.pair .str (.pair (.slice (.pair (.int .i64) (.pair (.int .i64) .unit))) (.pair .bool .unit)))) (.pair (.int .i64) (.pair .bool (.pair .bool .unit))))) (.pair .map .unit)) (.pair (.slf 6132 (.pair (.slice (.pair .str (.pair (.slice (.pair (.int .i64) (.pair (.int .i64) .unit))) (.pair .bool .unit)))) (.pair (.int .i64) (.pair .bool (.pair .bool .unit))))) (.pair (.blk 6133 (.mt .str (.slice (.int .i64)))) (.imm .unit .unit)))), (6131, .arr (.pair .bool (.pair (.int .i64) (.pair (.slice (.pair .str (.pair (.slice (.pair (.int .i64) (.pair (.int .i64) .unit))) (.pair .bool .unit)))) (.pair .bool .unit)))) true []), (6132, .arr (.pair (.slice (.pair .str (.pair (.slice (.pair (.int .i64) (.pair (.int .i64) .unit))) (.pair .bool .unit)))) (.pair (.int .i64) (.pair .bool (.pair .bool .unit)))) true []), (6133, .blk (.mt .str (.slice (.int .i64))) .unit)] })]
noncomputable def f3_s250 (ls : List P) : Tree Step :=
 .ite (decide ((lf ls 2).toInt < (((lf ls 0).xs).length : Int))) (
  .ite (inb ((lf ls 2).toInt) (((lf ls 0).xs).length)) (
   .loop (f18_v [(((rd ((lf ls 0).xs) (((lf ls 2).toInt).toNat)).snd).snd).fst]) fun x5 =>
    .ite (Nat.beq x5.1 0) (
     .ite ((lf x5.2 0).toBool) (
      .ite (inb ((lf ls 2).toInt) (((lf ls 0).xs).length)) (
       .ite (inb ((lf ls 2).toInt) (((lf ls 0).xs).length)) (
        .ite (inb ((lf ls 2).toInt) (((lf ls 0).xs).length)) (
         .loop (f19_v [.list ((lf ls 5).isNil) ((lf ls 5).xs), lf ls 6, lf ls 3, (((rd ((lf ls 0).xs) (((lf ls 2).toInt).toNat)).snd).snd).fst, ((rd ((lf ls 0).xs) (((lf ls 2).toInt).toNat)).snd).fst, ((((rd ((lf ls 0).xs) (((lf ls 2).toInt).toNat)).snd).snd).snd).fst]) fun x6 =>
          .ite (Nat.beq x6.1 0) (
           .ite (((lf x6.2 0).toInt) != (((lf ls 4).xs).length : Int)) (
            .ret (.inr (0, [.bool false]))) (
            .ite (inb ((lf ls 2).toInt) (((lf ls 0).xs).length)) (
             .ite (decide ((((lf ls 4).xs).length + 1) * 48 ≤ 140737488355328)) (
              .ret (.inl [lf ls 0, lf ls 1, .int .i64 (IntKind.i64.wrap (((lf ls 2).toInt) + (1 : Int))), lf x6.2 3, .list (((lf ls 4).isNil) && false) (((lf ls 4).xs) ++ [rd ((lf ls 0).xs) (((lf ls 2).toInt).toNat)]), .list ((lf x6.2 1).isNil) ((lf x6.2 1).xs), lf x6.2 2])) (
              .fail)) (
             .fail))) (
           .fail)) (
         .fail)) (
        .fail)) (
       .fail)) (
      .ret (.inl [lf ls 0, lf ls 1, .int .i64 (IntKind.i64.wrap (((lf ls 2).toInt) + (1 : Int))), lf ls 3, .list ((lf ls 4).isNil) ((lf ls 4).xs), .list ((lf ls 5).isNil) ((lf ls 5).xs), lf ls 6]))) (
     .fail)) (
   .fail)) (
  .ret (.inr (1, [lf ls 1, lf ls 3, .list ((lf ls 4).isNil) ((lf ls 4).xs), .list ((lf ls 5).isNil) ((lf ls 5).xs), lf ls 6])))
noncomputable def f3_t (ps : List P) : Tree (Nat × List P) :=
 .loop (f15_v [lf ps 0]) fun x1 =>
  .ite (Nat.beq x1.1 0) (
   .ite ((lf x1.2 0).toBool) (
    .loop (f16_v []) fun x2 =>
     .ite (Nat.beq x2.1 0) (
      .ret (0, [lf x2.2 0])) (
      .fail)) (
    .ite (decide ((((lf ps 1).xs).length : Int) > (60 : Int))) (
     .loop (f16_v []) fun x3 =>
      .ite (Nat.beq x3.1 0) (
       .ret (0, [lf x3.2 0])) (
       .fail)) (
     .loop (f17_v []) fun x4 =>
      .ite (Nat.beq x4.1 0) (
       .loop (loopT f3_s250 FUEL [lf ps 0, lf ps 1, .int .i64 (0 : Int), lf x4.2 1, .list true [], .list true [], lf x4.2 0]) fun y7 =>
        .ite (Nat.beq y7.1 0) (
         .ret (0, [lf y7.2 0])) (
         .ite (Nat.beq y7.1 1) (
          .ite (decide ((0 : Int) ≤ (((lf y7.2 2).xs).length : Int) ∧ (((lf y7.2 2).xs).length : Int) ≤ (((lf y7.2 2).xs).length : Int) ∧ (((lf y7.2 2).xs).length : Int) * 1 ≤ 140737488355328 ∧ (((lf y7.2 2).xs).length : Int) ≤ 140737488355328)) (
           .loop (loopT f3_s1018 FUEL [lf y7.2 0, .int .i64 (0 : Int), lf y7.2 1, .list ((lf y7.2 2).isNil) ((lf y7.2 2).xs), .list false (List.replicate ((((lf y7.2 2).xs).length : Int).toNat) (.bool false)), .list ((lf y7.2 3).isNil) ((lf y7.2 3).xs), lf y7.2 4]) fun y12 =>
            .ite (Nat.beq y12.1 0) (
             .ret (0, [lf y12.2 0])) (
             .ite (Nat.beq y12.1 1) (
              .loop (loopT f3_s4090 FUEL [.int .i64 (0 : Int), .int .i64 (0 : Int), lf y12.2 0, .list ((lf y12.2 1).isNil) ((lf y12.2 1).xs), .list ((lf y12.2 2).isNil) ((lf y12.2 2).xs), .list ((lf y12.2 3).isNil) ((lf y12.2 3).xs), lf y12.2 4]) fun y17 =>
               .ite (Nat.beq y17.1 0) (
                .ret (0, [lf y17.2 0])) (
                .ite (Nat.beq y17.1 1) (
                 .loop (f23_v [.list ((lf y17.2 2).isNil) ((lf y17.2 2).xs), lf y17.2 3, lf y17.2 1]) fun x18 =>
                  .ite (Nat.beq x18.1 0) (
                   .ite ((((lf x18.2 0).xs).length : Int) == ((lf y17.2 0).toInt)) (
                    .loop (f16_v []) fun x19 =>
                     .ite (Nat.beq x19.1 0) (
                      .ret (0, [lf x19.2 0])) (
                      .fail)) (
                    .ret (0, [.bool false]))) (
                   .fail)) (
                 .fail))) (
              .fail))) (
           .fail)) (
          .fail))) (
       .fail)))) (
   .fail)
noncomputable def f3_v (ps : List P) : Option (Nat × List P) := (f3_t ps).run some
noncomputable def f3_e : EntD := ⟨3, [.imm (.slice (.pair .bool (.pair (.int .i64) (.pair (.slice (.pair .str (.pair (.slice (.pair (.int .i64) (.pair (.int .i64) .unit))) (.pair .bool .unit)))) (.pair .bool .unit))))), .imm (.slice (.int .i64))], f3_v, [fun ps ls qs => ⟨[.imm .bool (lf qs 0)], [.imm (.slice (.pair .bool (.pair (.int .i64) (.pair (.slice (.pair .str (.pair (.slice (.pair (.int .i64) (.pair (.int .i64) .unit))) (.pair .bool .unit)))) (.pair .bool .unit))))) (lf ps 0), .imm (.slice (.int .i64)) (lf ps 1)]⟩]⟩
noncomputable def f3_u : List Cu := [.loop 1047114 f3_k1047114 f3_o1047114 f3_s1047114, .loop 4090 f3_k4090 f3_o4090 f3_s4090, .loop 1018 f3_k1018 f3_o1018 f3_s1018, .loop 250 f3_k250 f3_o250 f3_s250]
noncomputable def f3_c : Cx := ⟨Try.prog, envOf [f15_e, f16_e, f17_e, f18_e, f19_e, f20_e, f21_e, f22_e, f23_e], 192, lOf f3_u, fun _ => false⟩
noncomputable def f3_b : Code := match Try.f3.body with | some b => b | none => .skip
theorem f3_q1047114 : (Cu.loop 1047114 f3_k1047114 f3_o1047114 f3_s1047114).Ok f3_c f3_b := ⟨by kernel_rfl, fun ls Kr Kx => by kernel_rfl⟩
theorem f3_q4090 : (Cu.loop 4090 f3_k4090 f3_o4090 f3_s4090).Ok f3_c f3_b := ⟨by kernel_rfl, fun ls Kr Kx => by kernel_rfl⟩
theorem f3_q1018 : (Cu.loop 1018 f3_k1018 f3_o1018 f3_s1018).Ok f3_c f3_b := ⟨by kernel_rfl, fun ls Kr Kx => by kernel_rfl⟩
theorem f3_q250 : (Cu.loop 250 f3_k250 f3_o250 f3_s250).Ok f3_c f3_b := ⟨by kernel_rfl, fun ls Kr Kx => by kernel_rfl⟩
theorem f3_x (ps : List P) (ls : List Nat) : execFn f3_c 3 f3_e.tm (explF ps 2 0) ls = (f3_t ps).run fun q => altR (f3_e.res.map fun f => f ps ls) 0 q some := by kernel_rfl
theorem f3_ok : OkEnt Try.prog f3_e := ent_ok (c := f3_c) (g := 3) (body := f3_b) (us := f3_u) (n := 2) (t := f3_t) (good_envOf _ ⟨f15_ok, f16_ok, f17_ok, f18_ok, f19_ok, f20_ok, f21_ok, f22_ok, f23_ok, trivial⟩) Try.func3 rfl Try.call3 rfl ⟨f3_q1047114, f3_q4090, f3_q1018, f3_q250, trivial⟩ (by kernel_rfl) f3_x (fun _ => rfl)
end Go.Proofs.Ytjemihhhkhdbeaa
