/- Functions: what each tells. Conditions: none. -/
import Derived.Test.YtjemihhhkhdbeaaFSp0
open Go Go.Eng Go.Proofs
set_option pp.deepTerms true
set_option linter.unusedVariables false
namespace Go.Proofs.Ytjemihhhkhdbeaa
/-! ### comprador/compradorref03.wide -/
noncomputable def f216_k2042 : Sk := { t := [(0, .imm .str .unit), (1, .imm (.int .i64) .unit), (5, .imm (.int .i64) .unit), (6, .imm (.int .i64) .unit), (7, .imm (.int .i64) .unit)], h := [] }
noncomputable def f216_o2042 : List (Out × Sk) := [(.ret, { t := [(4, .imm (.int .i64) .unit)], h := [] }), ((.exit 0), { t := [(0, .imm .str .unit), (1, .imm (.int .i64) .unit), (5, .imm (.int .i64) .unit), (6, .imm (.int .i64) .unit)], h := [] })]
noncomputable def f216_s2042 (ls : List P) : Tree Step :=
 .ite (decide ((lf ls 4).toInt < (lf ls 2).toInt)) (
  .ite (inb (IntKind.i64.wrap (((lf ls 1).toInt) + ((lf ls 4).toInt))) (((lf ls 0).toStr).size)) (
   .ite (decide (byteAt ((lf ls 0).toStr) (IntKind.i64.wrap (((lf ls 1).toInt) + ((lf ls 4).toInt))) < (128 : Int))) (
    .ret (.inr (0, [.int .i64 (0 : Int)]))) (
    .ite (inb (IntKind.i64.wrap (((lf ls 1).toInt) + ((lf ls 4).toInt))) (((lf ls 0).toStr).size)) (
     .ite (decide (byteAt ((lf ls 0).toStr) (IntKind.i64.wrap (((lf ls 1).toInt) + ((lf ls 4).toInt))) > (191 : Int))) (
      .ret (.inr (0, [.int .i64 (0 : Int)]))) (
      .ret (.inl [lf ls 0, lf ls 1, lf ls 2, lf ls 3, .int .i64 (IntKind.i64.wrap (((lf ls 4).toInt) + (1 : Int)))]))) (
     .fail))) (
   .fail)) (
  .ret (.inr (1, [lf ls 0, lf ls 1, lf ls 2, lf ls 3])))
noncomputable def f216_k253 : Sk := { t := [(0, .imm .str .unit), (1, .imm (.int .i64) .unit), (5, .imm (.int .i64) .unit), (6, .imm (.int .i64) .unit), (30, .imm .bool .unit)], h := [] }
noncomputable def f216_o253 : List (Out × Sk) := [(.norm, { t := [(0, .imm .str .unit), (1, .imm (.int .i64) .unit), (5, .imm (.int .i64) .unit), (6, .imm (.int .i64) .unit)], h := [] })]
noncomputable def f216_s253 (ls : List P) : Tree (Nat × List P) :=
 .ite ((lf ls 4).toBool) (
  .ret (0, [lf ls 0, lf ls 1, .int .i64 (4 : Int), lf ls 3])) (
  .ret (0, [lf ls 0, lf ls 1, lf ls 2, lf ls 3]))
noncomputable def f216_k125 : Sk := { t := [(0, .imm .str .unit), (1, .imm (.int .i64) .unit), (5, .imm (.int .i64) .unit), (6, .imm (.int .i64) .unit), (24, .imm .bool .unit)], h := [] }
noncomputable def f216_o125 : List (Out × Sk) := [(.norm, { t := [(0, .imm .str .unit), (1, .imm (.int .i64) .unit), (5, .imm (.int .i64) .unit), (6, .imm (.int .i64) .unit)], h := [] })]
noncomputable def f216_s125 (ls : List P) : Tree (Nat × List P) :=
 .ite ((lf ls 4).toBool) (
  .ret (0, [lf ls 0, lf ls 1, .int .i64 (3 : Int), lf ls 3])) (
  .ret (0, [lf ls 0, lf ls 1, lf ls 2, lf ls 3]))
noncomputable def f216_k61 : Sk := { t := [(0, .imm .str .unit), (1, .imm (.int .i64) .unit), (5, .imm (.int .i64) .unit), (6, .imm (.int .i64) .unit), (18, .imm .bool .unit)], h := [] }
noncomputable def f216_o61 : List (Out × Sk) := [(.norm, { t := [(0, .imm .str .unit), (1, .imm (.int .i64) .unit), (5, .imm (.int .i64) .unit), (6, .imm (.int .i64) .unit)], h := [] })]
noncomputable def f216_s61 (ls : List P) : Tree (Nat × List P) :=
 .ite ((lf ls 4).toBool) (
  .ret (0, [lf ls 0, lf ls 1, .int .i64 (2 : Int), lf ls 3])) (
  .ret (0, [lf ls 0, lf ls 1, lf ls 2, lf ls 3]))
noncomputable def f216_t (ps : List P) : Tree (Nat × List P) :=
 .ite (inb ((lf ps 1).toInt) (((lf ps 0).toStr).size)) (
  .ite (decide (IntKind.i64.wrap (byteAt ((lf ps 0).toStr) ((lf ps 1).toInt)) ≥ (194 : Int))) (
   .loop ((f216_s61 [lf ps 0, lf ps 1, .int .i64 (0 : Int), .int .i64 (IntKind.i64.wrap (byteAt ((lf ps 0).toStr) ((lf ps 1).toInt))), .bool (decide (IntKind.i64.wrap (byteAt ((lf ps 0).toStr) ((lf ps 1).toInt)) ≤ (223 : Int)))]).run some) fun y1 =>
    .ite (Nat.beq y1.1 0) (
     .ite (decide ((lf y1.2 3).toInt ≥ (224 : Int))) (
      .loop ((f216_s125 [lf y1.2 0, lf y1.2 1, lf y1.2 2, lf y1.2 3, .bool (decide ((lf y1.2 3).toInt ≤ (239 : Int)))]).run some) fun y2 =>
       .ite (Nat.beq y2.1 0) (
        .ite (decide ((lf y2.2 3).toInt ≥ (240 : Int))) (
         .loop ((f216_s253 [lf y2.2 0, lf y2.2 1, lf y2.2 2, lf y2.2 3, .bool (decide ((lf y2.2 3).toInt ≤ (244 : Int)))]).run some) fun y3 =>
          .ite (Nat.beq y3.1 0) (
           .ite (((lf y3.2 2).toInt) == (0 : Int)) (
            .ret (0, [.int .i64 (0 : Int)])) (
            .ite (decide (IntKind.i64.wrap ((((lf y3.2 0).toStr).size : Int) - ((lf y3.2 1).toInt)) < (lf y3.2 2).toInt)) (
             .ret (0, [.int .i64 (0 : Int)])) (
             .loop (loopT f216_s2042 FUEL [lf y3.2 0, lf y3.2 1, lf y3.2 2, lf y3.2 3, .int .i64 (1 : Int)]) fun y4 =>
              .ite (Nat.beq y4.1 0) (
               .ret (0, [lf y4.2 0])) (
               .ite (Nat.beq y4.1 1) (
                .ite (inb (IntKind.i64.wrap (((lf y4.2 1).toInt) + (1 : Int))) (((lf y4.2 0).toStr).size)) (
                 .ite (((lf y4.2 3).toInt) == (224 : Int)) (
                  .ite (decide (IntKind.i64.wrap (byteAt ((lf y4.2 0).toStr) (IntKind.i64.wrap (((lf y4.2 1).toInt) + (1 : Int)))) < (160 : Int))) (
                   .ret (0, [.int .i64 (0 : Int)])) (
                   .ite (((lf y4.2 3).toInt) == (237 : Int)) (
                    .ite (decide (IntKind.i64.wrap (byteAt ((lf y4.2 0).toStr) (IntKind.i64.wrap (((lf y4.2 1).toInt) + (1 : Int)))) > (159 : Int))) (
                     .ret (0, [.int .i64 (0 : Int)])) (
                     .ite (((lf y4.2 3).toInt) == (240 : Int)) (
                      .ite (decide (IntKind.i64.wrap (byteAt ((lf y4.2 0).toStr) (IntKind.i64.wrap (((lf y4.2 1).toInt) + (1 : Int)))) < (144 : Int))) (
                       .ret (0, [.int .i64 (0 : Int)])) (
                       .ite (((lf y4.2 3).toInt) == (244 : Int)) (
                        .ite (decide (IntKind.i64.wrap (byteAt ((lf y4.2 0).toStr) (IntKind.i64.wrap (((lf y4.2 1).toInt) + (1 : Int)))) > (143 : Int))) (
                         .ret (0, [.int .i64 (0 : Int)])) (
                         .ret (0, [lf y4.2 2]))) (
                        .ret (0, [lf y4.2 2])))) (
                      .ite (((lf y4.2 3).toInt) == (244 : Int)) (
                       .ite (decide (IntKind.i64.wrap (byteAt ((lf y4.2 0).toStr) (IntKind.i64.wrap (((lf y4.2 1).toInt) + (1 : Int)))) > (143 : Int))) (
                        .ret (0, [.int .i64 (0 : Int)])) (
                        .ret (0, [lf y4.2 2]))) (
                       .ret (0, [lf y4.2 2]))))) (
                    .ite (((lf y4.2 3).toInt) == (240 : Int)) (
                     .ite (decide (IntKind.i64.wrap (byteAt ((lf y4.2 0).toStr) (IntKind.i64.wrap (((lf y4.2 1).toInt) + (1 : Int)))) < (144 : Int))) (
                      .ret (0, [.int .i64 (0 : Int)])) (
                      .ite (((lf y4.2 3).toInt) == (244 : Int)) (
                       .ite (decide (IntKind.i64.wrap (byteAt ((lf y4.2 0).toStr) (IntKind.i64.wrap (((lf y4.2 1).toInt) + (1 : Int)))) > (143 : Int))) (
                        .ret (0, [.int .i64 (0 : Int)])) (
                        .ret (0, [lf y4.2 2]))) (
                       .ret (0, [lf y4.2 2])))) (
                     .ite (((lf y4.2 3).toInt) == (244 : Int)) (
                      .ite (decide (IntKind.i64.wrap (byteAt ((lf y4.2 0).toStr) (IntKind.i64.wrap (((lf y4.2 1).toInt) + (1 : Int)))) > (143 : Int))) (
                       .ret (0, [.int .i64 (0 : Int)])) (
                       .ret (0, [lf y4.2 2]))) (
                      .ret (0, [lf y4.2 2])))))) (
                  .ite (((lf y4.2 3).toInt) == (237 : Int)) (
                   .ite (decide (IntKind.i64.wrap (byteAt ((lf y4.2 0).toStr) (IntKind.i64.wrap (((lf y4.2 1).toInt) + (1 : Int)))) > (159 : Int))) (
                    .ret (0, [.int .i64 (0 : Int)])) (
                    .ite (((lf y4.2 3).toInt) == (240 : Int)) (
                     .ite (decide (IntKind.i64.wrap (byteAt ((lf y4.2 0).toStr) (IntKind.i64.wrap (((lf y4.2 1).toInt) + (1 : Int)))) < (144 : Int))) (
                      .ret (0, [.int .i64 (0 : Int)])) (
                      .ite (((lf y4.2 3).toInt) == (244 : Int)) (
                       .ite (decide (IntKind.i64.wrap (byteAt ((lf y4.2 0).toStr) (IntKind.i64.wrap (((lf y4.2 1).toInt) + (1 : Int)))) > (143 : Int))) (
                        .ret (0, [.int .i64 (0 : Int)])) (
                        .ret (0, [lf y4.2 2]))) (
                       .ret (0, [lf y4.2 2])))) (
                     .ite (((lf y4.2 3).toInt) == (244 : Int)) (
                      .ite (decide (IntKind.i64.wrap (byteAt ((lf y4.2 0).toStr) (IntKind.i64.wrap (((lf y4.2 1).toInt) + (1 : Int)))) > (143 : Int))) (
                       .ret (0, [.int .i64 (0 : Int)])) (
                       .ret (0, [lf y4.2 2]))) (
                      .ret (0, [lf y4.2 2]))))) (
                   .ite (((lf y4.2 3).toInt) == (240 : Int)) (
                    .ite (decide (IntKind.i64.wrap (byteAt ((lf y4.2 0).toStr) (IntKind.i64.wrap (((lf y4.2 1).toInt) + (1 : Int)))) < (144 : Int))) (
                     .ret (0, [.int .i64 (0 : Int)])) (
                     .ite (((lf y4.2 3).toInt) == (244 : Int)) (
                      .ite (decide (IntKind.i64.wrap (byteAt ((lf y4.2 0).toStr) (IntKind.i64.wrap (((lf y4.2 1).toInt) + (1 : Int)))) > (143 : Int))) (
                       .ret (0, [.int .i64 (0 : Int)])) (
                       .ret (0, [lf y4.2 2]))) (
                      .ret (0, [lf y4.2 2])))) (
                    .ite (((lf y4.2 3).toInt) == (244 : Int)) (
                     .ite (decide (IntKind.i64.wrap (byteAt ((lf y4.2 0).toStr) (IntKind.i64.wrap (((lf y4.2 1).toInt) + (1 : Int)))) > (143 : Int))) (
                      .ret (0, [.int .i64 (0 : Int)])) (
                      .ret (0, [lf y4.2 2]))) (
                     .ret (0, [lf y4.2 2])))))) (
                 .fail)) (
                .fail))))) (
           .fail)) (
         .loop ((f216_s253 [lf y2.2 0, lf y2.2 1, lf y2.2 2, lf y2.2 3, .bool false]).run some) fun y5 =>
          .ite (Nat.beq y5.1 0) (
           .ite (((lf y5.2 2).toInt) == (0 : Int)) (
            .ret (0, [.int .i64 (0 : Int)])) (
            .ite (decide (IntKind.i64.wrap ((((lf y5.2 0).toStr).size : Int) - ((lf y5.2 1).toInt)) < (lf y5.2 2).toInt)) (
             .ret (0, [.int .i64 (0 : Int)])) (
             .loop (loopT f216_s2042 FUEL [lf y5.2 0, lf y5.2 1, lf y5.2 2, lf y5.2 3, .int .i64 (1 : Int)]) fun y6 =>
              .ite (Nat.beq y6.1 0) (
               .ret (0, [lf y6.2 0])) (
               .ite (Nat.beq y6.1 1) (
                .ite (inb (IntKind.i64.wrap (((lf y6.2 1).toInt) + (1 : Int))) (((lf y6.2 0).toStr).size)) (
                 .ite (((lf y6.2 3).toInt) == (224 : Int)) (
                  .ite (decide (IntKind.i64.wrap (byteAt ((lf y6.2 0).toStr) (IntKind.i64.wrap (((lf y6.2 1).toInt) + (1 : Int)))) < (160 : Int))) (
                   .ret (0, [.int .i64 (0 : Int)])) (
                   .ite (((lf y6.2 3).toInt) == (237 : Int)) (
                    .ite (decide (IntKind.i64.wrap (byteAt ((lf y6.2 0).toStr) (IntKind.i64.wrap (((lf y6.2 1).toInt) + (1 : Int)))) > (159 : Int))) (
                     .ret (0, [.int .i64 (0 : Int)])) (
                     .ite (((lf y6.2 3).toInt) == (240 : Int)) (
                      .ite (decide (IntKind.i64.wrap (byteAt ((lf y6.2 0).toStr) (IntKind.i64.wrap (((lf y6.2 1).toInt) + (1 : Int)))) < (144 : Int))) (
                       .ret (0, [.int .i64 (0 : Int)])) (
                       .ite (((lf y6.2 3).toInt) == (244 : Int)) (
                        .ite (decide (IntKind.i64.wrap (byteAt ((lf y6.2 0).toStr) (IntKind.i64.wrap (((lf y6.2 1).toInt) + (1 : Int)))) > (143 : Int))) (
                         .ret (0, [.int .i64 (0 : Int)])) (
                         .ret (0, [lf y6.2 2]))) (
                        .ret (0, [lf y6.2 2])))) (
                      .ite (((lf y6.2 3).toInt) == (244 : Int)) (
                       .ite (decide (IntKind.i64.wrap (byteAt ((lf y6.2 0).toStr) (IntKind.i64.wrap (((lf y6.2 1).toInt) + (1 : Int)))) > (143 : Int))) (
                        .ret (0, [.int .i64 (0 : Int)])) (
                        .ret (0, [lf y6.2 2]))) (
                       .ret (0, [lf y6.2 2]))))) (
                    .ite (((lf y6.2 3).toInt) == (240 : Int)) (
                     .ite (decide (IntKind.i64.wrap (byteAt ((lf y6.2 0).toStr) (IntKind.i64.wrap (((lf y6.2 1).toInt) + (1 : Int)))) < (144 : Int))) (
                      .ret (0, [.int .i64 (0 : Int)])) (
                      .ite (((lf y6.2 3).toInt) == (244 : Int)) (
                       .ite (decide (IntKind.i64.wrap (byteAt ((lf y6.2 0).toStr) (IntKind.i64.wrap (((lf y6.2 1).toInt) + (1 : Int)))) > (143 : Int))) (
                        .ret (0, [.int .i64 (0 : Int)])) (
                        .ret (0, [lf y6.2 2]))) (
                       .ret (0, [lf y6.2 2])))) (
                     .ite (((lf y6.2 3).toInt) == (244 : Int)) (
                      .ite (decide (IntKind.i64.wrap (byteAt ((lf y6.2 0).toStr) (IntKind.i64.wrap (((lf y6.2 1).toInt) + (1 : Int)))) > (143 : Int))) (
                       .ret (0, [.int .i64 (0 : Int)])) (
                       .ret (0, [lf y6.2 2]))) (
                      .ret (0, [lf y6.2 2])))))) (
                  .ite (((lf y6.2 3).toInt) == (237 : Int)) (
                   .ite (decide (IntKind.i64.wrap (byteAt ((lf y6.2 0).toStr) (IntKind.i64.wrap (((lf y6.2 1).toInt) + (1 : Int)))) > (159 : Int))) (
                    .ret (0, [.int .i64 (0 : Int)])) (
                    .ite (((lf y6.2 3).toInt) == (240 : Int)) (
                     .ite (decide (IntKind.i64.wrap (byteAt ((lf y6.2 0).toStr) (IntKind.i64.wrap (((lf y6.2 1).toInt) + (1 : Int)))) < (144 : Int))) (
                      .ret (0, [.int .i64 (0 : Int)])) (
                      .ite (((lf y6.2 3).toInt) == (244 : Int)) (
                       .ite (decide (IntKind.i64.wrap (byteAt ((lf y6.2 0).toStr) (IntKind.i64.wrap (((lf y6.2 1).toInt) + (1 : Int)))) > (143 : Int))) (
                        .ret (0, [.int .i64 (0 : Int)])) (
                        .ret (0, [lf y6.2 2]))) (
                       .ret (0, [lf y6.2 2])))) (
                     .ite (((lf y6.2 3).toInt) == (244 : Int)) (
                      .ite (decide (IntKind.i64.wrap (byteAt ((lf y6.2 0).toStr) (IntKind.i64.wrap (((lf y6.2 1).toInt) + (1 : Int)))) > (143 : Int))) (
                       .ret (0, [.int .i64 (0 : Int)])) (
                       .ret (0, [lf y6.2 2]))) (
                      .ret (0, [lf y6.2 2]))))) (
                   .ite (((lf y6.2 3).toInt) == (240 : Int)) (
                    .ite (decide (IntKind.i64.wrap (byteAt ((lf y6.2 0).toStr) (IntKind.i64.wrap (((lf y6.2 1).toInt) + (1 : Int)))) < (144 : Int))) (
                     .ret (0, [.int .i64 (0 : Int)])) (
                     .ite (((lf y6.2 3).toInt) == (244 : Int)) (
                      .ite (decide (IntKind.i64.wrap (byteAt ((lf y6.2 0).toStr) (IntKind.i64.wrap (((lf y6.2 1).toInt) + (1 : Int)))) > (143 : Int))) (
                       .ret (0, [.int .i64 (0 : Int)])) (
                       .ret (0, [lf y6.2 2]))) (
                      .ret (0, [lf y6.2 2])))) (
                    .ite (((lf y6.2 3).toInt) == (244 : Int)) (
                     .ite (decide (IntKind.i64.wrap (byteAt ((lf y6.2 0).toStr) (IntKind.i64.wrap (((lf y6.2 1).toInt) + (1 : Int)))) > (143 : Int))) (
                      .ret (0, [.int .i64 (0 : Int)])) (
                      .ret (0, [lf y6.2 2]))) (
                     .ret (0, [lf y6.2 2])))))) (
                 .fail)) (
                .fail))))) (
           .fail))) (
        .fail)) (
      .loop ((f216_s125 [lf y1.2 0, lf y1.2 1, lf y1.2 2, lf y1.2 3, .bool false]).run some) fun y7 =>
       .ite (Nat.beq y7.1 0) (
        .ite (decide ((lf y7.2 3).toInt ≥ (240 : Int))) (
         .loop ((f216_s253 [lf y7.2 0, lf y7.2 1, lf y7.2 2, lf y7.2 3, .bool (decide ((lf y7.2 3).toInt ≤ (244 : Int)))]).run some) fun y8 =>
          .ite (Nat.beq y8.1 0) (
           .ite (((lf y8.2 2).toInt) == (0 : Int)) (
            .ret (0, [.int .i64 (0 : Int)])) (
            .ite (decide (IntKind.i64.wrap ((((lf y8.2 0).toStr).size : Int) - ((lf y8.2 1).toInt)) < (lf y8.2 2).toInt)) (
             .ret (0, [.int .i64 (0 : Int)])) (
             .loop (loopT f216_s2042 FUEL [lf y8.2 0, lf y8.2 1, lf y8.2 2, lf y8.2 3, .int .i64 (1 : Int)]) fun y9 =>
              .ite (Nat.beq y9.1 0) (
               .ret (0, [lf y9.2 0])) (
               .ite (Nat.beq y9.1 1) (
                .ite (inb (IntKind.i64.wrap (((lf y9.2 1).toInt) + (1 : Int))) (((lf y9.2 0).toStr).size)) (
                 .ite (((lf y9.2 3).toInt) == (224 : Int)) (
                  .ite (decide (IntKind.i64.wrap (byteAt ((lf y9.2 0).toStr) (IntKind.i64.wrap (((lf y9.2 1).toInt) + (1 : Int)))) < (160 : Int))) (
                   .ret (0, [.int .i64 (0 : Int)])) (
                   .ite (((lf y9.2 3).toInt) == (237 : Int)) (
                    .ite (decide (IntKind.i64.wrap (byteAt ((lf y9.2 0).toStr) (IntKind.i64.wrap (((lf y9.2 1).toInt) + (1 : Int)))) > (159 : Int))) (
                     .ret (0, [.int .i64 (0 : Int)])) (
                     .ite (((lf y9.2 3).toInt) == (240 : Int)) (
                      .ite (decide (IntKind.i64.wrap (byteAt ((lf y9.2 0).toStr) (IntKind.i64.wrap (((lf y9.2 1).toInt) + (1 : Int)))) < (144 : Int))) (
                       .ret (0, [.int .i64 (0 : Int)])) (
                       .ite (((lf y9.2 3).toInt) == (244 : Int)) (
                        .ite (decide (IntKind.i64.wrap (byteAt ((lf y9.2 0).toStr) (IntKind.i64.wrap (((lf y9.2 1).toInt) + (1 : Int)))) > (143 : Int))) (
                         .ret (0, [.int .i64 (0 : Int)])) (
                         .ret (0, [lf y9.2 2]))) (
                        .ret (0, [lf y9.2 2])))) (
                      .ite (((lf y9.2 3).toInt) == (244 : Int)) (
                       .ite (decide (IntKind.i64.wrap (byteAt ((lf y9.2 0).toStr) (IntKind.i64.wrap (((lf y9.2 1).toInt) + (1 : Int)))) > (143 : Int))) (
                        .ret (0, [.int .i64 (0 : Int)])) (
                        .ret (0, [lf y9.2 2]))) (
                       .ret (0, [lf y9.2 2]))))) (
                    .ite (((lf y9.2 3).toInt) == (240 : Int)) (
                     .ite (decide (IntKind.i64.wrap (byteAt ((lf y9.2 0).toStr) (IntKind.i64.wrap (((lf y9.2 1).toInt) + (1 : Int)))) < (144 : Int))) (
                      .ret (0, [.int .i64 (0 : Int)])) (
                      .ite (((lf y9.2 3).toInt) == (244 : Int)) (
                       .ite (decide (IntKind.i64.wrap (byteAt ((lf y9.2 0).toStr) (IntKind.i64.wrap (((lf y9.2 1).toInt) + (1 : Int)))) > (143 : Int))) (
                        .ret (0, [.int .i64 (0 : Int)])) (
                        .ret (0, [lf y9.2 2]))) (
                       .ret (0, [lf y9.2 2])))) (
                     .ite (((lf y9.2 3).toInt) == (244 : Int)) (
                      .ite (decide (IntKind.i64.wrap (byteAt ((lf y9.2 0).toStr) (IntKind.i64.wrap (((lf y9.2 1).toInt) + (1 : Int)))) > (143 : Int))) (
                       .ret (0, [.int .i64 (0 : Int)])) (
                       .ret (0, [lf y9.2 2]))) (
                      .ret (0, [lf y9.2 2])))))) (
                  .ite (((lf y9.2 3).toInt) == (237 : Int)) (
                   .ite (decide (IntKind.i64.wrap (byteAt ((lf y9.2 0).toStr) (IntKind.i64.wrap (((lf y9.2 1).toInt) + (1 : Int)))) > (159 : Int))) (
                    .ret (0, [.int .i64 (0 : Int)])) (
                    .ite (((lf y9.2 3).toInt) == (240 : Int)) (
                     .ite (decide (IntKind.i64.wrap (byteAt ((lf y9.2 0).toStr) (IntKind.i64.wrap (((lf y9.2 1).toInt) + (1 : Int)))) < (144 : Int))) (
                      .ret (0, [.int .i64 (0 : Int)])) (
                      .ite (((lf y9.2 3).toInt) == (244 : Int)) (
                       .ite (decide (IntKind.i64.wrap (byteAt ((lf y9.2 0).toStr) (IntKind.i64.wrap (((lf y9.2 1).toInt) + (1 : Int)))) > (143 : Int))) (
                        .ret (0, [.int .i64 (0 : Int)])) (
                        .ret (0, [lf y9.2 2]))) (
                       .ret (0, [lf y9.2 2])))) (
                     .ite (((lf y9.2 3).toInt) == (244 : Int)) (
                      .ite (decide (IntKind.i64.wrap (byteAt ((lf y9.2 0).toStr) (IntKind.i64.wrap (((lf y9.2 1).toInt) + (1 : Int)))) > (143 : Int))) (
                       .ret (0, [.int .i64 (0 : Int)])) (
                       .ret (0, [lf y9.2 2]))) (
                      .ret (0, [lf y9.2 2]))))) (
                   .ite (((lf y9.2 3).toInt) == (240 : Int)) (
                    .ite (decide (IntKind.i64.wrap (byteAt ((lf y9.2 0).toStr) (IntKind.i64.wrap (((lf y9.2 1).toInt) + (1 : Int)))) < (144 : Int))) (
                     .ret (0, [.int .i64 (0 : Int)])) (
                     .ite (((lf y9.2 3).toInt) == (244 : Int)) (
                      .ite (decide (IntKind.i64.wrap (byteAt ((lf y9.2 0).toStr) (IntKind.i64.wrap (((lf y9.2 1).toInt) + (1 : Int)))) > (143 : Int))) (
                       .ret (0, [.int .i64 (0 : Int)])) (
                       .ret (0, [lf y9.2 2]))) (
                      .ret (0, [lf y9.2 2])))) (
                    .ite (((lf y9.2 3).toInt) == (244 : Int)) (
                     .ite (decide (IntKind.i64.wrap (byteAt ((lf y9.2 0).toStr) (IntKind.i64.wrap (((lf y9.2 1).toInt) + (1 : Int)))) > (143 : Int))) (
                      .ret (0, [.int .i64 (0 : Int)])) (
                      .ret (0, [lf y9.2 2]))) (
                     .ret (0, [lf y9.2 2])))))) (
                 .fail)) (
                .fail))))) (
           .fail)) (
         .loop ((f216_s253 [lf y7.2 0, lf y7.2 1, lf y7.2 2, lf y7.2 3, .bool false]).run some) fun y10 =>
          .ite (Nat.beq y10.1 0) (
           .ite (((lf y10.2 2).toInt) == (0 : Int)) (
            .ret (0, [.int .i64 (0 : Int)])) (
            .ite (decide (IntKind.i64.wrap ((((lf y10.2 0).toStr).size : Int) - ((lf y10.2 1).toInt)) < (lf y10.2 2).toInt)) (
             .ret (0, [.int .i64 (0 : Int)])) (
             .loop (loopT f216_s2042 FUEL [lf y10.2 0, lf y10.2 1, lf y10.2 2, lf y10.2 3, .int .i64 (1 : Int)]) fun y11 =>
              .ite (Nat.beq y11.1 0) (
               .ret (0, [lf y11.2 0])) (
               .ite (Nat.beq y11.1 1) (
                .ite (inb (IntKind.i64.wrap (((lf y11.2 1).toInt) + (1 : Int))) (((lf y11.2 0).toStr).size)) (
                 .ite (((lf y11.2 3).toInt) == (224 : Int)) (
                  .ite (decide (IntKind.i64.wrap (byteAt ((lf y11.2 0).toStr) (IntKind.i64.wrap (((lf y11.2 1).toInt) + (1 : Int)))) < (160 : Int))) (
                   .ret (0, [.int .i64 (0 : Int)])) (
                   .ite (((lf y11.2 3).toInt) == (237 : Int)) (
                    .ite (decide (IntKind.i64.wrap (byteAt ((lf y11.2 0).toStr) (IntKind.i64.wrap (((lf y11.2 1).toInt) + (1 : Int)))) > (159 : Int))) (
                     .ret (0, [.int .i64 (0 : Int)])) (
                     .ite (((lf y11.2 3).toInt) == (240 : Int)) (
                      .ite (decide (IntKind.i64.wrap (byteAt ((lf y11.2 0).toStr) (IntKind.i64.wrap (((lf y11.2 1).toInt) + (1 : Int)))) < (144 : Int))) (
                       .ret (0, [.int .i64 (0 : Int)])) (
                       .ite (((lf y11.2 3).toInt) == (244 : Int)) (
                        .ite (decide (IntKind.i64.wrap (byteAt ((lf y11.2 0).toStr) (IntKind.i64.wrap (((lf y11.2 1).toInt) + (1 : Int)))) > (143 : Int))) (
                         .ret (0, [.int .i64 (0 : Int)])) (
                         .ret (0, [lf y11.2 2]))) (
                        .ret (0, [lf y11.2 2])))) (
                      .ite (((lf y11.2 3).toInt) == (244 : Int)) (
                       .ite (decide (IntKind.i64.wrap (byteAt ((lf y11.2 0).toStr) (IntKind.i64.wrap (((lf y11.2 1).toInt) + (1 : Int)))) > (143 : Int))) (
                        .ret (0, [.int .i64 (0 : Int)])) (
                        .ret (0, [lf y11.2 2]))) (
                       .ret (0, [lf y11.2 2]))))) (
                    .ite (((lf y11.2 3).toInt) == (240 : Int)) (
                     .ite (decide (IntKind.i64.wrap (byteAt ((lf y11.2 0).toStr) (IntKind.i64.wrap (((lf y11.2 1).toInt) + (1 : Int)))) < (144 : Int))) (
                      .ret (0, [.int .i64 (0 : Int)])) (
                      .ite (((lf y11.2 3).toInt) == (244 : Int)) (
                       .ite (decide (IntKind.i64.wrap (byteAt ((lf y11.2 0).toStr) (IntKind.i64.wrap (((lf y11.2 1).toInt) + (1 : Int)))) > (143 : Int))) (
                        .ret (0, [.int .i64 (0 : Int)])) (
                        .ret (0, [lf y11.2 2]))) (
                       .ret (0, [lf y11.2 2])))) (
                     .ite (((lf y11.2 3).toInt) == (244 : Int)) (
                      .ite (decide (IntKind.i64.wrap (byteAt ((lf y11.2 0).toStr) (IntKind.i64.wrap (((lf y11.2 1).toInt) + (1 : Int)))) > (143 : Int))) (
                       .ret (0, [.int .i64 (0 : Int)])) (
                       .ret (0, [lf y11.2 2]))) (
                      .ret (0, [lf y11.2 2])))))) (
                  .ite (((lf y11.2 3).toInt) == (237 : Int)) (
                   .ite (decide (IntKind.i64.wrap (byteAt ((lf y11.2 0).toStr) (IntKind.i64.wrap (((lf y11.2 1).toInt) + (1 : Int)))) > (159 : Int))) (
                    .ret (0, [.int .i64 (0 : Int)])) (
                    .ite (((lf y11.2 3).toInt) == (240 : Int)) (
                     .ite (decide (IntKind.i64.wrap (byteAt ((lf y11.2 0).toStr) (IntKind.i64.wrap (((lf y11.2 1).toInt) + (1 : Int)))) < (144 : Int))) (
                      .ret (0, [.int .i64 (0 : Int)])) (
                      .ite (((lf y11.2 3).toInt) == (244 : Int)) (
                       .ite (decide (IntKind.i64.wrap (byteAt ((lf y11.2 0).toStr) (IntKind.i64.wrap (((lf y11.2 1).toInt) + (1 : Int)))) > (143 : Int))) (
                        .ret (0, [.int .i64 (0 : Int)])) (
                        .ret (0, [lf y11.2 2]))) (
                       .ret (0, [lf y11.2 2])))) (
                     .ite (((lf y11.2 3).toInt) == (244 : Int)) (
                      .ite (decide (IntKind.i64.wrap (byteAt ((lf y11.2 0).toStr) (IntKind.i64.wrap (((lf y11.2 1).toInt) + (1 : Int)))) > (143 : Int))) (
                       .ret (0, [.int .i64 (0 : Int)])) (
                       .ret (0, [lf y11.2 2]))) (
                      .ret (0, [lf y11.2 2]))))) (
                   .ite (((lf y11.2 3).toInt) == (240 : Int)) (
                    .ite (decide (IntKind.i64.wrap (byteAt ((lf y11.2 0).toStr) (IntKind.i64.wrap (((lf y11.2 1).toInt) + (1 : Int)))) < (144 : Int))) (
                     .ret (0, [.int .i64 (0 : Int)])) (
                     .ite (((lf y11.2 3).toInt) == (244 : Int)) (
                      .ite (decide (IntKind.i64.wrap (byteAt ((lf y11.2 0).toStr) (IntKind.i64.wrap (((lf y11.2 1).toInt) + (1 : Int)))) > (143 : Int))) (
                       .ret (0, [.int .i64 (0 : Int)])) (
                       .ret (0, [lf y11.2 2]))) (
                      .ret (0, [lf y11.2 2])))) (
                    .ite (((lf y11.2 3).toInt) == (244 : Int)) (
                     .ite (decide (IntKind.i64.wrap (byteAt ((lf y11.2 0).toStr) (IntKind.i64.wrap (((lf y11.2 1).toInt) + (1 : Int)))) > (143 : Int))) (
                      .ret (0, [.int .i64 (0 : Int)])) (
                      .ret (0, [lf y11.2 2]))) (
                     .ret (0, [lf y11.2 2])))))) (
                 .fail)) (
                .fail))))) (
           .fail))) (
        .fail))) (
     .fail)) (
   .loop ((f216_s61 [lf ps 0, lf ps 1, .int .i64 (0 : Int), .int .i64 (IntKind.i64.wrap (byteAt ((lf ps 0).toStr) ((lf ps 1).toInt))), .bool false]).run some) fun y12 =>
    .ite (Nat.beq y12.1 0) (
     .ite (decide ((lf y12.2 3).toInt ≥ (224 : Int))) (
      .loop ((f216_s125 [lf y12.2 0, lf y12.2 1, lf y12.2 2, lf y12.2 3, .bool (decide ((lf y12.2 3).toInt ≤ (239 : Int)))]).run some) fun y13 =>
       .ite (Nat.beq y13.1 0) (
        .ite (decide ((lf y13.2 3).toInt ≥ (240 : Int))) (
         .loop ((f216_s253 [lf y13.2 0, lf y13.2 1, lf y13.2 2, lf y13.2 3, .bool (decide ((lf y13.2 3).toInt ≤ (244 : Int)))]).run some) fun y14 =>
          .ite (Nat.beq y14.1 0) (
           .ite (((lf y14.2 2).toInt) == (0 : Int)) (
            .ret (0, [.int .i64 (0 : Int)])) (
            .ite (decide (IntKind.i64.wrap ((((lf y14.2 0).toStr).size : Int) - ((lf y14.2 1).toInt)) < (lf y14.2 2).toInt)) (
             .ret (0, [.int .i64 (0 : Int)])) (
             .loop (loopT f216_s2042 FUEL [lf y14.2 0, lf y14.2 1, lf y14.2 2, lf y14.2 3, .int .i64 (1 : Int)]) fun y15 =>
              .ite (Nat.beq y15.1 0) (
               .ret (0, [lf y15.2 0])) (
               .ite (Nat.beq y15.1 1) (
                .ite (inb (IntKind.i64.wrap (((lf y15.2 1).toInt) + (1 : Int))) (((lf y15.2 0).toStr).size)) (
                 .ite (((lf y15.2 3).toInt) == (224 : Int)) (
                  .ite (decide (IntKind.i64.wrap (byteAt ((lf y15.2 0).toStr) (IntKind.i64.wrap (((lf y15.2 1).toInt) + (1 : Int)))) < (160 : Int))) (
                   .ret (0, [.int .i64 (0 : Int)])) (
                   .ite (((lf y15.2 3).toInt) == (237 : Int)) (
                    .ite (decide (IntKind.i64.wrap (byteAt ((lf y15.2 0).toStr) (IntKind.i64.wrap (((lf y15.2 1).toInt) + (1 : Int)))) > (159 : Int))) (
                     .ret (0, [.int .i64 (0 : Int)])) (
                     .ite (((lf y15.2 3).toInt) == (240 : Int)) (
                      .ite (decide (IntKind.i64.wrap (byteAt ((lf y15.2 0).toStr) (IntKind.i64.wrap (((lf y15.2 1).toInt) + (1 : Int)))) < (144 : Int))) (
                       .ret (0, [.int .i64 (0 : Int)])) (
                       .ite (((lf y15.2 3).toInt) == (244 : Int)) (
                        .ite (decide (IntKind.i64.wrap (byteAt ((lf y15.2 0).toStr) (IntKind.i64.wrap (((lf y15.2 1).toInt) + (1 : Int)))) > (143 : Int))) (
                         .ret (0, [.int .i64 (0 : Int)])) (
                         .ret (0, [lf y15.2 2]))) (
                        .ret (0, [lf y15.2 2])))) (
                      .ite (((lf y15.2 3).toInt) == (244 : Int)) (
                       .ite (decide (IntKind.i64.wrap (byteAt ((lf y15.2 0).toStr) (IntKind.i64.wrap (((lf y15.2 1).toInt) + (1 : Int)))) > (143 : Int))) (
                        .ret (0, [.int .i64 (0 : Int)])) (
                        .ret (0, [lf y15.2 2]))) (
                       .ret (0, [lf y15.2 2]))))) (
                    .ite (((lf y15.2 3).toInt) == (240 : Int)) (
                     .ite (decide (IntKind.i64.wrap (byteAt ((lf y15.2 0).toStr) (IntKind.i64.wrap (((lf y15.2 1).toInt) + (1 : Int)))) < (144 : Int))) (
                      .ret (0, [.int .i64 (0 : Int)])) (
                      .ite (((lf y15.2 3).toInt) == (244 : Int)) (
                       .ite (decide (IntKind.i64.wrap (byteAt ((lf y15.2 0).toStr) (IntKind.i64.wrap (((lf y15.2 1).toInt) + (1 : Int)))) > (143 : Int))) (
                        .ret (0, [.int .i64 (0 : Int)])) (
                        .ret (0, [lf y15.2 2]))) (
                       .ret (0, [lf y15.2 2])))) (
                     .ite (((lf y15.2 3).toInt) == (244 : Int)) (
                      .ite (decide (IntKind.i64.wrap (byteAt ((lf y15.2 0).toStr) (IntKind.i64.wrap (((lf y15.2 1).toInt) + (1 : Int)))) > (143 : Int))) (
                       .ret (0, [.int .i64 (0 : Int)])) (
                       .ret (0, [lf y15.2 2]))) (
                      .ret (0, [lf y15.2 2])))))) (
                  .ite (((lf y15.2 3).toInt) == (237 : Int)) (
                   .ite (decide (IntKind.i64.wrap (byteAt ((lf y15.2 0).toStr) (IntKind.i64.wrap (((lf y15.2 1).toInt) + (1 : Int)))) > (159 : Int))) (
                    .ret (0, [.int .i64 (0 : Int)])) (
                    .ite (((lf y15.2 3).toInt) == (240 : Int)) (
                     .ite (decide (IntKind.i64.wrap (byteAt ((lf y15.2 0).toStr) (IntKind.i64.wrap (((lf y15.2 1).toInt) + (1 : Int)))) < (144 : Int))) (
                      .ret (0, [.int .i64 (0 : Int)])) (
                      .ite (((lf y15.2 3).toInt) == (244 : Int)) (
                       .ite (decide (IntKind.i64.wrap (byteAt ((lf y15.2 0).toStr) (IntKind.i64.wrap (((lf y15.2 1).toInt) + (1 : Int)))) > (143 : Int))) (
                        .ret (0, [.int .i64 (0 : Int)])) (
                        .ret (0, [lf y15.2 2]))) (
                       .ret (0, [lf y15.2 2])))) (
                     .ite (((lf y15.2 3).toInt) == (244 : Int)) (
                      .ite (decide (IntKind.i64.wrap (byteAt ((lf y15.2 0).toStr) (IntKind.i64.wrap (((lf y15.2 1).toInt) + (1 : Int)))) > (143 : Int))) (
                       .ret (0, [.int .i64 (0 : Int)])) (
                       .ret (0, [lf y15.2 2]))) (
                      .ret (0, [lf y15.2 2]))))) (
                   .ite (((lf y15.2 3).toInt) == (240 : Int)) (
                    .ite (decide (IntKind.i64.wrap (byteAt ((lf y15.2 0).toStr) (IntKind.i64.wrap (((lf y15.2 1).toInt) + (1 : Int)))) < (144 : Int))) (
                     .ret (0, [.int .i64 (0 : Int)])) (
                     .ite (((lf y15.2 3).toInt) == (244 : Int)) (
                      .ite (decide (IntKind.i64.wrap (byteAt ((lf y15.2 0).toStr) (IntKind.i64.wrap (((lf y15.2 1).toInt) + (1 : Int)))) > (143 : Int))) (
                       .ret (0, [.int .i64 (0 : Int)])) (
                       .ret (0, [lf y15.2 2]))) (
                      .ret (0, [lf y15.2 2])))) (
                    .ite (((lf y15.2 3).toInt) == (244 : Int)) (
                     .ite (decide (IntKind.i64.wrap (byteAt ((lf y15.2 0).toStr) (IntKind.i64.wrap (((lf y15.2 1).toInt) + (1 : Int)))) > (143 : Int))) (
                      .ret (0, [.int .i64 (0 : Int)])) (
                      .ret (0, [lf y15.2 2]))) (
                     .ret (0, [lf y15.2 2])))))) (
                 .fail)) (
                .fail))))) (
           .fail)) (
         .loop ((f216_s253 [lf y13.2 0, lf y13.2 1, lf y13.2 2, lf y13.2 3, .bool false]).run some) fun y16 =>
          .ite (Nat.beq y16.1 0) (
           .ite (((lf y16.2 2).toInt) == (0 : Int)) (
            .ret (0, [.int .i64 (0 : Int)])) (
            .ite (decide (IntKind.i64.wrap ((((lf y16.2 0).toStr).size : Int) - ((lf y16.2 1).toInt)) < (lf y16.2 2).toInt)) (
             .ret (0, [.int .i64 (0 : Int)])) (
             .loop (loopT f216_s2042 FUEL [lf y16.2 0, lf y16.2 1, lf y16.2 2, lf y16.2 3, .int .i64 (1 : Int)]) fun y17 =>
              .ite (Nat.beq y17.1 0) (
               .ret (0, [lf y17.2 0])) (
               .ite (Nat.beq y17.1 1) (
                .ite (inb (IntKind.i64.wrap (((lf y17.2 1).toInt) + (1 : Int))) (((lf y17.2 0).toStr).size)) (
                 .ite (((lf y17.2 3).toInt) == (224 : Int)) (
                  .ite (decide (IntKind.i64.wrap (byteAt ((lf y17.2 0).toStr) (IntKind.i64.wrap (((lf y17.2 1).toInt) + (1 : Int)))) < (160 : Int))) (
                   .ret (0, [.int .i64 (0 : Int)])) (
                   .ite (((lf y17.2 3).toInt) == (237 : Int)) (
                    .ite (decide (IntKind.i64.wrap (byteAt ((lf y17.2 0).toStr) (IntKind.i64.wrap (((lf y17.2 1).toInt) + (1 : Int)))) > (159 : Int))) (
                     .ret (0, [.int .i64 (0 : Int)])) (
                     .ite (((lf y17.2 3).toInt) == (240 : Int)) (
                      .ite (decide (IntKind.i64.wrap (byteAt ((lf y17.2 0).toStr) (IntKind.i64.wrap (((lf y17.2 1).toInt) + (1 : Int)))) < (144 : Int))) (
                       .ret (0, [.int .i64 (0 : Int)])) (
                       .ite (((lf y17.2 3).toInt) == (244 : Int)) (
                        .ite (decide (IntKind.i64.wrap (byteAt ((lf y17.2 0).toStr) (IntKind.i64.wrap (((lf y17.2 1).toInt) + (1 : Int)))) > (143 : Int))) (
                         .ret (0, [.int .i64 (0 : Int)])) (
                         .ret (0, [lf y17.2 2]))) (
                        .ret (0, [lf y17.2 2])))) (
                      .ite (((lf y17.2 3).toInt) == (244 : Int)) (
                       .ite (decide (IntKind.i64.wrap (byteAt ((lf y17.2 0).toStr) (IntKind.i64.wrap (((lf y17.2 1).toInt) + (1 : Int)))) > (143 : Int))) (
                        .ret (0, [.int .i64 (0 : Int)])) (
                        .ret (0, [lf y17.2 2]))) (
                       .ret (0, [lf y17.2 2]))))) (
                    .ite (((lf y17.2 3).toInt) == (240 : Int)) (
                     .ite (decide (IntKind.i64.wrap (byteAt ((lf y17.2 0).toStr) (IntKind.i64.wrap (((lf y17.2 1).toInt) + (1 : Int)))) < (144 : Int))) (
                      .ret (0, [.int .i64 (0 : Int)])) (
                      .ite (((lf y17.2 3).toInt) == (244 : Int)) (
                       .ite (decide (IntKind.i64.wrap (byteAt ((lf y17.2 0).toStr) (IntKind.i64.wrap (((lf y17.2 1).toInt) + (1 : Int)))) > (143 : Int))) (
                        .ret (0, [.int .i64 (0 : Int)])) (
                        .ret (0, [lf y17.2 2]))) (
                       .ret (0, [lf y17.2 2])))) (
                     .ite (((lf y17.2 3).toInt) == (244 : Int)) (
                      .ite (decide (IntKind.i64.wrap (byteAt ((lf y17.2 0).toStr) (IntKind.i64.wrap (((lf y17.2 1).toInt) + (1 : Int)))) > (143 : Int))) (
                       .ret (0, [.int .i64 (0 : Int)])) (
                       .ret (0, [lf y17.2 2]))) (
                      .ret (0, [lf y17.2 2])))))) (
                  .ite (((lf y17.2 3).toInt) == (237 : Int)) (
                   .ite (decide (IntKind.i64.wrap (byteAt ((lf y17.2 0).toStr) (IntKind.i64.wrap (((lf y17.2 1).toInt) + (1 : Int)))) > (159 : Int))) (
                    .ret (0, [.int .i64 (0 : Int)])) (
                    .ite (((lf y17.2 3).toInt) == (240 : Int)) (
                     .ite (decide (IntKind.i64.wrap (byteAt ((lf y17.2 0).toStr) (IntKind.i64.wrap (((lf y17.2 1).toInt) + (1 : Int)))) < (144 : Int))) (
                      .ret (0, [.int .i64 (0 : Int)])) (
                      .ite (((lf y17.2 3).toInt) == (244 : Int)) (
                       .ite (decide (IntKind.i64.wrap (byteAt ((lf y17.2 0).toStr) (IntKind.i64.wrap (((lf y17.2 1).toInt) + (1 : Int)))) > (143 : Int))) (
                        .ret (0, [.int .i64 (0 : Int)])) (
                        .ret (0, [lf y17.2 2]))) (
                       .ret (0, [lf y17.2 2])))) (
                     .ite (((lf y17.2 3).toInt) == (244 : Int)) (
                      .ite (decide (IntKind.i64.wrap (byteAt ((lf y17.2 0).toStr) (IntKind.i64.wrap (((lf y17.2 1).toInt) + (1 : Int)))) > (143 : Int))) (
                       .ret (0, [.int .i64 (0 : Int)])) (
                       .ret (0, [lf y17.2 2]))) (
                      .ret (0, [lf y17.2 2]))))) (
                   .ite (((lf y17.2 3).toInt) == (240 : Int)) (
                    .ite (decide (IntKind.i64.wrap (byteAt ((lf y17.2 0).toStr) (IntKind.i64.wrap (((lf y17.2 1).toInt) + (1 : Int)))) < (144 : Int))) (
                     .ret (0, [.int .i64 (0 : Int)])) (
                     .ite (((lf y17.2 3).toInt) == (244 : Int)) (
                      .ite (decide (IntKind.i64.wrap (byteAt ((lf y17.2 0).toStr) (IntKind.i64.wrap (((lf y17.2 1).toInt) + (1 : Int)))) > (143 : Int))) (
                       .ret (0, [.int .i64 (0 : Int)])) (
                       .ret (0, [lf y17.2 2]))) (
                      .ret (0, [lf y17.2 2])))) (
                    .ite (((lf y17.2 3).toInt) == (244 : Int)) (
                     .ite (decide (IntKind.i64.wrap (byteAt ((lf y17.2 0).toStr) (IntKind.i64.wrap (((lf y17.2 1).toInt) + (1 : Int)))) > (143 : Int))) (
                      .ret (0, [.int .i64 (0 : Int)])) (
                      .ret (0, [lf y17.2 2]))) (
                     .ret (0, [lf y17.2 2])))))) (
                 .fail)) (
                .fail))))) (
           .fail))) (
        .fail)) (
      .loop ((f216_s125 [lf y12.2 0, lf y12.2 1, lf y12.2 2, lf y12.2 3, .bool false]).run some) fun y18 =>
       .ite (Nat.beq y18.1 0) (
        .ite (decide ((lf y18.2 3).toInt ≥ (240 : Int))) (
         .loop ((f216_s253 [lf y18.2 0, lf y18.2 1, lf y18.2 2, lf y18.2 3, .bool (decide ((lf y18.2 3).toInt ≤ (244 : Int)))]).run some) fun y19 =>
          .ite (Nat.beq y19.1 0) (
           .ite (((lf y19.2 2).toInt) == (0 : Int)) (
            .ret (0, [.int .i64 (0 : Int)])) (
            .ite (decide (IntKind.i64.wrap ((((lf y19.2 0).toStr).size : Int) - ((lf y19.2 1).toInt)) < (lf y19.2 2).toInt)) (
             .ret (0, [.int .i64 (0 : Int)])) (
             .loop (loopT f216_s2042 FUEL [lf y19.2 0, lf y19.2 1, lf y19.2 2, lf y19.2 3, .int .i64 (1 : Int)]) fun y20 =>
              .ite (Nat.beq y20.1 0) (
               .ret (0, [lf y20.2 0])) (
               .ite (Nat.beq y20.1 1) (
                .ite (inb (IntKind.i64.wrap (((lf y20.2 1).toInt) + (1 : Int))) (((lf y20.2 0).toStr).size)) (
                 .ite (((lf y20.2 3).toInt) == (224 : Int)) (
                  .ite (decide (IntKind.i64.wrap (byteAt ((lf y20.2 0).toStr) (IntKind.i64.wrap (((lf y20.2 1).toInt) + (1 : Int)))) < (160 : Int))) (
                   .ret (0, [.int .i64 (0 : Int)])) (
                   .ite (((lf y20.2 3).toInt) == (237 : Int)) (
                    .ite (decide (IntKind.i64.wrap (byteAt ((lf y20.2 0).toStr) (IntKind.i64.wrap (((lf y20.2 1).toInt) + (1 : Int)))) > (159 : Int))) (
                     .ret (0, [.int .i64 (0 : Int)])) (
                     .ite (((lf y20.2 3).toInt) == (240 : Int)) (
                      .ite (decide (IntKind.i64.wrap (byteAt ((lf y20.2 0).toStr) (IntKind.i64.wrap (((lf y20.2 1).toInt) + (1 : Int)))) < (144 : Int))) (
                       .ret (0, [.int .i64 (0 : Int)])) (
                       .ite (((lf y20.2 3).toInt) == (244 : Int)) (
                        .ite (decide (IntKind.i64.wrap (byteAt ((lf y20.2 0).toStr) (IntKind.i64.wrap (((lf y20.2 1).toInt) + (1 : Int)))) > (143 : Int))) (
                         .ret (0, [.int .i64 (0 : Int)])) (
                         .ret (0, [lf y20.2 2]))) (
                        .ret (0, [lf y20.2 2])))) (
                      .ite (((lf y20.2 3).toInt) == (244 : Int)) (
                       .ite (decide (IntKind.i64.wrap (byteAt ((lf y20.2 0).toStr) (IntKind.i64.wrap (((lf y20.2 1).toInt) + (1 : Int)))) > (143 : Int))) (
                        .ret (0, [.int .i64 (0 : Int)])) (
                        .ret (0, [lf y20.2 2]))) (
                       .ret (0, [lf y20.2 2]))))) (
                    .ite (((lf y20.2 3).toInt) == (240 : Int)) (
                     .ite (decide (IntKind.i64.wrap (byteAt ((lf y20.2 0).toStr) (IntKind.i64.wrap (((lf y20.2 1).toInt) + (1 : Int)))) < (144 : Int))) (
                      .ret (0, [.int .i64 (0 : Int)])) (
                      .ite (((lf y20.2 3).toInt) == (244 : Int)) (
                       .ite (decide (IntKind.i64.wrap (byteAt ((lf y20.2 0).toStr) (IntKind.i64.wrap (((lf y20.2 1).toInt) + (1 : Int)))) > (143 : Int))) (
                        .ret (0, [.int .i64 (0 : Int)])) (
                        .ret (0, [lf y20.2 2]))) (
                       .ret (0, [lf y20.2 2])))) (
                     .ite (((lf y20.2 3).toInt) == (244 : Int)) (
                      .ite (decide (IntKind.i64.wrap (byteAt ((lf y20.2 0).toStr) (IntKind.i64.wrap (((lf y20.2 1).toInt) + (1 : Int)))) > (143 : Int))) (
                       .ret (0, [.int .i64 (0 : Int)])) (
                       .ret (0, [lf y20.2 2]))) (
                      .ret (0, [lf y20.2 2])))))) (
                  .ite (((lf y20.2 3).toInt) == (237 : Int)) (
                   .ite (decide (IntKind.i64.wrap (byteAt ((lf y20.2 0).toStr) (IntKind.i64.wrap (((lf y20.2 1).toInt) + (1 : Int)))) > (159 : Int))) (
                    .ret (0, [.int .i64 (0 : Int)])) (
                    .ite (((lf y20.2 3).toInt) == (240 : Int)) (
                     .ite (decide (IntKind.i64.wrap (byteAt ((lf y20.2 0).toStr) (IntKind.i64.wrap (((lf y20.2 1).toInt) + (1 : Int)))) < (144 : Int))) (
                      .ret (0, [.int .i64 (0 : Int)])) (
                      .ite (((lf y20.2 3).toInt) == (244 : Int)) (
                       .ite (decide (IntKind.i64.wrap (byteAt ((lf y20.2 0).toStr) (IntKind.i64.wrap (((lf y20.2 1).toInt) + (1 : Int)))) > (143 : Int))) (
                        .ret (0, [.int .i64 (0 : Int)])) (
                        .ret (0, [lf y20.2 2]))) (
                       .ret (0, [lf y20.2 2])))) (
                     .ite (((lf y20.2 3).toInt) == (244 : Int)) (
                      .ite (decide (IntKind.i64.wrap (byteAt ((lf y20.2 0).toStr) (IntKind.i64.wrap (((lf y20.2 1).toInt) + (1 : Int)))) > (143 : Int))) (
                       .ret (0, [.int .i64 (0 : Int)])) (
                       .ret (0, [lf y20.2 2]))) (
                      .ret (0, [lf y20.2 2]))))) (
                   .ite (((lf y20.2 3).toInt) == (240 : Int)) (
                    .ite (decide (IntKind.i64.wrap (byteAt ((lf y20.2 0).toStr) (IntKind.i64.wrap (((lf y20.2 1).toInt) + (1 : Int)))) < (144 : Int))) (
                     .ret (0, [.int .i64 (0 : Int)])) (
                     .ite (((lf y20.2 3).toInt) == (244 : Int)) (
                      .ite (decide (IntKind.i64.wrap (byteAt ((lf y20.2 0).toStr) (IntKind.i64.wrap (((lf y20.2 1).toInt) + (1 : Int)))) > (143 : Int))) (
                       .ret (0, [.int .i64 (0 : Int)])) (
                       .ret (0, [lf y20.2 2]))) (
                      .ret (0, [lf y20.2 2])))) (
                    .ite (((lf y20.2 3).toInt) == (244 : Int)) (
                     .ite (decide (IntKind.i64.wrap (byteAt ((lf y20.2 0).toStr) (IntKind.i64.wrap (((lf y20.2 1).toInt) + (1 : Int)))) > (143 : Int))) (
                      .ret (0, [.int .i64 (0 : Int)])) (
                      .ret (0, [lf y20.2 2]))) (
                     .ret (0, [lf y20.2 2])))))) (
                 .fail)) (
                .fail))))) (
           .fail)) (
         .loop ((f216_s253 [lf y18.2 0, lf y18.2 1, lf y18.2 2, lf y18.2 3, .bool false]).run some) fun y21 =>
          .ite (Nat.beq y21.1 0) (
           .ite (((lf y21.2 2).toInt) == (0 : Int)) (
            .ret (0, [.int .i64 (0 : Int)])) (
            .ite (decide (IntKind.i64.wrap ((((lf y21.2 0).toStr).size : Int) - ((lf y21.2 1).toInt)) < (lf y21.2 2).toInt)) (
             .ret (0, [.int .i64 (0 : Int)])) (
             .loop (loopT f216_s2042 FUEL [lf y21.2 0, lf y21.2 1, lf y21.2 2, lf y21.2 3, .int .i64 (1 : Int)]) fun y22 =>
              .ite (Nat.beq y22.1 0) (
               .ret (0, [lf y22.2 0])) (
               .ite (Nat.beq y22.1 1) (
                .ite (inb (IntKind.i64.wrap (((lf y22.2 1).toInt) + (1 : Int))) (((lf y22.2 0).toStr).size)) (
                 .ite (((lf y22.2 3).toInt) == (224 : Int)) (
                  .ite (decide (IntKind.i64.wrap (byteAt ((lf y22.2 0).toStr) (IntKind.i64.wrap (((lf y22.2 1).toInt) + (1 : Int)))) < (160 : Int))) (
                   .ret (0, [.int .i64 (0 : Int)])) (
                   .ite (((lf y22.2 3).toInt) == (237 : Int)) (
                    .ite (decide (IntKind.i64.wrap (byteAt ((lf y22.2 0).toStr) (IntKind.i64.wrap (((lf y22.2 1).toInt) + (1 : Int)))) > (159 : Int))) (
                     .ret (0, [.int .i64 (0 : Int)])) (
                     .ite (((lf y22.2 3).toInt) == (240 : Int)) (
                      .ite (decide (IntKind.i64.wrap (byteAt ((lf y22.2 0).toStr) (IntKind.i64.wrap (((lf y22.2 1).toInt) + (1 : Int)))) < (144 : Int))) (
                       .ret (0, [.int .i64 (0 : Int)])) (
                       .ite (((lf y22.2 3).toInt) == (244 : Int)) (
                        .ite (decide (IntKind.i64.wrap (byteAt ((lf y22.2 0).toStr) (IntKind.i64.wrap (((lf y22.2 1).toInt) + (1 : Int)))) > (143 : Int))) (
                         .ret (0, [.int .i64 (0 : Int)])) (
                         .ret (0, [lf y22.2 2]))) (
                        .ret (0, [lf y22.2 2])))) (
                      .ite (((lf y22.2 3).toInt) == (244 : Int)) (
                       .ite (decide (IntKind.i64.wrap (byteAt ((lf y22.2 0).toStr) (IntKind.i64.wrap (((lf y22.2 1).toInt) + (1 : Int)))) > (143 : Int))) (
                        .ret (0, [.int .i64 (0 : Int)])) (
                        .ret (0, [lf y22.2 2]))) (
                       .ret (0, [lf y22.2 2]))))) (
                    .ite (((lf y22.2 3).toInt) == (240 : Int)) (
                     .ite (decide (IntKind.i64.wrap (byteAt ((lf y22.2 0).toStr) (IntKind.i64.wrap (((lf y22.2 1).toInt) + (1 : Int)))) < (144 : Int))) (
                      .ret (0, [.int .i64 (0 : Int)])) (
                      .ite (((lf y22.2 3).toInt) == (244 : Int)) (
                       .ite (decide (IntKind.i64.wrap (byteAt ((lf y22.2 0).toStr) (IntKind.i64.wrap (((lf y22.2 1).toInt) + (1 : Int)))) > (143 : Int))) (
                        .ret (0, [.int .i64 (0 : Int)])) (
                        .ret (0, [lf y22.2 2]))) (
                       .ret (0, [lf y22.2 2])))) (
                     .ite (((lf y22.2 3).toInt) == (244 : Int)) (
                      .ite (decide (IntKind.i64.wrap (byteAt ((lf y22.2 0).toStr) (IntKind.i64.wrap (((lf y22.2 1).toInt) + (1 : Int)))) > (143 : Int))) (
                       .ret (0, [.int .i64 (0 : Int)])) (
                       .ret (0, [lf y22.2 2]))) (
                      .ret (0, [lf y22.2 2])))))) (
                  .ite (((lf y22.2 3).toInt) == (237 : Int)) (
                   .ite (decide (IntKind.i64.wrap (byteAt ((lf y22.2 0).toStr) (IntKind.i64.wrap (((lf y22.2 1).toInt) + (1 : Int)))) > (159 : Int))) (
                    .ret (0, [.int .i64 (0 : Int)])) (
                    .ite (((lf y22.2 3).toInt) == (240 : Int)) (
                     .ite (decide (IntKind.i64.wrap (byteAt ((lf y22.2 0).toStr) (IntKind.i64.wrap (((lf y22.2 1).toInt) + (1 : Int)))) < (144 : Int))) (
                      .ret (0, [.int .i64 (0 : Int)])) (
                      .ite (((lf y22.2 3).toInt) == (244 : Int)) (
                       .ite (decide (IntKind.i64.wrap (byteAt ((lf y22.2 0).toStr) (IntKind.i64.wrap (((lf y22.2 1).toInt) + (1 : Int)))) > (143 : Int))) (
                        .ret (0, [.int .i64 (0 : Int)])) (
                        .ret (0, [lf y22.2 2]))) (
                       .ret (0, [lf y22.2 2])))) (
                     .ite (((lf y22.2 3).toInt) == (244 : Int)) (
                      .ite (decide (IntKind.i64.wrap (byteAt ((lf y22.2 0).toStr) (IntKind.i64.wrap (((lf y22.2 1).toInt) + (1 : Int)))) > (143 : Int))) (
                       .ret (0, [.int .i64 (0 : Int)])) (
                       .ret (0, [lf y22.2 2]))) (
                      .ret (0, [lf y22.2 2]))))) (
                   .ite (((lf y22.2 3).toInt) == (240 : Int)) (
                    .ite (decide (IntKind.i64.wrap (byteAt ((lf y22.2 0).toStr) (IntKind.i64.wrap (((lf y22.2 1).toInt) + (1 : Int)))) < (144 : Int))) (
                     .ret (0, [.int .i64 (0 : Int)])) (
                     .ite (((lf y22.2 3).toInt) == (244 : Int)) (
                      .ite (decide (IntKind.i64.wrap (byteAt ((lf y22.2 0).toStr) (IntKind.i64.wrap (((lf y22.2 1).toInt) + (1 : Int)))) > (143 : Int))) (
                       .ret (0, [.int .i64 (0 : Int)])) (
                       .ret (0, [lf y22.2 2]))) (
                      .ret (0, [lf y22.2 2])))) (
                    .ite (((lf y22.2 3).toInt) == (244 : Int)) (
                     .ite (decide (IntKind.i64.wrap (byteAt ((lf y22.2 0).toStr) (IntKind.i64.wrap (((lf y22.2 1).toInt) + (1 : Int)))) > (143 : Int))) (
                      .ret (0, [.int .i64 (0 : Int)])) (
                      .ret (0, [lf y22.2 2]))) (
                     .ret (0, [lf y22.2 2])))))) (
                 .fail)) (
                .fail))))) (
           .fail))) (
        .fail))) (
     .fail))) (
  .fail)
noncomputable def f216_v (ps : List P) : Option (Nat × List P) := (f216_t ps).run some
noncomputable def f216_e : EntD := ⟨216, [.imm .str, .imm (.int .i64)], f216_v, [fun ps ls qs => ⟨[.imm (.int .i64) (lf qs 0)], [.imm .str (lf ps 0), .imm (.int .i64) (lf ps 1)]⟩]⟩
noncomputable def f216_u : List Cu := [.loop 2042 f216_k2042 f216_o2042 f216_s2042, .cut 253 f216_k253 f216_o253 f216_s253, .cut 125 f216_k125 f216_o125 f216_s125, .cut 61 f216_k61 f216_o61 f216_s61]
noncomputable def f216_c : Cx := ⟨Try.prog, envOf [], 96, lOf f216_u, fun _ => false⟩
noncomputable def f216_b : Code := match Try.f216.body with | some b => b | none => .skip
theorem f216_q2042 : (Cu.loop 2042 f216_k2042 f216_o2042 f216_s2042).Ok f216_c f216_b := ⟨by kernel_rfl, fun ls Kr Kx => by kernel_rfl⟩
theorem f216_q253 : (Cu.cut 253 f216_k253 f216_o253 f216_s253).Ok f216_c f216_b := ⟨by kernel_rfl, fun ls Kx => by kernel_rfl⟩
theorem f216_q125 : (Cu.cut 125 f216_k125 f216_o125 f216_s125).Ok f216_c f216_b := ⟨by kernel_rfl, fun ls Kx => by kernel_rfl⟩
theorem f216_q61 : (Cu.cut 61 f216_k61 f216_o61 f216_s61).Ok f216_c f216_b := ⟨by kernel_rfl, fun ls Kx => by kernel_rfl⟩
theorem f216_x (ps : List P) (ls : List Nat) : execFn f216_c 216 f216_e.tm (explF ps 2 0) ls = (f216_t ps).run fun q => altR (f216_e.res.map fun f => f ps ls) 0 q some := by kernel_rfl
theorem f216_ok : OkEnt Try.prog f216_e := ent_ok (c := f216_c) (g := 216) (body := f216_b) (us := f216_u) (n := 2) (t := f216_t) (good_envOf _ trivial) Try.func216 rfl Try.call216 rfl ⟨f216_q2042, f216_q253, f216_q125, f216_q61, trivial⟩ (by kernel_rfl) f216_x (fun _ => rfl)
/-! ### comprador/compradorref03.Rune -/
noncomputable def f194_k2042 : Sk := { t := [(0, .imm .str .unit), (1, .imm (.int .i64) .unit), (6, .imm (.int .i64) .unit), (7, .imm (.int .i64) .unit), (8, .imm (.int .i64) .unit)], h := [] }
noncomputable def f194_o2042 : List (Out × Sk) := [((.exit 0), { t := [(6, .imm (.int .i64) .unit), (7, .imm (.int .i64) .unit)], h := [] })]
noncomputable def f194_s2042 (ls : List P) : Tree Step :=
 .ite (decide ((lf ls 4).toInt < (lf ls 2).toInt)) (
  .ite (inb (IntKind.i64.wrap (((lf ls 1).toInt) + ((lf ls 4).toInt))) (((lf ls 0).toStr).size)) (
   .ret (.inl [lf ls 0, lf ls 1, lf ls 2, .int .i64 (IntKind.i64.wrap ((IntKind.i64.wrap (((lf ls 3).toInt) * (64 : Int))) + ((IntKind.i64.wrap (byteAt ((lf ls 0).toStr) (IntKind.i64.wrap (((lf ls 1).toInt) + ((lf ls 4).toInt))))).tmod (64 : Int)))), .int .i64 (IntKind.i64.wrap (((lf ls 4).toInt) + (1 : Int)))])) (
   .fail)) (
  .ret (.inr (0, [lf ls 2, lf ls 3])))
noncomputable def f194_k509 : Sk := { t := [(0, .imm .str .unit), (1, .imm (.int .i64) .unit), (6, .imm (.int .i64) .unit), (7, .imm (.int .i64) .unit), (35, .imm .bool .unit)], h := [] }
noncomputable def f194_o509 : List (Out × Sk) := [(.norm, { t := [(0, .imm .str .unit), (1, .imm (.int .i64) .unit), (6, .imm (.int .i64) .unit), (7, .imm (.int .i64) .unit)], h := [] })]
noncomputable def f194_s509 (ls : List P) : Tree (Nat × List P) :=
 .ite ((lf ls 4).toBool) (
  .ite (inb ((lf ls 1).toInt) (((lf ls 0).toStr).size)) (
   .ret (0, [lf ls 0, lf ls 1, lf ls 2, .int .i64 ((IntKind.i64.wrap (byteAt ((lf ls 0).toStr) ((lf ls 1).toInt))).tmod (8 : Int))])) (
   .fail)) (
  .ret (0, [lf ls 0, lf ls 1, lf ls 2, lf ls 3]))
noncomputable def f194_k253 : Sk := { t := [(0, .imm .str .unit), (1, .imm (.int .i64) .unit), (6, .imm (.int .i64) .unit), (7, .imm (.int .i64) .unit), (28, .imm .bool .unit)], h := [] }
noncomputable def f194_o253 : List (Out × Sk) := [(.norm, { t := [(0, .imm .str .unit), (1, .imm (.int .i64) .unit), (6, .imm (.int .i64) .unit), (7, .imm (.int .i64) .unit)], h := [] })]
noncomputable def f194_s253 (ls : List P) : Tree (Nat × List P) :=
 .ite ((lf ls 4).toBool) (
  .ite (inb ((lf ls 1).toInt) (((lf ls 0).toStr).size)) (
   .ret (0, [lf ls 0, lf ls 1, lf ls 2, .int .i64 ((IntKind.i64.wrap (byteAt ((lf ls 0).toStr) ((lf ls 1).toInt))).tmod (16 : Int))])) (
   .fail)) (
  .ret (0, [lf ls 0, lf ls 1, lf ls 2, lf ls 3]))
noncomputable def f194_t (ps : List P) : Tree (Nat × List P) :=
 .ite (inb ((lf ps 1).toInt) (((lf ps 0).toStr).size)) (
  .ite (decide (byteAt ((lf ps 0).toStr) ((lf ps 1).toInt) < (128 : Int))) (
   .ite (inb ((lf ps 1).toInt) (((lf ps 0).toStr).size)) (
    .ret (0, [.int .i64 (IntKind.i64.wrap (byteAt ((lf ps 0).toStr) ((lf ps 1).toInt))), .int .i64 (1 : Int)])) (
    .fail)) (
   .loop (f216_v [lf ps 0, lf ps 1]) fun x1 =>
    .ite (Nat.beq x1.1 0) (
     .ite (((lf x1.2 0).toInt) == (0 : Int)) (
      .ret (0, [.int .i64 (65533 : Int), .int .i64 (1 : Int)])) (
      .ite (inb ((lf ps 1).toInt) (((lf ps 0).toStr).size)) (
       .loop ((f194_s253 [lf ps 0, lf ps 1, lf x1.2 0, .int .i64 ((IntKind.i64.wrap (byteAt ((lf ps 0).toStr) ((lf ps 1).toInt))).tmod (32 : Int)), .bool (((lf x1.2 0).toInt) == (3 : Int))]).run some) fun y2 =>
        .ite (Nat.beq y2.1 0) (
         .loop ((f194_s509 [lf y2.2 0, lf y2.2 1, lf y2.2 2, lf y2.2 3, .bool (((lf y2.2 2).toInt) == (4 : Int))]).run some) fun y3 =>
          .ite (Nat.beq y3.1 0) (
           .loop (loopT f194_s2042 FUEL [lf y3.2 0, lf y3.2 1, lf y3.2 2, lf y3.2 3, .int .i64 (1 : Int)]) fun y4 =>
            .ite (Nat.beq y4.1 0) (
             .ret (0, [lf y4.2 1, lf y4.2 0])) (
             .fail)) (
           .fail)) (
         .fail)) (
       .fail))) (
     .fail))) (
  .fail)
noncomputable def f194_v (ps : List P) : Option (Nat × List P) := (f194_t ps).run some
noncomputable def f194_e : EntD := ⟨194, [.imm .str, .imm (.int .i64)], f194_v, [fun ps ls qs => ⟨[.imm (.int .i64) (lf qs 0), .imm (.int .i64) (lf qs 1)], [.imm .str (lf ps 0), .imm (.int .i64) (lf ps 1)]⟩]⟩
noncomputable def f194_u : List Cu := [.loop 2042 f194_k2042 f194_o2042 f194_s2042, .cut 509 f194_k509 f194_o509 f194_s509, .cut 253 f194_k253 f194_o253 f194_s253]
noncomputable def f194_c : Cx := ⟨Try.prog, envOf [f216_e], 58, lOf f194_u, fun _ => false⟩
noncomputable def f194_b : Code := match Try.f194.body with | some b => b | none => .skip
theorem f194_q2042 : (Cu.loop 2042 f194_k2042 f194_o2042 f194_s2042).Ok f194_c f194_b := ⟨by kernel_rfl, fun ls Kr Kx => by kernel_rfl⟩
theorem f194_q509 : (Cu.cut 509 f194_k509 f194_o509 f194_s509).Ok f194_c f194_b := ⟨by kernel_rfl, fun ls Kx => by kernel_rfl⟩
theorem f194_q253 : (Cu.cut 253 f194_k253 f194_o253 f194_s253).Ok f194_c f194_b := ⟨by kernel_rfl, fun ls Kx => by kernel_rfl⟩
theorem f194_x (ps : List P) (ls : List Nat) : execFn f194_c 194 f194_e.tm (explF ps 2 0) ls = (f194_t ps).run fun q => altR (f194_e.res.map fun f => f ps ls) 0 q some := by kernel_rfl
theorem f194_ok : OkEnt Try.prog f194_e := ent_ok (c := f194_c) (g := 194) (body := f194_b) (us := f194_u) (n := 2) (t := f194_t) (good_envOf _ ⟨f216_ok, trivial⟩) Try.func194 rfl Try.call194 rfl ⟨f194_q2042, f194_q509, f194_q253, trivial⟩ (by kernel_rfl) f194_x (fun _ => rfl)
end Go.Proofs.Ytjemihhhkhdbeaa
