/- Functions: what each tells. Conditions: none. -/
import Derived.Test.YtjemihhhkhdbeaaFTp1
open Go Go.Eng Go.Proofs
set_option pp.deepTerms true
set_option linter.unusedVariables false
namespace Go.Proofs.Ytjemihhhkhdbeaa
/-! ### comprador/compradorlaw35.TurnPlays -/
noncomputable def f6_k33367423 : Sk := { t := [(0, .imm (.int .i64) .unit), (1, .imm (.slice (.pair (.int .i64) (.pair (.int .i64) (.pair .str .unit)))) .unit), (5, .ref 15100 [] (.pair (.slice (.pair (.slice .str) .unit)) (.pair (.int .i64) .unit))), (6, .ref 15101 [] (.pair (.slice (.slice .str)) (.pair (.int .i64) .unit))), (11, .imm (.int .i64) .unit), (12, .ref 15102 [] (.pair (.int .i64) (.pair (.int .i64) (.pair .str .unit)))), (131, .imm .bool .unit)], h := [(15100, .obj (.pair (.slice (.pair (.slice .str) .unit)) (.pair (.int .i64) .unit)) (.pair (.blk 15103 (.at (.pair (.slice .str) .unit))) (.imm (.pair (.int .i64) .unit) .unit))), (15101, .obj (.pair (.slice (.slice .str)) (.pair (.int .i64) .unit)) (.imm (.pair (.slice (.slice .str)) (.pair (.int .i64) .unit)) .unit)), (15102, .obj (.pair (.int .i64) (.pair (.int .i64) (.pair .str .unit))) (.imm (.pair (.int .i64) (.pair (.int .i64) (.pair .str .unit))) .unit)), (15103, .blk (.at (.pair (.slice .str) .unit)) .unit)], z := [6] }
noncomputable def f6_o33367423 : List (Out × Sk) := [(.ret, { t := [(4, .imm .bool .unit)], h := [] }), (.norm, { t := [(0, .imm (.int .i64) .unit), (1, .imm (.slice (.pair (.int .i64) (.pair (.int .i64) (.pair .str .unit)))) .unit), (5, .ref 15130 [] (.pair (.slice (.pair (.slice .str) .unit)) (.pair (.int .i64) .unit))), (6, .ref 15131 [] (.pair (.slice (.slice .str)) (.pair (.int .i64) .unit))), (11, .imm (.int .i64) .unit), (12, .ref 15132 [] (.pair (.int .i64) (.pair (.int .i64) (.pair .str .unit))))], h := [(15130, .obj (.pair (.slice (.pair (.slice .str) .unit)) (.pair (.int .i64) .unit)) (.pair (.blk 15133 (.at (.pair (.slice .str) .unit))) (.imm (.pair (.int .i64) .unit) .unit))), (15131, .obj (.pair (.slice (.slice .str)) (.pair (.int .i64) .unit)) (.imm (.pair (.slice (.slice .str)) (.pair (.int .i64) .unit)) .unit)), (15132, .obj (.pair (.int .i64) (.pair (.int .i64) (.pair .str .unit))) (.imm (.pair (.int .i64) (.pair (.int .i64) (.pair .str .unit))) .unit)), (15133, .blk (.at (.pair (.slice .str) .unit)) .unit)] })]
noncomputable def f6_s33367423 (ls : List P) : Tree (Nat × List P) :=
 .ite ((lf ls 3).toBool) (
  .loop (f43_v [lf ls 7, lf ls 4, (((lf ls 6).snd).snd).fst]) fun x12 =>
   .ite (Nat.beq x12.1 0) (
    .loop (f47_1_v [lf ls 5, (((lf ls 6).snd).snd).fst]) fun x13 =>
     .ite (Nat.beq x13.1 0) (
      .ite (((lf x12.2 0).toInt) != ((lf x13.2 0).toInt)) (
       .ret (0, [.bool false])) (
       .ret (1, [lf ls 0, lf ls 1, lf ls 2, lf x12.2 2, lf x13.2 1, lf ls 6, lf x12.2 1]))) (
      .fail)) (
    .fail)) (
  .ret (1, [lf ls 0, lf ls 1, lf ls 2, lf ls 4, lf ls 5, lf ls 6, lf ls 7]))
noncomputable def f6_k8341855 : Sk := { t := [(0, .imm (.int .i64) .unit), (1, .imm (.slice (.pair (.int .i64) (.pair (.int .i64) (.pair .str .unit)))) .unit), (5, .ref 14100 [] (.pair (.slice (.pair (.slice .str) .unit)) (.pair (.int .i64) .unit))), (6, .ref 14101 [] (.pair (.slice (.slice .str)) (.pair (.int .i64) .unit))), (11, .imm (.int .i64) .unit), (12, .ref 14102 [] (.pair (.int .i64) (.pair (.int .i64) (.pair .str .unit)))), (80, .imm (.int .i64) .unit), (121, .imm .bool .unit)], h := [(14100, .obj (.pair (.slice (.pair (.slice .str) .unit)) (.pair (.int .i64) .unit)) (.pair (.blk 14103 (.at (.pair (.slice .str) .unit))) (.imm (.pair (.int .i64) .unit) .unit))), (14101, .obj (.pair (.slice (.slice .str)) (.pair (.int .i64) .unit)) (.imm (.pair (.slice (.slice .str)) (.pair (.int .i64) .unit)) .unit)), (14102, .obj (.pair (.int .i64) (.pair (.int .i64) (.pair .str .unit))) (.imm (.pair (.int .i64) (.pair (.int .i64) (.pair .str .unit))) .unit)), (14103, .blk (.at (.pair (.slice .str) .unit)) .unit)], z := [6] }
noncomputable def f6_o8341855 : List (Out × Sk) := [(.ret, { t := [(4, .imm .bool .unit)], h := [] }), (.norm, { t := [(0, .imm (.int .i64) .unit), (1, .imm (.slice (.pair (.int .i64) (.pair (.int .i64) (.pair .str .unit)))) .unit), (5, .ref 14130 [] (.pair (.slice (.pair (.slice .str) .unit)) (.pair (.int .i64) .unit))), (6, .ref 14131 [] (.pair (.slice (.slice .str)) (.pair (.int .i64) .unit))), (11, .imm (.int .i64) .unit), (12, .ref 14132 [] (.pair (.int .i64) (.pair (.int .i64) (.pair .str .unit))))], h := [(14130, .obj (.pair (.slice (.pair (.slice .str) .unit)) (.pair (.int .i64) .unit)) (.pair (.blk 14133 (.at (.pair (.slice .str) .unit))) (.imm (.pair (.int .i64) .unit) .unit))), (14131, .obj (.pair (.slice (.slice .str)) (.pair (.int .i64) .unit)) (.imm (.pair (.slice (.slice .str)) (.pair (.int .i64) .unit)) .unit)), (14132, .obj (.pair (.int .i64) (.pair (.int .i64) (.pair .str .unit))) (.imm (.pair (.int .i64) (.pair (.int .i64) (.pair .str .unit))) .unit)), (14133, .blk (.at (.pair (.slice .str) .unit)) .unit)], z := [6] })]
noncomputable def f6_s8341855 (ls : List P) : Tree (Nat × List P) :=
 .ite ((lf ls 4).toBool) (
  .loop (f42_v [lf ls 8, lf ls 5, ((lf ls 7).snd).fst]) fun x10 =>
   .ite (Nat.beq x10.1 0) (
    .loop (f46_1_v [lf ls 6, ((lf ls 7).snd).fst]) fun x11 =>
     .ite (Nat.beq x11.1 0) (
      .ite (((lf x10.2 0).toInt) != ((lf x11.2 0).toInt)) (
       .ret (0, [.bool false])) (
       .ret (1, [lf ls 0, lf ls 1, lf ls 2, lf ls 5, lf x11.2 1, lf ls 7, lf x10.2 1]))) (
      .fail)) (
    .fail)) (
  .loop ((f6_s33367423 [lf ls 0, lf ls 1, lf ls 2, .bool (((lf ls 3).toInt) == (3 : Int)), lf ls 5, lf ls 6, lf ls 7, lf ls 8]).run some) fun y14 =>
   .ite (Nat.beq y14.1 0) (
    .ret (0, [lf y14.2 0])) (
    .ite (Nat.beq y14.1 1) (
     .ret (1, [lf y14.2 0, lf y14.2 1, lf y14.2 2, lf y14.2 3, lf y14.2 4, lf y14.2 5, lf y14.2 6])) (
     .fail)))
noncomputable def f6_k2085463 : Sk := { t := [(0, .imm (.int .i64) .unit), (1, .imm (.slice (.pair (.int .i64) (.pair (.int .i64) (.pair .str .unit)))) .unit), (5, .ref 13100 [] (.pair (.slice (.pair (.slice .str) .unit)) (.pair (.int .i64) .unit))), (6, .ref 13101 [] (.pair (.slice (.slice .str)) (.pair (.int .i64) .unit))), (11, .imm (.int .i64) .unit), (12, .ref 13102 [] (.pair (.int .i64) (.pair (.int .i64) (.pair .str .unit)))), (80, .imm (.int .i64) .unit), (95, .imm .bool .unit)], h := [(13100, .obj (.pair (.slice (.pair (.slice .str) .unit)) (.pair (.int .i64) .unit)) (.pair (.blk 13103 (.at (.pair (.slice .str) .unit))) (.imm (.pair (.int .i64) .unit) .unit))), (13101, .obj (.pair (.slice (.slice .str)) (.pair (.int .i64) .unit)) (.imm (.pair (.slice (.slice .str)) (.pair (.int .i64) .unit)) .unit)), (13102, .obj (.pair (.int .i64) (.pair (.int .i64) (.pair .str .unit))) (.imm (.pair (.int .i64) (.pair (.int .i64) (.pair .str .unit))) .unit)), (13103, .blk (.at (.pair (.slice .str) .unit)) .unit)], z := [6] }
noncomputable def f6_o2085463 : List (Out × Sk) := [(.ret, { t := [(4, .imm .bool .unit)], h := [] }), (.norm, { t := [(0, .imm (.int .i64) .unit), (1, .imm (.slice (.pair (.int .i64) (.pair (.int .i64) (.pair .str .unit)))) .unit), (5, .ref 13130 [] (.pair (.slice (.pair (.slice .str) .unit)) (.pair (.int .i64) .unit))), (6, .ref 13131 [] (.pair (.slice (.slice .str)) (.pair (.int .i64) .unit))), (11, .imm (.int .i64) .unit), (12, .ref 13132 [] (.pair (.int .i64) (.pair (.int .i64) (.pair .str .unit))))], h := [(13130, .obj (.pair (.slice (.pair (.slice .str) .unit)) (.pair (.int .i64) .unit)) (.pair (.blk 13133 (.at (.pair (.slice .str) .unit))) (.imm (.pair (.int .i64) .unit) .unit))), (13131, .obj (.pair (.slice (.slice .str)) (.pair (.int .i64) .unit)) (.imm (.pair (.slice (.slice .str)) (.pair (.int .i64) .unit)) .unit)), (13132, .obj (.pair (.int .i64) (.pair (.int .i64) (.pair .str .unit))) (.imm (.pair (.int .i64) (.pair (.int .i64) (.pair .str .unit))) .unit)), (13133, .blk (.at (.pair (.slice .str) .unit)) .unit)], z := [6] })]
noncomputable def f6_s2085463 (ls : List P) : Tree (Nat × List P) :=
 .ite ((lf ls 4).toBool) (
  .loop (f28_v [lf ls 8, lf ls 5]) fun x8 =>
   .ite (Nat.beq x8.1 0) (
    .loop (f45_1_v [lf ls 6]) fun x9 =>
     .ite (Nat.beq x9.1 0) (
      .ite (((lf x8.2 0).toInt) != ((lf x9.2 0).toInt)) (
       .ret (0, [.bool false])) (
       .ite (!(strEq ((lf x8.2 1).toStr) ((lf x9.2 1).toStr))) (
        .ret (0, [.bool false])) (
        .ite (!(((lf x8.2 2).toBool) == ((lf x9.2 2).toBool))) (
         .ret (0, [.bool false])) (
         .ret (1, [lf ls 0, lf ls 1, lf ls 2, lf x8.2 4, lf x9.2 3, lf ls 7, lf x8.2 3]))))) (
      .fail)) (
    .fail)) (
  .loop ((f6_s8341855 [lf ls 0, lf ls 1, lf ls 2, lf ls 3, .bool (((lf ls 3).toInt) == (2 : Int)), lf ls 5, lf ls 6, lf ls 7, lf ls 8]).run some) fun y15 =>
   .ite (Nat.beq y15.1 0) (
    .ret (0, [lf y15.2 0])) (
    .ite (Nat.beq y15.1 1) (
     .ret (1, [lf y15.2 0, lf y15.2 1, lf y15.2 2, lf y15.2 3, lf y15.2 4, lf y15.2 5, lf y15.2 6])) (
     .fail)))
noncomputable def f6_k521365 : Sk := { t := [(0, .imm (.int .i64) .unit), (1, .imm (.slice (.pair (.int .i64) (.pair (.int .i64) (.pair .str .unit)))) .unit), (5, .ref 12300 [] (.pair (.slice (.pair (.slice .str) .unit)) (.pair (.int .i64) .unit))), (6, .ref 12301 [] (.pair (.slice (.slice .str)) (.pair (.int .i64) .unit))), (11, .imm (.int .i64) .unit), (12, .ref 12302 [] (.pair (.int .i64) (.pair (.int .i64) (.pair .str .unit)))), (80, .imm (.int .i64) .unit), (81, .imm .bool .unit)], h := [(12300, .obj (.pair (.slice (.pair (.slice .str) .unit)) (.pair (.int .i64) .unit)) (.pair (.blk 12303 (.at (.pair (.slice .str) .unit))) (.imm (.pair (.int .i64) .unit) .unit))), (12301, .obj (.pair (.slice (.slice .str)) (.pair (.int .i64) .unit)) (.imm (.pair (.slice (.slice .str)) (.pair (.int .i64) .unit)) .unit)), (12302, .obj (.pair (.int .i64) (.pair (.int .i64) (.pair .str .unit))) (.imm (.pair (.int .i64) (.pair (.int .i64) (.pair .str .unit))) .unit)), (12303, .blk (.at (.pair (.slice .str) .unit)) .unit)], z := [6] }
noncomputable def f6_o521365 : List (Out × Sk) := [(.ret, { t := [(4, .imm .bool .unit)], h := [] }), (.norm, { t := [(0, .imm (.int .i64) .unit), (1, .imm (.slice (.pair (.int .i64) (.pair (.int .i64) (.pair .str .unit)))) .unit), (5, .ref 12330 [] (.pair (.slice (.pair (.slice .str) .unit)) (.pair (.int .i64) .unit))), (6, .ref 12331 [] (.pair (.slice (.slice .str)) (.pair (.int .i64) .unit))), (11, .imm (.int .i64) .unit), (12, .ref 12332 [] (.pair (.int .i64) (.pair (.int .i64) (.pair .str .unit))))], h := [(12330, .obj (.pair (.slice (.pair (.slice .str) .unit)) (.pair (.int .i64) .unit)) (.pair (.blk 12333 (.at (.pair (.slice .str) .unit))) (.imm (.pair (.int .i64) .unit) .unit))), (12331, .obj (.pair (.slice (.slice .str)) (.pair (.int .i64) .unit)) (.imm (.pair (.slice (.slice .str)) (.pair (.int .i64) .unit)) .unit)), (12332, .obj (.pair (.int .i64) (.pair (.int .i64) (.pair .str .unit))) (.imm (.pair (.int .i64) (.pair (.int .i64) (.pair .str .unit))) .unit)), (12333, .blk (.at (.pair (.slice .str) .unit)) .unit)], z := [6] })]
noncomputable def f6_s521365 (ls : List P) : Tree (Nat × List P) :=
 .ite ((lf ls 4).toBool) (
  .loop (f27_v [lf ls 8, lf ls 5, ((lf ls 7).snd).fst, (((lf ls 7).snd).snd).fst]) fun x6 =>
   .ite (Nat.beq x6.1 0) (
    .loop (f44_1_v [lf ls 6, ((lf ls 7).snd).fst, (((lf ls 7).snd).snd).fst]) fun x7 =>
     .ite (Nat.beq x7.1 0) (
      .ite (!(((lf x6.2 0).toBool) == ((lf x7.2 0).toBool))) (
       .ret (0, [.bool false])) (
       .ret (1, [lf ls 0, lf ls 1, lf ls 2, lf ls 5, lf x7.2 1, lf ls 7, lf x6.2 1]))) (
      .fail)) (
    .fail)) (
  .loop ((f6_s2085463 [lf ls 0, lf ls 1, lf ls 2, lf ls 3, .bool (((lf ls 3).toInt) == (1 : Int)), lf ls 5, lf ls 6, lf ls 7, lf ls 8]).run some) fun y16 =>
   .ite (Nat.beq y16.1 0) (
    .ret (0, [lf y16.2 0])) (
    .ite (Nat.beq y16.1 1) (
     .ret (1, [lf y16.2 0, lf y16.2 1, lf y16.2 2, lf y16.2 3, lf y16.2 4, lf y16.2 5, lf y16.2 6])) (
     .fail)))
noncomputable def f6_k2042 : Sk := { t := [(0, .imm (.int .i64) .unit), (5, .ref 8500 [] (.pair (.slice (.pair (.slice .str) .unit)) (.pair (.int .i64) .unit))), (6, .ref 8501 [] (.pair (.slice (.slice .str)) (.pair (.int .i64) .unit))), (19, .imm (.int .i64) .unit)], h := [(8500, .obj (.pair (.slice (.pair (.slice .str) .unit)) (.pair (.int .i64) .unit)) (.pair (.blk 8502 (.at (.pair (.slice .str) .unit))) (.imm (.pair (.int .i64) .unit) .unit))), (8501, .obj (.pair (.slice (.slice .str)) (.pair (.int .i64) .unit)) (.imm (.pair (.slice (.slice .str)) (.pair (.int .i64) .unit)) .unit)), (8502, .blk (.at (.pair (.slice .str) .unit)) .unit)] }
noncomputable def f6_o2042 : List (Out × Sk) := [(.ret, { t := [(4, .imm .bool .unit)], h := [] }), ((.exit 3), { t := [], h := [] })]
noncomputable def f6_s2042 (ls : List P) : Tree Step :=
 .ite (decide ((lf ls 1).toInt < (lf ls 0).toInt)) (
  .loop (f30_v [lf ls 4, lf ls 2, lf ls 1]) fun x24 =>
   .ite (Nat.beq x24.1 0) (
    .loop (f50_v [lf ls 3, lf ls 1]) fun x25 =>
     .ite (Nat.beq x25.1 0) (
      .loop (f49_v [.list ((lf x24.2 0).isNil) ((lf x24.2 0).xs), lf x25.2 0]) fun x26 =>
       .ite (Nat.beq x26.1 0) (
        .ite (!((lf x26.2 0).toBool)) (
         .ret (.inr (0, [.bool false]))) (
         .ret (.inl [lf ls 0, .int .i64 (IntKind.i64.wrap (((lf ls 1).toInt) + (1 : Int))), lf x24.2 2, lf ls 3, lf x24.2 1]))) (
        .fail)) (
      .fail)) (
    .fail)) (
  .ret (.inr (1, [])))
noncomputable def f6_k1018 : Sk := { t := [(0, .imm (.int .i64) .unit), (1, .imm (.slice (.pair (.int .i64) (.pair (.int .i64) (.pair .str .unit)))) .unit), (5, .ref 7900 [] (.pair (.slice (.pair (.slice .str) .unit)) (.pair (.int .i64) .unit))), (6, .ref 7901 [] (.pair (.slice (.slice .str)) (.pair (.int .i64) .unit))), (11, .imm (.int .i64) .unit)], h := [(7900, .obj (.pair (.slice (.pair (.slice .str) .unit)) (.pair (.int .i64) .unit)) (.pair (.blk 7902 (.at (.pair (.slice .str) .unit))) (.imm (.pair (.int .i64) .unit) .unit))), (7901, .obj (.pair (.slice (.slice .str)) (.pair (.int .i64) .unit)) (.imm (.pair (.slice (.slice .str)) (.pair (.int .i64) .unit)) .unit)), (7902, .blk (.at (.pair (.slice .str) .unit)) .unit)], z := [6] }
noncomputable def f6_o1018 : List (Out × Sk) := [(.ret, { t := [(4, .imm .bool .unit)], h := [] }), ((.exit 0), { t := [(0, .imm (.int .i64) .unit), (5, .ref 7930 [] (.pair (.slice (.pair (.slice .str) .unit)) (.pair (.int .i64) .unit))), (6, .ref 7931 [] (.pair (.slice (.slice .str)) (.pair (.int .i64) .unit)))], h := [(7930, .obj (.pair (.slice (.pair (.slice .str) .unit)) (.pair (.int .i64) .unit)) (.pair (.blk 7932 (.at (.pair (.slice .str) .unit))) (.imm (.pair (.int .i64) .unit) .unit))), (7931, .obj (.pair (.slice (.slice .str)) (.pair (.int .i64) .unit)) (.imm (.pair (.slice (.slice .str)) (.pair (.int .i64) .unit)) .unit)), (7932, .blk (.at (.pair (.slice .str) .unit)) .unit)] })]
noncomputable def f6_s1018 (ls : List P) : Tree Step :=
 .ite (decide ((lf ls 2).toInt < (((lf ls 1).xs).length : Int))) (
  .ite (inb ((lf ls 2).toInt) (((lf ls 1).xs).length)) (
   .loop ((f6_s521365 [lf ls 0, lf ls 1, lf ls 2, (rd ((lf ls 1).xs) (((lf ls 2).toInt).toNat)).fst, .bool ((((rd ((lf ls 1).xs) (((lf ls 2).toInt).toNat)).fst).toInt) == (0 : Int)), lf ls 3, lf ls 4, rd ((lf ls 1).xs) (((lf ls 2).toInt).toNat), lf ls 5]).run some) fun y17 =>
    .ite (Nat.beq y17.1 0) (
     .ret (.inr (0, [lf y17.2 0]))) (
     .ite (Nat.beq y17.1 1) (
      .loop (f29_v [lf y17.2 6, lf y17.2 3]) fun x18 =>
       .ite (Nat.beq x18.1 0) (
        .loop (f48_v [lf y17.2 4]) fun x19 =>
         .ite (Nat.beq x19.1 0) (
          .ite (((lf x18.2 0).toInt) != ((lf x19.2 0).toInt)) (
           .ret (.inr (0, [.bool false]))) (
           .loop (f30_v [lf x18.2 1, lf x18.2 2, ((lf y17.2 5).snd).fst]) fun x20 =>
            .ite (Nat.beq x20.1 0) (
             .loop (f50_v [lf y17.2 4, ((lf y17.2 5).snd).fst]) fun x21 =>
              .ite (Nat.beq x21.1 0) (
               .loop (f49_v [.list ((lf x20.2 0).isNil) ((lf x20.2 0).xs), lf x21.2 0]) fun x22 =>
                .ite (Nat.beq x22.1 0) (
                 .ite (!((lf x22.2 0).toBool)) (
                  .ret (.inr (0, [.bool false]))) (
                  .ret (.inl [lf y17.2 0, lf y17.2 1, .int .i64 (IntKind.i64.wrap (((lf y17.2 2).toInt) + (1 : Int))), lf x20.2 2, lf y17.2 4, lf x20.2 1]))) (
                 .fail)) (
               .fail)) (
             .fail))) (
          .fail)) (
        .fail)) (
      .fail))) (
   .fail)) (
  .ret (.inr (1, [lf ls 0, lf ls 3, lf ls 4, lf ls 5])))
noncomputable def f6_t (ps : List P) : Tree (Nat × List P) :=
 .loop (f24_v [lf ps 1]) fun x1 =>
  .ite (Nat.beq x1.1 0) (
   .ite ((lf x1.2 0).toBool) (
    .loop (f25_v []) fun x2 =>
     .ite (Nat.beq x2.1 0) (
      .ret (0, [lf x2.2 0])) (
      .fail)) (
    .loop (f26_v [lf ps 0]) fun x3 =>
     .ite (Nat.beq x3.1 0) (
      .loop (f41_v [lf ps 0]) fun x29 =>
       .ite (Nat.beq x29.1 0) (
        .ite (!((lf x29.2 2).toBool)) (
         .loop (f28_1_v [lf x3.2 0]) fun x30 =>
          .ite (Nat.beq x30.1 0) (
           .ite (!((lf x30.2 2).toBool)) (
            .loop (f27_1_v [lf x3.2 0, .int .i64 (0 : Int), .str ⟨#[97]⟩]) fun x31 =>
             .ite (Nat.beq x31.1 0) (
              .ite (!((lf x31.2 0).toBool)) (
               .loop (f42_1_v [lf x3.2 0, .int .i64 (0 : Int)]) fun x32 =>
                .ite (Nat.beq x32.1 0) (
                 .loop (f43_1_v [lf x3.2 0, .str ⟨#[97]⟩]) fun x33 =>
                  .ite (Nat.beq x33.1 0) (
                   .loop (f29_1_v [lf x3.2 0]) fun x34 =>
                    .ite (Nat.beq x34.1 0) (
                     .loop (f30_1_v [lf x3.2 0, .int .i64 (0 : Int)]) fun x35 =>
                      .ite (Nat.beq x35.1 0) (
                       .ite ((IntKind.i64.wrap ((IntKind.i64.wrap ((IntKind.i64.wrap (((lf x32.2 0).toInt) + ((lf x33.2 0).toInt))) + ((lf x34.2 0).toInt))) + (0 : Int))) == (0 : Int)) (
                        .loop (f25_v []) fun x36 =>
                         .ite (Nat.beq x36.1 0) (
                          .ret (0, [lf x36.2 0])) (
                          .fail)) (
                        .ret (0, [.bool false]))) (
                       .fail)) (
                     .fail)) (
                   .fail)) (
                 .fail)) (
               .ret (0, [.bool false]))) (
              .fail)) (
            .ret (0, [.bool false]))) (
           .fail)) (
         .ret (0, [.bool false]))) (
        .fail)) (
      .ite (Nat.beq x3.1 1) (
       .loop (f41_v [lf ps 0]) fun x4 =>
        .ite (Nat.beq x4.1 0) (
         .ite (!((lf x4.2 2).toBool)) (
          .loop (f28_v [lf x3.2 0, lf x3.2 1]) fun x5 =>
           .ite (Nat.beq x5.1 0) (
            .ret (0, [.bool false])) (
            .fail)) (
          .loop (loopT f6_s1018 FUEL [lf ps 0, lf ps 1, .int .i64 (0 : Int), lf x3.2 1, .pair (.list ((lf x4.2 0).isNil) ((lf x4.2 0).xs)) (lf x4.2 1), lf x3.2 0]) fun y23 =>
           .ite (Nat.beq y23.1 0) (
            .ret (0, [lf y23.2 0])) (
            .ite (Nat.beq y23.1 1) (
             .loop (loopT f6_s2042 FUEL [lf y23.2 0, .int .i64 (0 : Int), lf y23.2 1, lf y23.2 2, lf y23.2 3]) fun y27 =>
              .ite (Nat.beq y27.1 0) (
               .ret (0, [lf y27.2 0])) (
               .ite (Nat.beq y27.1 1) (
                .loop (f25_v []) fun x28 =>
                 .ite (Nat.beq x28.1 0) (
                  .ret (0, [lf x28.2 0])) (
                  .fail)) (
                .fail))) (
             .fail)))) (
         .fail)) (
       .fail)))) (
   .fail)
noncomputable def f6_v (ps : List P) : Option (Nat × List P) := (f6_t ps).run some
noncomputable def f6_e : EntD := ⟨6, [.imm (.int .i64), .imm (.slice (.pair (.int .i64) (.pair (.int .i64) (.pair .str .unit))))], f6_v, [fun ps ls qs => ⟨[.imm .bool (lf qs 0)], [.imm (.int .i64) (lf ps 0), .imm (.slice (.pair (.int .i64) (.pair (.int .i64) (.pair .str .unit)))) (lf ps 1)]⟩]⟩
noncomputable def f6_u : List Cu := [.cut 33367423 f6_k33367423 f6_o33367423 f6_s33367423, .cut 8341855 f6_k8341855 f6_o8341855 f6_s8341855, .cut 2085463 f6_k2085463 f6_o2085463 f6_s2085463, .cut 521365 f6_k521365 f6_o521365 f6_s521365, .loop 2042 f6_k2042 f6_o2042 f6_s2042, .loop 1018 f6_k1018 f6_o1018 f6_s1018]
noncomputable def f6_c : Cx := ⟨Try.prog, envOf [f24_e, f25_e, f26_e, f27_e, f27_1_e, f28_e, f28_1_e, f29_e, f29_1_e, f30_e, f30_1_e, f41_e, f42_e, f42_1_e, f43_e, f43_1_e, f44_1_e, f44_e, f45_1_e, f45_e, f46_1_e, f46_e, f47_1_e, f47_e, f48_e, f49_e, f50_e], 172, lOf f6_u, fun _ => false⟩
noncomputable def f6_b : Code := match Try.f6.body with | some b => b | none => .skip
theorem f6_q33367423 : (Cu.cut 33367423 f6_k33367423 f6_o33367423 f6_s33367423).Ok f6_c f6_b := ⟨by kernel_rfl, fun ls Kx => by kernel_rfl⟩
theorem f6_q8341855 : (Cu.cut 8341855 f6_k8341855 f6_o8341855 f6_s8341855).Ok f6_c f6_b := ⟨by kernel_rfl, fun ls Kx => by kernel_rfl⟩
theorem f6_q2085463 : (Cu.cut 2085463 f6_k2085463 f6_o2085463 f6_s2085463).Ok f6_c f6_b := ⟨by kernel_rfl, fun ls Kx => by kernel_rfl⟩
theorem f6_q521365 : (Cu.cut 521365 f6_k521365 f6_o521365 f6_s521365).Ok f6_c f6_b := ⟨by kernel_rfl, fun ls Kx => by kernel_rfl⟩
theorem f6_q2042 : (Cu.loop 2042 f6_k2042 f6_o2042 f6_s2042).Ok f6_c f6_b := ⟨by kernel_rfl, fun ls Kr Kx => by kernel_rfl⟩
theorem f6_q1018 : (Cu.loop 1018 f6_k1018 f6_o1018 f6_s1018).Ok f6_c f6_b := ⟨by kernel_rfl, fun ls Kr Kx => by kernel_rfl⟩
theorem f6_x (ps : List P) (ls : List Nat) : execFn f6_c 6 f6_e.tm (explF ps 2 0) ls = (f6_t ps).run fun q => altR (f6_e.res.map fun f => f ps ls) 0 q some := by kernel_rfl
theorem f6_ok : OkEnt Try.prog f6_e := ent_ok (c := f6_c) (g := 6) (body := f6_b) (us := f6_u) (n := 2) (t := f6_t) (good_envOf _ ⟨f24_ok, f25_ok, f26_ok, f27_ok, f27_1_ok, f28_ok, f28_1_ok, f29_ok, f29_1_ok, f30_ok, f30_1_ok, f41_ok, f42_ok, f42_1_ok, f43_ok, f43_1_ok, f44_1_ok, f44_ok, f45_1_ok, f45_ok, f46_1_ok, f46_ok, f47_1_ok, f47_ok, f48_ok, f49_ok, f50_ok, trivial⟩) Try.func6 rfl Try.call6 rfl ⟨f6_q33367423, f6_q8341855, f6_q2085463, f6_q521365, f6_q2042, f6_q1018, trivial⟩ (by kernel_rfl) f6_x (fun _ => rfl)
end Go.Proofs.Ytjemihhhkhdbeaa
