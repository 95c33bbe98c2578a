/- Functions: what each tells. Conditions: none. -/
import Derived.Test.YtihenfpnilliiaaFNw0
open Go Go.Eng Go.Proofs
set_option pp.deepTerms true
set_option linter.unusedVariables false
namespace Go.Proofs.Ytihenfpnilliiaa
/-! ### comprador/mani.Get -/
noncomputable def f14_k1 : Sk := { t := [(0, .imm (.pair .str (.pair (.slice (.pair (.int .i64) (.pair (.slice (.pair .str (.pair (.slice (.pair (.int .i64) (.pair (.int .i64) .unit))) .unit))) .unit))) .unit)) .unit), (1, .imm (.int .i64) .unit)], h := [] }
noncomputable def f14_o1 : List (Out × Sk) := [(.ret, { t := [(4, .ref 4030 [] (.pair (.int .i64) (.pair (.slice (.pair .str (.pair (.slice (.pair (.int .i64) (.pair (.int .i64) .unit))) .unit))) .unit))), (5, .imm .bool .unit)], h := [(4030, .obj (.pair (.int .i64) (.pair (.slice (.pair .str (.pair (.slice (.pair (.int .i64) (.pair (.int .i64) .unit))) .unit))) .unit)) (.pair (.imm (.int .i64) .unit) (.pair (.slf 4031 (.pair .str (.pair (.slice (.pair (.int .i64) (.pair (.int .i64) .unit))) .unit))) (.imm .unit .unit)))), (4031, .arr (.pair .str (.pair (.slice (.pair (.int .i64) (.pair (.int .i64) .unit))) .unit)) true [])] })]
noncomputable def f14_s1 (ls : List P) : Tree (Nat × List P) :=
 .ite (decide ((lf ls 1).toInt < (0 : Int))) (
  .ret (0, [.bool false, .int .i64 (0 : Int), .unit, .list true []])) (
  .ite (decide ((lf ls 1).toInt ≥ (1000000000 : Int))) (
   .ret (0, [.bool false, .int .i64 (0 : Int), .unit, .list true []])) (
   .loop (f35_v [lf ls 0, lf ls 1]) fun x1 =>
    .ite (Nat.beq x1.1 0) (
     .ite (!((lf x1.2 1).toBool)) (
      .ret (0, [.bool false, .int .i64 (0 : Int), .unit, .list true []])) (
      .ite (inb ((lf x1.2 0).toInt) (((((lf ls 0).snd).fst).xs).length)) (
       .loop (f36_v [rd ((((lf ls 0).snd).fst).xs) (((lf x1.2 0).toInt).toNat)]) fun x2 =>
        .ite (Nat.beq x2.1 0) (
         .ret (0, [.bool true, lf x2.2 0, lf x2.2 2, .list ((lf x2.2 1).isNil) ((lf x2.2 1).xs)])) (
         .fail)) (
       .fail))) (
     .fail)))
noncomputable def f14_t (ps : List P) : Tree (Nat × List P) :=
 .loop ((f14_s1 [lf ps 0, lf ps 1]).run some) fun y3 =>
  .ite (Nat.beq y3.1 0) (
   .ret (0, [lf y3.2 1, .list ((lf y3.2 3).isNil) ((lf y3.2 3).xs), lf y3.2 2, lf y3.2 0])) (
   .fail)
noncomputable def f14_v (ps : List P) : Option (Nat × List P) := (f14_t ps).run some
noncomputable def f14_e : EntD := ⟨14, [.imm (.pair .str (.pair (.slice (.pair (.int .i64) (.pair (.slice (.pair .str (.pair (.slice (.pair (.int .i64) (.pair (.int .i64) .unit))) .unit))) .unit))) .unit)), .imm (.int .i64)], f14_v, [fun ps ls qs => ⟨[.pair (.imm (.int .i64) (lf qs 0)) (.pair (.own (ls.getD 2030 0) (.pair .str (.pair (.slice (.pair (.int .i64) (.pair (.int .i64) .unit))) .unit)) (lf qs 1).isNil (lf qs 1).xs) (.imm .unit (lf qs 2))), .imm .bool (lf qs 3)], [.imm (.pair .str (.pair (.slice (.pair (.int .i64) (.pair (.slice (.pair .str (.pair (.slice (.pair (.int .i64) (.pair (.int .i64) .unit))) .unit))) .unit))) .unit)) (lf ps 0), .imm (.int .i64) (lf ps 1)]⟩]⟩
noncomputable def f14_u : List Cu := [.cut 1 f14_k1 f14_o1 f14_s1]
noncomputable def f14_c : Cx := ⟨Try.prog, envOf [f35_e, f36_e], 30, lOf f14_u⟩
noncomputable def f14_b : Code := match Try.f14.body with | some b => b | none => .skip
theorem f14_q1 : (Cu.cut 1 f14_k1 f14_o1 f14_s1).Ok f14_c f14_b := ⟨by kernel_rfl, fun ls Kx => by kernel_rfl⟩
theorem f14_x (ps : List P) (ls : List Nat) : execFn f14_c 14 f14_e.tm (explF ps 2 0) ls = (f14_t ps).run fun q => altR (f14_e.res.map fun f => f ps ls) 0 q some := by kernel_rfl
theorem f14_ok : OkEnt Try.prog f14_e := ent_ok (c := f14_c) (g := 14) (body := f14_b) (us := f14_u) (n := 2) (t := f14_t) (good_envOf _ ⟨f35_ok, f36_ok, trivial⟩) Try.func14 rfl Try.call14 rfl ⟨f14_q1, trivial⟩ (by kernel_rfl) f14_x (fun _ => rfl)
/-! ### comprador/span.Count -/
noncomputable def f16_k58 : Sk := { t := [(3, .imm (.int .i64) .unit), (6, .imm (.slice (.pair (.int .i64) (.pair (.int .i64) .unit))) .unit), (7, .imm (.int .i64) .unit), (8, .imm (.int .i64) .unit)], h := [] }
noncomputable def f16_o58 : List (Out × Sk) := [((.exit 0), { t := [(3, .imm (.int .i64) .unit)], h := [] })]
noncomputable def f16_s58 (ls : List P) : Tree Step :=
 .ite (decide ((lf ls 3).toInt < (lf ls 2).toInt)) (
  .ite (inb ((lf ls 3).toInt) (((lf ls 1).xs).length)) (
   .ret (.inl [.int .i64 (IntKind.i64.wrap (((lf ls 0).toInt) + (IntKind.i64.wrap (((((rd ((lf ls 1).xs) (((lf ls 3).toInt).toNat)).snd).fst).toInt) - (((rd ((lf ls 1).xs) (((lf ls 3).toInt).toNat)).fst).toInt))))), lf ls 1, lf ls 2, .int .i64 (IntKind.i64.wrap (((lf ls 3).toInt) + (1 : Int)))])) (
   .fail)) (
  .ret (.inr (0, [lf ls 0])))
noncomputable def f16_t (ps : List P) : Tree (Nat × List P) :=
 .loop (loopT f16_s58 FUEL [.int .i64 (0 : Int), lf ps 0, .int .i64 (((lf ps 0).xs).length : Int), .int .i64 (0 : Int)]) fun y1 =>
  .ite (Nat.beq y1.1 0) (
   .ret (0, [lf y1.2 0])) (
   .fail)
noncomputable def f16_v (ps : List P) : Option (Nat × List P) := (f16_t ps).run some
noncomputable def f16_e : EntD := ⟨16, [.imm (.slice (.pair (.int .i64) (.pair (.int .i64) .unit)))], f16_v, [fun ps ls qs => ⟨[.imm (.int .i64) (lf qs 0)], [.imm (.slice (.pair (.int .i64) (.pair (.int .i64) .unit))) (lf ps 0)]⟩]⟩
noncomputable def f16_u : List Cu := [.loop 58 f16_k58 f16_o58 f16_s58]
noncomputable def f16_c : Cx := ⟨Try.prog, envOf [], 21, lOf f16_u⟩
noncomputable def f16_b : Code := match Try.f16.body with | some b => b | none => .skip
theorem f16_q58 : (Cu.loop 58 f16_k58 f16_o58 f16_s58).Ok f16_c f16_b := ⟨by kernel_rfl, fun ls Kr Kx => by kernel_rfl⟩
theorem f16_x (ps : List P) (ls : List Nat) : execFn f16_c 16 f16_e.tm (explF ps 1 0) ls = (f16_t ps).run fun q => altR (f16_e.res.map fun f => f ps ls) 0 q some := by kernel_rfl
theorem f16_ok : OkEnt Try.prog f16_e := ent_ok (c := f16_c) (g := 16) (body := f16_b) (us := f16_u) (n := 1) (t := f16_t) (good_envOf _ trivial) Try.func16 rfl Try.call16 rfl ⟨f16_q58, trivial⟩ (by kernel_rfl) f16_x (fun _ => rfl)
/-! ### comprador/compradorlaw09.ManiNewest -/
noncomputable def f3_k1018 : Sk := { t := [(2, .ref 6500 [] (.pair .str (.pair (.slice (.pair (.int .i64) (.pair (.slice (.pair .str (.pair (.slice (.pair (.int .i64) (.pair (.int .i64) .unit))) .unit))) .unit))) .unit))), (5, .slf 6501 (.pair (.int .i64) (.pair (.int .i64) .unit))), (6, .imm (.int .i64) .unit), (7, .imm .bool .unit), (8, .imm (.int .i64) .unit), (9, .imm .bool .unit), (10, .slf 6502 (.int .i64)), (11, .imm (.int .i64) .unit)], h := [(6500, .obj (.pair .str (.pair (.slice (.pair (.int .i64) (.pair (.slice (.pair .str (.pair (.slice (.pair (.int .i64) (.pair (.int .i64) .unit))) .unit))) .unit))) .unit)) (.imm (.pair .str (.pair (.slice (.pair (.int .i64) (.pair (.slice (.pair .str (.pair (.slice (.pair (.int .i64) (.pair (.int .i64) .unit))) .unit))) .unit))) .unit)) .unit)), (6501, .arr (.pair (.int .i64) (.pair (.int .i64) .unit)) true []), (6502, .arr (.int .i64) true [])] }
noncomputable def f3_o1018 : List (Out × Sk) := [(.ret, { t := [(4, .imm .bool .unit)], h := [] }), ((.exit 0), { t := [(5, .slf 6530 (.pair (.int .i64) (.pair (.int .i64) .unit))), (6, .imm (.int .i64) .unit), (7, .imm .bool .unit), (8, .imm (.int .i64) .unit), (9, .imm .bool .unit), (10, .slf 6531 (.int .i64))], h := [(6530, .arr (.pair (.int .i64) (.pair (.int .i64) .unit)) true []), (6531, .arr (.int .i64) true [])] })]
noncomputable def f3_s1018 (ls : List P) : Tree Step :=
 .ite (decide ((lf ls 4).toInt < (((lf ls 7).xs).length : Int))) (
  .ite (inb ((lf ls 4).toInt) (((lf ls 7).xs).length)) (
   .loop (f14_v [lf ls 5, rd ((lf ls 7).xs) (((lf ls 4).toInt).toNat)]) fun x13 =>
    .ite (Nat.beq x13.1 0) (
     .ite (!((lf x13.2 3).toBool)) (
      .ret (.inr (0, [.bool false]))) (
      .ite (inb ((lf ls 4).toInt) (((lf ls 7).xs).length)) (
       .loop (f15_v [.list ((lf ls 6).isNil) ((lf ls 6).xs), rd ((lf ls 7).xs) (((lf ls 4).toInt).toNat)]) fun x14 =>
        .ite (Nat.beq x14.1 0) (
         .ite (!((lf x14.2 0).toBool)) (
          .ret (.inr (0, [.bool false]))) (
          .ite (decide ((lf ls 4).toInt > (0 : Int))) (
           .ite (inb ((lf ls 4).toInt) (((lf ls 7).xs).length)) (
            .ite (inb (IntKind.i64.wrap (((lf ls 4).toInt) - (1 : Int))) (((lf ls 7).xs).length)) (
             .ite (decide ((rd ((lf ls 7).xs) (((lf ls 4).toInt).toNat)).toInt ≥ (rd ((lf ls 7).xs) ((IntKind.i64.wrap (((lf ls 4).toInt) - (1 : Int))).toNat)).toInt)) (
              .ret (.inr (0, [.bool false]))) (
              .ret (.inl [lf ls 0, lf ls 1, lf ls 2, lf ls 3, .int .i64 (IntKind.i64.wrap (((lf ls 4).toInt) + (1 : Int))), lf ls 5, .list ((lf ls 6).isNil) ((lf ls 6).xs), .list ((lf ls 7).isNil) ((lf ls 7).xs)]))) (
             .fail)) (
            .fail)) (
           .ret (.inl [lf ls 0, lf ls 1, lf ls 2, lf ls 3, .int .i64 (IntKind.i64.wrap (((lf ls 4).toInt) + (1 : Int))), lf ls 5, .list ((lf ls 6).isNil) ((lf ls 6).xs), .list ((lf ls 7).isNil) ((lf ls 7).xs)])))) (
         .fail)) (
       .fail))) (
     .fail)) (
   .fail)) (
  .ret (.inr (1, [lf ls 0, lf ls 1, lf ls 2, lf ls 3, .list ((lf ls 6).isNil) ((lf ls 6).xs), .list ((lf ls 7).isNil) ((lf ls 7).xs)])))
noncomputable def f3_t (ps : List P) : Tree (Nat × List P) :=
 .loop (f5_v [lf ps 0]) fun x1 =>
  .ite (Nat.beq x1.1 0) (
   .ite ((lf x1.2 0).toBool) (
    .loop (f8_v []) fun x2 =>
     .ite (Nat.beq x2.1 0) (
      .ret (0, [lf x2.2 0])) (
      .fail)) (
    .loop (f6_v [lf ps 0]) fun x3 =>
     .ite (Nat.beq x3.1 0) (
      .ite (!((lf x3.2 0).toBool)) (
       .loop (f8_v []) fun x4 =>
        .ite (Nat.beq x4.1 0) (
         .ret (0, [lf x4.2 0])) (
         .fail)) (
       .ite (decide ((((lf ps 1).xs).length : Int) > (40 : Int))) (
        .loop (f8_v []) fun x5 =>
         .ite (Nat.beq x5.1 0) (
          .ret (0, [lf x5.2 0])) (
          .fail)) (
        .loop (f7_v [lf ps 1]) fun x6 =>
         .ite (Nat.beq x6.1 0) (
          .ite (!((lf x6.2 0).toBool)) (
           .loop (f8_v []) fun x7 =>
            .ite (Nat.beq x7.1 0) (
             .ret (0, [lf x7.2 0])) (
             .fail)) (
           .loop (f10_v [lf ps 0]) fun x8 =>
            .ite (Nat.beq x8.1 0) (
             .loop (f9_v [.list ((lf x8.2 0).isNil) ((lf x8.2 0).xs), lf ps 1]) fun x9 =>
              .ite (Nat.beq x9.1 0) (
               .loop (f11_v [lf ps 0, lf ps 1]) fun x10 =>
                .ite (Nat.beq x10.1 0) (
                 .loop (f12_v [.list ((lf x9.2 0).isNil) ((lf x9.2 0).xs)]) fun x11 =>
                  .ite (Nat.beq x11.1 0) (
                   .loop (down13_v [lf ps 0, lf ps 1]) fun x12 =>
                    .ite (Nat.beq x12.1 0) (
                     .loop (loopT f3_s1018 FUEL [lf x10.2 0, lf x10.2 1, lf x11.2 0, lf x11.2 1, .int .i64 (0 : Int), lf ps 0, .list ((lf x9.2 0).isNil) ((lf x9.2 0).xs), .list ((lf x12.2 0).isNil) ((lf x12.2 0).xs)]) fun y15 =>
                      .ite (Nat.beq y15.1 0) (
                       .ret (0, [lf y15.2 0])) (
                       .ite (Nat.beq y15.1 1) (
                        .ite (((lf y15.2 0).toInt) == ((lf y15.2 2).toInt)) (
                         .ite (((lf y15.2 1).toBool) == ((lf y15.2 3).toBool)) (
                          .loop (f16_v [.list ((lf y15.2 4).isNil) ((lf y15.2 4).xs)]) fun x16 =>
                           .ite (Nat.beq x16.1 0) (
                            .ite ((((lf y15.2 5).xs).length : Int) == ((lf x16.2 0).toInt)) (
                             .loop (f8_v []) fun x17 =>
                              .ite (Nat.beq x17.1 0) (
                               .ret (0, [lf x17.2 0])) (
                               .fail)) (
                             .ret (0, [.bool false]))) (
                            .fail)) (
                          .ret (0, [.bool false]))) (
                         .ret (0, [.bool false]))) (
                        .fail))) (
                     .fail)) (
                   .fail)) (
                 .fail)) (
               .fail)) (
             .fail))) (
          .fail)))) (
      .fail))) (
   .fail)
noncomputable def f3_v (ps : List P) : Option (Nat × List P) := (f3_t ps).run some
noncomputable def f3_e : EntD := ⟨3, [.imm (.pair .str (.pair (.slice (.pair (.int .i64) (.pair (.slice (.pair .str (.pair (.slice (.pair (.int .i64) (.pair (.int .i64) .unit))) .unit))) .unit))) .unit)), .imm (.slice (.pair (.int .i64) (.pair (.int .i64) .unit)))], f3_v, [fun ps ls qs => ⟨[.imm .bool (lf qs 0)], [.imm (.pair .str (.pair (.slice (.pair (.int .i64) (.pair (.slice (.pair .str (.pair (.slice (.pair (.int .i64) (.pair (.int .i64) .unit))) .unit))) .unit))) .unit)) (lf ps 0), .imm (.slice (.pair (.int .i64) (.pair (.int .i64) .unit))) (lf ps 1)]⟩]⟩
noncomputable def f3_u : List Cu := [.loop 1018 f3_k1018 f3_o1018 f3_s1018]
noncomputable def f3_c : Cx := ⟨Try.prog, envOf [f5_e, f6_e, f7_e, f8_e, f9_e, f10_e, f11_e, f12_e, down13_e, f14_e, f15_e, f16_e], 110, lOf f3_u⟩
noncomputable def f3_b : Code := match Try.f3.body with | some b => b | none => .skip
theorem f3_q1018 : (Cu.loop 1018 f3_k1018 f3_o1018 f3_s1018).Ok f3_c f3_b := ⟨by kernel_rfl, fun ls Kr Kx => by kernel_rfl⟩
theorem f3_x (ps : List P) (ls : List Nat) : execFn f3_c 3 f3_e.tm (explF ps 2 0) ls = (f3_t ps).run fun q => altR (f3_e.res.map fun f => f ps ls) 0 q some := by kernel_rfl
theorem f3_ok : OkEnt Try.prog f3_e := ent_ok (c := f3_c) (g := 3) (body := f3_b) (us := f3_u) (n := 2) (t := f3_t) (good_envOf _ ⟨f5_ok, f6_ok, f7_ok, f8_ok, f9_ok, f10_ok, f11_ok, f12_ok, down13_ok, f14_ok, f15_ok, f16_ok, trivial⟩) Try.func3 rfl Try.call3 rfl ⟨f3_q1018, trivial⟩ (by kernel_rfl) f3_x (fun _ => rfl)
end Go.Proofs.Ytihenfpnilliiaa
