/- Functions: what each tells. Conditions: none. -/
import Derived.Test.YtihenfpnilliiaaFMt2
open Go Go.Eng Go.Proofs
set_option pp.deepTerms true
set_option linter.unusedVariables false
namespace Go.Proofs.Ytihenfpnilliiaa
/-! ### comprador/compradorref06.One -/
noncomputable def f42_k1 : Sk := { t := [(0, .imm (.int .i64) .unit)], h := [] }
noncomputable def f42_o1 : List (Out × Sk) := [(.ret, { t := [(2, .slf 4030 (.pair (.int .i64) (.pair (.int .i64) .unit)))], h := [(4030, .arr (.pair (.int .i64) (.pair (.int .i64) .unit)) true [])] })]
noncomputable def f42_s1 (ls : List P) : Tree (Nat × List P) :=
 .ite (decide ((lf ls 0).toInt < (0 : Int))) (
  .ret (0, [.list true []])) (
  .ite (decide ((lf ls 0).toInt ≥ (1000000000 : Int))) (
   .ret (0, [.list true []])) (
   .ret (0, [.list false [.pair (lf ls 0) (.pair (.int .i64 (IntKind.i64.wrap (((lf ls 0).toInt) + (1 : Int)))) .unit)]])))
noncomputable def f42_t (ps : List P) : Tree (Nat × List P) :=
 .loop ((f42_s1 [lf ps 0]).run some) fun y1 =>
  .ite (Nat.beq y1.1 0) (
   .ret (0, [.list ((lf y1.2 0).isNil) ((lf y1.2 0).xs)])) (
   .fail)
noncomputable def f42_v (ps : List P) : Option (Nat × List P) := (f42_t ps).run some
noncomputable def f42_e : EntD := ⟨42, [.imm (.int .i64)], f42_v, [fun ps ls qs => ⟨[.own (ls.getD 2029 0) (.pair (.int .i64) (.pair (.int .i64) .unit)) (lf qs 0).isNil (lf qs 0).xs], [.imm (.int .i64) (lf ps 0)]⟩]⟩
noncomputable def f42_u : List Cu := [.cut 1 f42_k1 f42_o1 f42_s1]
noncomputable def f42_c : Cx := ⟨Try.prog, envOf [], 14, lOf f42_u⟩
noncomputable def f42_b : Code := match Try.f42.body with | some b => b | none => .skip
theorem f42_q1 : (Cu.cut 1 f42_k1 f42_o1 f42_s1).Ok f42_c f42_b := ⟨by kernel_rfl, fun ls Kx => by kernel_rfl⟩
theorem f42_x (ps : List P) (ls : List Nat) : execFn f42_c 42 f42_e.tm (explF ps 1 0) ls = (f42_t ps).run fun q => altR (f42_e.res.map fun f => f ps ls) 0 q some := by kernel_rfl
theorem f42_ok : OkEnt Try.prog f42_e := ent_ok (c := f42_c) (g := 42) (body := f42_b) (us := f42_u) (n := 1) (t := f42_t) (good_envOf _ trivial) Try.func42 rfl Try.call42 rfl ⟨f42_q1, trivial⟩ (by kernel_rfl) f42_x (fun _ => rfl)
/-! ### comprador/compradorref06.put -/
noncomputable def f88_k250 : Sk := { t := [(0, .imm (.slice (.int .i64)) .unit), (1, .imm (.int .i64) .unit), (5, .slf 5500 (.int .i64)), (6, .imm .bool .unit), (7, .imm (.int .i64) .unit)], h := [(5500, .arr (.int .i64) true [])] }
noncomputable def f88_o250 : List (Out × Sk) := [((.exit 0), { t := [(1, .imm (.int .i64) .unit), (5, .slf 5530 (.int .i64)), (6, .imm .bool .unit)], h := [(5530, .arr (.int .i64) true [])] })]
noncomputable def f88_s250 (ls : List P) : Tree Step :=
 .ite (decide ((lf ls 3).toInt < (((lf ls 0).xs).length : Int))) (
  .ite (!((lf ls 2).toBool)) (
   .ite (inb ((lf ls 3).toInt) (((lf ls 0).xs).length)) (
    .ite (decide ((lf ls 1).toInt ≤ (rd ((lf ls 0).xs) (((lf ls 3).toInt).toNat)).toInt)) (
     .ite (decide ((((lf ls 4).xs).length + 1) * 8 ≤ 140737488355328)) (
      .ite (inb ((lf ls 3).toInt) (((lf ls 0).xs).length)) (
       .ite (((lf ls 1).toInt) == ((rd ((lf ls 0).xs) (((lf ls 3).toInt).toNat)).toInt)) (
        .ret (.inl [lf ls 0, lf ls 1, .bool true, .int .i64 (IntKind.i64.wrap (((lf ls 3).toInt) + (1 : Int))), .list (((lf ls 4).isNil) && false) (((lf ls 4).xs) ++ [lf ls 1])])) (
        .ite (inb ((lf ls 3).toInt) (((lf ls 0).xs).length)) (
         .ite (decide (((((lf ls 4).xs) ++ [lf ls 1]).length + 1) * 8 ≤ 140737488355328)) (
          .ret (.inl [lf ls 0, lf ls 1, .bool true, .int .i64 (IntKind.i64.wrap (((lf ls 3).toInt) + (1 : Int))), .list ((((lf ls 4).isNil) && false) && false) ((((lf ls 4).xs) ++ [lf ls 1]) ++ [rd ((lf ls 0).xs) (((lf ls 3).toInt).toNat)])])) (
          .fail)) (
         .fail))) (
       .fail)) (
      .fail)) (
     .ite (inb ((lf ls 3).toInt) (((lf ls 0).xs).length)) (
      .ite (decide ((((lf ls 4).xs).length + 1) * 8 ≤ 140737488355328)) (
       .ret (.inl [lf ls 0, lf ls 1, lf ls 2, .int .i64 (IntKind.i64.wrap (((lf ls 3).toInt) + (1 : Int))), .list (((lf ls 4).isNil) && false) (((lf ls 4).xs) ++ [rd ((lf ls 0).xs) (((lf ls 3).toInt).toNat)])])) (
       .fail)) (
      .fail))) (
    .fail)) (
   .ite (inb ((lf ls 3).toInt) (((lf ls 0).xs).length)) (
    .ite (decide ((((lf ls 4).xs).length + 1) * 8 ≤ 140737488355328)) (
     .ret (.inl [lf ls 0, lf ls 1, lf ls 2, .int .i64 (IntKind.i64.wrap (((lf ls 3).toInt) + (1 : Int))), .list (((lf ls 4).isNil) && false) (((lf ls 4).xs) ++ [rd ((lf ls 0).xs) (((lf ls 3).toInt).toNat)])])) (
     .fail)) (
    .fail))) (
  .ret (.inr (0, [lf ls 1, lf ls 2, .list ((lf ls 4).isNil) ((lf ls 4).xs)])))
noncomputable def f88_k1 : Sk := { t := [(0, .imm (.slice (.int .i64)) .unit), (1, .imm (.int .i64) .unit)], h := [] }
noncomputable def f88_o1 : List (Out × Sk) := [(.ret, { t := [(4, .slf 4030 (.int .i64))], h := [(4030, .arr (.int .i64) true [])] })]
noncomputable def f88_s1 (ls : List P) : Tree (Nat × List P) :=
 .loop (loopT f88_s250 FUEL [lf ls 0, .int .i64 (mmx false (mmx true ((lf ls 1).toInt) (0 : Int)) (1000000000 : Int)), .bool false, .int .i64 (0 : Int), .list true []]) fun y1 =>
  .ite (Nat.beq y1.1 0) (
   .ite (!((lf y1.2 1).toBool)) (
    .ite (decide ((((lf y1.2 2).xs).length + 1) * 8 ≤ 140737488355328)) (
     .ret (0, [.list (((lf y1.2 2).isNil) && false) (((lf y1.2 2).xs) ++ [lf y1.2 0])])) (
     .fail)) (
    .ret (0, [.list ((lf y1.2 2).isNil) ((lf y1.2 2).xs)]))) (
   .fail)
noncomputable def f88_t (ps : List P) : Tree (Nat × List P) :=
 .loop ((f88_s1 [lf ps 0, lf ps 1]).run some) fun y2 =>
  .ite (Nat.beq y2.1 0) (
   .ret (0, [.list ((lf y2.2 0).isNil) ((lf y2.2 0).xs)])) (
   .fail)
noncomputable def f88_v (ps : List P) : Option (Nat × List P) := (f88_t ps).run some
noncomputable def f88_e : EntD := ⟨88, [.imm (.slice (.int .i64)), .imm (.int .i64)], f88_v, [fun ps ls qs => ⟨[.own (ls.getD 2029 0) (.int .i64) (lf qs 0).isNil (lf qs 0).xs], [.imm (.slice (.int .i64)) (lf ps 0), .imm (.int .i64) (lf ps 1)]⟩]⟩
noncomputable def f88_u : List Cu := [.loop 250 f88_k250 f88_o250 f88_s250, .cut 1 f88_k1 f88_o1 f88_s1]
noncomputable def f88_c : Cx := ⟨Try.prog, envOf [], 51, lOf f88_u⟩
noncomputable def f88_b : Code := match Try.f88.body with | some b => b | none => .skip
theorem f88_q250 : (Cu.loop 250 f88_k250 f88_o250 f88_s250).Ok f88_c f88_b := ⟨by kernel_rfl, fun ls Kr Kx => by kernel_rfl⟩
theorem f88_q1 : (Cu.cut 1 f88_k1 f88_o1 f88_s1).Ok f88_c f88_b := ⟨by kernel_rfl, fun ls Kx => by kernel_rfl⟩
theorem f88_x (ps : List P) (ls : List Nat) : execFn f88_c 88 f88_e.tm (explF ps 2 0) ls = (f88_t ps).run fun q => altR (f88_e.res.map fun f => f ps ls) 0 q some := by kernel_rfl
theorem f88_ok : OkEnt Try.prog f88_e := ent_ok (c := f88_c) (g := 88) (body := f88_b) (us := f88_u) (n := 2) (t := f88_t) (good_envOf _ trivial) Try.func88 rfl Try.call88 rfl ⟨f88_q250, f88_q1, trivial⟩ (by kernel_rfl) f88_x (fun _ => rfl)
/-! ### comprador/compradorref06.cuts -/
noncomputable def f66_k122 : Sk := { t := [(1, .imm (.slice (.pair (.int .i64) (.pair (.int .i64) .unit))) .unit), (5, .slf 5700 (.int .i64)), (7, .imm (.int .i64) .unit)], h := [(5700, .arr (.int .i64) true [])] }
noncomputable def f66_o122 : List (Out × Sk) := [((.exit 2), { t := [(5, .slf 5730 (.int .i64))], h := [(5730, .arr (.int .i64) true [])] })]
noncomputable def f66_s122 (ls : List P) : Tree Step :=
 .ite (decide ((lf ls 1).toInt < (((lf ls 0).xs).length : Int))) (
  .ite (inb ((lf ls 1).toInt) (((lf ls 0).xs).length)) (
   .ite (inb ((lf ls 1).toInt) (((lf ls 0).xs).length)) (
    .loop (f88_v [.list ((lf ls 2).isNil) ((lf ls 2).xs), (rd ((lf ls 0).xs) (((lf ls 1).toInt).toNat)).fst]) fun x4 =>
     .ite (Nat.beq x4.1 0) (
      .loop (f88_v [.list ((lf x4.2 0).isNil) ((lf x4.2 0).xs), ((rd ((lf ls 0).xs) (((lf ls 1).toInt).toNat)).snd).fst]) fun x5 =>
       .ite (Nat.beq x5.1 0) (
        .ret (.inl [lf ls 0, .int .i64 (IntKind.i64.wrap (((lf ls 1).toInt) + (1 : Int))), .list ((lf x5.2 0).isNil) ((lf x5.2 0).xs)])) (
        .fail)) (
      .fail)) (
    .fail)) (
   .fail)) (
  .ret (.inr (0, [.list ((lf ls 2).isNil) ((lf ls 2).xs)])))
noncomputable def f66_k58 : Sk := { t := [(0, .imm (.slice (.pair (.int .i64) (.pair (.int .i64) .unit))) .unit), (1, .imm (.slice (.pair (.int .i64) (.pair (.int .i64) .unit))) .unit), (5, .slf 5100 (.int .i64)), (6, .imm (.int .i64) .unit)], h := [(5100, .arr (.int .i64) true [])] }
noncomputable def f66_o58 : List (Out × Sk) := [((.exit 0), { t := [(1, .imm (.slice (.pair (.int .i64) (.pair (.int .i64) .unit))) .unit), (5, .slf 5130 (.int .i64))], h := [(5130, .arr (.int .i64) true [])] })]
noncomputable def f66_s58 (ls : List P) : Tree Step :=
 .ite (decide ((lf ls 2).toInt < (((lf ls 0).xs).length : Int))) (
  .ite (inb ((lf ls 2).toInt) (((lf ls 0).xs).length)) (
   .ite (inb ((lf ls 2).toInt) (((lf ls 0).xs).length)) (
    .loop (f88_v [.list ((lf ls 3).isNil) ((lf ls 3).xs), (rd ((lf ls 0).xs) (((lf ls 2).toInt).toNat)).fst]) fun x1 =>
     .ite (Nat.beq x1.1 0) (
      .loop (f88_v [.list ((lf x1.2 0).isNil) ((lf x1.2 0).xs), ((rd ((lf ls 0).xs) (((lf ls 2).toInt).toNat)).snd).fst]) fun x2 =>
       .ite (Nat.beq x2.1 0) (
        .ret (.inl [lf ls 0, lf ls 1, .int .i64 (IntKind.i64.wrap (((lf ls 2).toInt) + (1 : Int))), .list ((lf x2.2 0).isNil) ((lf x2.2 0).xs)])) (
        .fail)) (
      .fail)) (
    .fail)) (
   .fail)) (
  .ret (.inr (0, [lf ls 1, .list ((lf ls 3).isNil) ((lf ls 3).xs)])))
noncomputable def f66_t (ps : List P) : Tree (Nat × List P) :=
 .loop (loopT f66_s58 FUEL [lf ps 0, lf ps 1, .int .i64 (0 : Int), .list false [.int .i64 (0 : Int), .int .i64 (1000000000 : Int)]]) fun y3 =>
  .ite (Nat.beq y3.1 0) (
   .loop (loopT f66_s122 FUEL [lf y3.2 0, .int .i64 (0 : Int), .list ((lf y3.2 1).isNil) ((lf y3.2 1).xs)]) fun y6 =>
    .ite (Nat.beq y6.1 0) (
     .ret (0, [.list ((lf y6.2 0).isNil) ((lf y6.2 0).xs)])) (
     .fail)) (
   .fail)
noncomputable def f66_v (ps : List P) : Option (Nat × List P) := (f66_t ps).run some
noncomputable def f66_e : EntD := ⟨66, [.imm (.slice (.pair (.int .i64) (.pair (.int .i64) .unit))), .imm (.slice (.pair (.int .i64) (.pair (.int .i64) .unit)))], f66_v, [fun ps ls qs => ⟨[.own (ls.getD 3729 0) (.int .i64) (lf qs 0).isNil (lf qs 0).xs], [.imm (.slice (.pair (.int .i64) (.pair (.int .i64) .unit))) (lf ps 0), .imm (.slice (.pair (.int .i64) (.pair (.int .i64) .unit))) (lf ps 1)]⟩]⟩
noncomputable def f66_u : List Cu := [.loop 122 f66_k122 f66_o122 f66_s122, .loop 58 f66_k58 f66_o58 f66_s58]
noncomputable def f66_c : Cx := ⟨Try.prog, envOf [f88_e], 48, lOf f66_u⟩
noncomputable def f66_b : Code := match Try.f66.body with | some b => b | none => .skip
theorem f66_q122 : (Cu.loop 122 f66_k122 f66_o122 f66_s122).Ok f66_c f66_b := ⟨by kernel_rfl, fun ls Kr Kx => by kernel_rfl⟩
theorem f66_q58 : (Cu.loop 58 f66_k58 f66_o58 f66_s58).Ok f66_c f66_b := ⟨by kernel_rfl, fun ls Kr Kx => by kernel_rfl⟩
theorem f66_x (ps : List P) (ls : List Nat) : execFn f66_c 66 f66_e.tm (explF ps 2 0) ls = (f66_t ps).run fun q => altR (f66_e.res.map fun f => f ps ls) 0 q some := by kernel_rfl
theorem f66_ok : OkEnt Try.prog f66_e := ent_ok (c := f66_c) (g := 66) (body := f66_b) (us := f66_u) (n := 2) (t := f66_t) (good_envOf _ ⟨f88_ok, trivial⟩) Try.func66 rfl Try.call66 rfl ⟨f66_q122, f66_q58, trivial⟩ (by kernel_rfl) f66_x (fun _ => rfl)
/-! ### comprador/compradorref06.Has -/
noncomputable def f45_k26 : Sk := { t := [(0, .imm (.slice (.pair (.int .i64) (.pair (.int .i64) .unit))) .unit), (1, .imm (.int .i64) .unit), (5, .imm (.int .i64) .unit)], h := [] }
noncomputable def f45_o26 : List (Out × Sk) := [(.ret, { t := [(4, .imm .bool .unit)], h := [] }), ((.exit 0), { t := [], h := [] })]
noncomputable def f45_s26 (ls : List P) : Tree Step :=
 .ite (decide ((lf ls 2).toInt < (((lf ls 0).xs).length : Int))) (
  .ite (inb ((lf ls 2).toInt) (((lf ls 0).xs).length)) (
   .ite (decide (((rd ((lf ls 0).xs) (((lf ls 2).toInt).toNat)).fst).toInt ≤ (lf ls 1).toInt)) (
    .ite (inb ((lf ls 2).toInt) (((lf ls 0).xs).length)) (
     .ite (decide ((lf ls 1).toInt < (((rd ((lf ls 0).xs) (((lf ls 2).toInt).toNat)).snd).fst).toInt)) (
      .ite (decide ((lf ls 1).toInt ≥ (0 : Int))) (
       .ret (.inr (0, [.bool (decide ((lf ls 1).toInt < (1000000000 : Int)))]))) (
       .ret (.inr (0, [.bool false])))) (
      .ret (.inl [lf ls 0, lf ls 1, .int .i64 (IntKind.i64.wrap (((lf ls 2).toInt) + (1 : Int)))]))) (
     .fail)) (
    .ret (.inl [lf ls 0, lf ls 1, .int .i64 (IntKind.i64.wrap (((lf ls 2).toInt) + (1 : Int)))]))) (
   .fail)) (
  .ret (.inr (1, [])))
noncomputable def f45_t (ps : List P) : Tree (Nat × List P) :=
 .loop (loopT f45_s26 FUEL [lf ps 0, lf ps 1, .int .i64 (0 : Int)]) fun y1 =>
  .ite (Nat.beq y1.1 0) (
   .ret (0, [lf y1.2 0])) (
   .ite (Nat.beq y1.1 1) (
    .ret (0, [.bool false])) (
    .fail))
noncomputable def f45_v (ps : List P) : Option (Nat × List P) := (f45_t ps).run some
noncomputable def f45_e : EntD := ⟨45, [.imm (.slice (.pair (.int .i64) (.pair (.int .i64) .unit))), .imm (.int .i64)], f45_v, [fun ps ls qs => ⟨[.imm .bool (lf qs 0)], [.imm (.slice (.pair (.int .i64) (.pair (.int .i64) .unit))) (lf ps 0), .imm (.int .i64) (lf ps 1)]⟩]⟩
noncomputable def f45_u : List Cu := [.loop 26 f45_k26 f45_o26 f45_s26]
noncomputable def f45_c : Cx := ⟨Try.prog, envOf [], 34, lOf f45_u⟩
noncomputable def f45_b : Code := match Try.f45.body with | some b => b | none => .skip
theorem f45_q26 : (Cu.loop 26 f45_k26 f45_o26 f45_s26).Ok f45_c f45_b := ⟨by kernel_rfl, fun ls Kr Kx => by kernel_rfl⟩
theorem f45_x (ps : List P) (ls : List Nat) : execFn f45_c 45 f45_e.tm (explF ps 2 0) ls = (f45_t ps).run fun q => altR (f45_e.res.map fun f => f ps ls) 0 q some := by kernel_rfl
theorem f45_ok : OkEnt Try.prog f45_e := ent_ok (c := f45_c) (g := 45) (body := f45_b) (us := f45_u) (n := 2) (t := f45_t) (good_envOf _ trivial) Try.func45 rfl Try.call45 rfl ⟨f45_q26, trivial⟩ (by kernel_rfl) f45_x (fun _ => rfl)
/-! ### comprador/compradorref06.told -/
noncomputable def f67_t (ps : List P) : Tree (Nat × List P) :=
 .ite (((lf ps 0).toInt) == (0 : Int)) (
  .ite ((lf ps 1).toBool) (
   .ret (0, [.bool true])) (
   .ret (0, [lf ps 2]))) (
  .ite (((lf ps 0).toInt) == (1 : Int)) (
   .ite ((lf ps 1).toBool) (
    .ret (0, [lf ps 2])) (
    .ret (0, [.bool false]))) (
   .ret (0, [.bool (!((lf ps 1).toBool))])))
noncomputable def f67_v (ps : List P) : Option (Nat × List P) := (f67_t ps).run some
noncomputable def f67_e : EntD := ⟨67, [.imm (.int .i64), .imm .bool, .imm .bool], f67_v, [fun ps ls qs => ⟨[.imm .bool (lf qs 0)], [.imm (.int .i64) (lf ps 0), .imm .bool (lf ps 1), .imm .bool (lf ps 2)]⟩]⟩
noncomputable def f67_u : List Cu := []
noncomputable def f67_c : Cx := ⟨Try.prog, envOf [], 21, lOf f67_u⟩
noncomputable def f67_b : Code := match Try.f67.body with | some b => b | none => .skip
theorem f67_x (ps : List P) (ls : List Nat) : execFn f67_c 67 f67_e.tm (explF ps 3 0) ls = (f67_t ps).run fun q => altR (f67_e.res.map fun f => f ps ls) 0 q some := by kernel_rfl
theorem f67_ok : OkEnt Try.prog f67_e := ent_ok (c := f67_c) (g := 67) (body := f67_b) (us := f67_u) (n := 3) (t := f67_t) (good_envOf _ trivial) Try.func67 rfl Try.call67 rfl trivial (by kernel_rfl) f67_x (fun _ => rfl)
/-! ### comprador/compradorref06.Do -/
noncomputable def f60_k122 : Sk := { t := [(0, .imm (.int .i64) .unit), (1, .imm (.slice (.pair (.int .i64) (.pair (.int .i64) .unit))) .unit), (2, .imm (.slice (.pair (.int .i64) (.pair (.int .i64) .unit))) .unit), (7, .slf 5300 (.pair (.int .i64) (.pair (.int .i64) .unit))), (8, .slf 5301 (.int .i64)), (9, .imm (.int .i64) .unit)], h := [(5300, .arr (.pair (.int .i64) (.pair (.int .i64) .unit)) true []), (5301, .arr (.int .i64) true [])] }
noncomputable def f60_o122 : List (Out × Sk) := [((.exit 0), { t := [(7, .slf 5330 (.pair (.int .i64) (.pair (.int .i64) .unit)))], h := [(5330, .arr (.pair (.int .i64) (.pair (.int .i64) .unit)) true [])] })]
noncomputable def f60_s122 (ls : List P) : Tree Step :=
 .ite (decide (IntKind.i64.wrap (((lf ls 3).toInt) + (1 : Int)) < (((lf ls 5).xs).length : Int))) (
  .ite (inb ((lf ls 3).toInt) (((lf ls 5).xs).length)) (
   .ite (inb ((lf ls 3).toInt) (((lf ls 5).xs).length)) (
    .loop (f45_v [lf ls 1, rd ((lf ls 5).xs) (((lf ls 3).toInt).toNat)]) fun x2 =>
     .ite (Nat.beq x2.1 0) (
      .loop (f45_v [lf ls 2, rd ((lf ls 5).xs) (((lf ls 3).toInt).toNat)]) fun x3 =>
       .ite (Nat.beq x3.1 0) (
        .loop (f67_v [lf ls 0, lf x2.2 0, lf x3.2 0]) fun x4 =>
         .ite (Nat.beq x4.1 0) (
          .ite (!((lf x4.2 0).toBool)) (
           .ret (.inl [lf ls 0, lf ls 1, lf ls 2, .int .i64 (IntKind.i64.wrap (((lf ls 3).toInt) + (1 : Int))), .list ((lf ls 4).isNil) ((lf ls 4).xs), .list ((lf ls 5).isNil) ((lf ls 5).xs)])) (
           .ite (decide (IntKind.i64.wrap ((((lf ls 4).xs).length : Int) - (1 : Int)) ≥ (0 : Int))) (
            .ite (inb (IntKind.i64.wrap ((((lf ls 4).xs).length : Int) - (1 : Int))) (((lf ls 4).xs).length)) (
             .ite (inb ((lf ls 3).toInt) (((lf ls 5).xs).length)) (
              .ite (((((rd ((lf ls 4).xs) ((IntKind.i64.wrap ((((lf ls 4).xs).length : Int) - (1 : Int))).toNat)).snd).fst).toInt) == ((rd ((lf ls 5).xs) (((lf ls 3).toInt).toNat)).toInt)) (
               .ite (inb (IntKind.i64.wrap ((((lf ls 4).xs).length : Int) - (1 : Int))) (((lf ls 4).xs).length)) (
                .ite (inb (IntKind.i64.wrap (((lf ls 3).toInt) + (1 : Int))) (((lf ls 5).xs).length)) (
                 .ite (inb (IntKind.i64.wrap ((((lf ls 4).xs).length : Int) - (1 : Int))) (((lf ls 4).xs).length)) (
                  .ret (.inl [lf ls 0, lf ls 1, lf ls 2, .int .i64 (IntKind.i64.wrap (((lf ls 3).toInt) + (1 : Int))), .list ((lf ls 4).isNil) (((lf ls 4).xs).set ((IntKind.i64.wrap ((((lf ls 4).xs).length : Int) - (1 : Int))).toNat) (.pair ((rd ((lf ls 4).xs) ((IntKind.i64.wrap ((((lf ls 4).xs).length : Int) - (1 : Int))).toNat)).fst) (.pair (rd ((lf ls 5).xs) ((IntKind.i64.wrap (((lf ls 3).toInt) + (1 : Int))).toNat)) .unit))), .list ((lf ls 5).isNil) ((lf ls 5).xs)])) (
                  .fail)) (
                 .fail)) (
                .fail)) (
               .ite (inb ((lf ls 3).toInt) (((lf ls 5).xs).length)) (
                .ite (inb (IntKind.i64.wrap (((lf ls 3).toInt) + (1 : Int))) (((lf ls 5).xs).length)) (
                 .ite (decide ((((lf ls 4).xs).length + 1) * 16 ≤ 140737488355328)) (
                  .ret (.inl [lf ls 0, lf ls 1, lf ls 2, .int .i64 (IntKind.i64.wrap (((lf ls 3).toInt) + (1 : Int))), .list (((lf ls 4).isNil) && false) (((lf ls 4).xs) ++ [.pair (rd ((lf ls 5).xs) (((lf ls 3).toInt).toNat)) (.pair (rd ((lf ls 5).xs) ((IntKind.i64.wrap (((lf ls 3).toInt) + (1 : Int))).toNat)) .unit)]), .list ((lf ls 5).isNil) ((lf ls 5).xs)])) (
                  .fail)) (
                 .fail)) (
                .fail))) (
              .fail)) (
             .fail)) (
            .ite (inb ((lf ls 3).toInt) (((lf ls 5).xs).length)) (
             .ite (inb (IntKind.i64.wrap (((lf ls 3).toInt) + (1 : Int))) (((lf ls 5).xs).length)) (
              .ite (decide ((((lf ls 4).xs).length + 1) * 16 ≤ 140737488355328)) (
               .ret (.inl [lf ls 0, lf ls 1, lf ls 2, .int .i64 (IntKind.i64.wrap (((lf ls 3).toInt) + (1 : Int))), .list (((lf ls 4).isNil) && false) (((lf ls 4).xs) ++ [.pair (rd ((lf ls 5).xs) (((lf ls 3).toInt).toNat)) (.pair (rd ((lf ls 5).xs) ((IntKind.i64.wrap (((lf ls 3).toInt) + (1 : Int))).toNat)) .unit)]), .list ((lf ls 5).isNil) ((lf ls 5).xs)])) (
               .fail)) (
              .fail)) (
             .fail)))) (
          .fail)) (
        .fail)) (
      .fail)) (
    .fail)) (
   .fail)) (
  .ret (.inr (0, [.list ((lf ls 4).isNil) ((lf ls 4).xs)])))
noncomputable def f60_t (ps : List P) : Tree (Nat × List P) :=
 .loop (f66_v [lf ps 1, lf ps 2]) fun x1 =>
  .ite (Nat.beq x1.1 0) (
   .loop (loopT f60_s122 FUEL [lf ps 0, lf ps 1, lf ps 2, .int .i64 (0 : Int), .list true [], .list ((lf x1.2 0).isNil) ((lf x1.2 0).xs)]) fun y5 =>
    .ite (Nat.beq y5.1 0) (
     .ret (0, [.list ((lf y5.2 0).isNil) ((lf y5.2 0).xs)])) (
     .fail)) (
   .fail)
noncomputable def f60_v (ps : List P) : Option (Nat × List P) := (f60_t ps).run some
noncomputable def f60_e : EntD := ⟨60, [.imm (.int .i64), .imm (.slice (.pair (.int .i64) (.pair (.int .i64) .unit))), .imm (.slice (.pair (.int .i64) (.pair (.int .i64) .unit)))], f60_v, [fun ps ls qs => ⟨[.own (ls.getD 3329 0) (.pair (.int .i64) (.pair (.int .i64) .unit)) (lf qs 0).isNil (lf qs 0).xs], [.imm (.int .i64) (lf ps 0), .imm (.slice (.pair (.int .i64) (.pair (.int .i64) .unit))) (lf ps 1), .imm (.slice (.pair (.int .i64) (.pair (.int .i64) .unit))) (lf ps 2)]⟩]⟩
noncomputable def f60_u : List Cu := [.loop 122 f60_k122 f60_o122 f60_s122]
noncomputable def f60_c : Cx := ⟨Try.prog, envOf [f45_e, f66_e, f67_e], 81, lOf f60_u⟩
noncomputable def f60_b : Code := match Try.f60.body with | some b => b | none => .skip
theorem f60_q122 : (Cu.loop 122 f60_k122 f60_o122 f60_s122).Ok f60_c f60_b := ⟨by kernel_rfl, fun ls Kr Kx => by kernel_rfl⟩
theorem f60_x (ps : List P) (ls : List Nat) : execFn f60_c 60 f60_e.tm (explF ps 3 0) ls = (f60_t ps).run fun q => altR (f60_e.res.map fun f => f ps ls) 0 q some := by kernel_rfl
theorem f60_ok : OkEnt Try.prog f60_e := ent_ok (c := f60_c) (g := 60) (body := f60_b) (us := f60_u) (n := 3) (t := f60_t) (good_envOf _ ⟨f45_ok, f66_ok, f67_ok, trivial⟩) Try.func60 rfl Try.call60 rfl ⟨f60_q122, trivial⟩ (by kernel_rfl) f60_x (fun _ => rfl)
/-! ### comprador/compradorref06.Union -/
noncomputable def f41_t (ps : List P) : Tree (Nat × List P) :=
 .loop (f60_v [.int .i64 (0 : Int), lf ps 0, lf ps 1]) fun x1 =>
  .ite (Nat.beq x1.1 0) (
   .ret (0, [.list ((lf x1.2 0).isNil) ((lf x1.2 0).xs)])) (
   .fail)
noncomputable def f41_v (ps : List P) : Option (Nat × List P) := (f41_t ps).run some
noncomputable def f41_e : EntD := ⟨41, [.imm (.slice (.pair (.int .i64) (.pair (.int .i64) .unit))), .imm (.slice (.pair (.int .i64) (.pair (.int .i64) .unit)))], f41_v, [fun ps ls qs => ⟨[.own (ls.getD 98699 0) (.pair (.int .i64) (.pair (.int .i64) .unit)) (lf qs 0).isNil (lf qs 0).xs], [.imm (.slice (.pair (.int .i64) (.pair (.int .i64) .unit))) (lf ps 0), .imm (.slice (.pair (.int .i64) (.pair (.int .i64) .unit))) (lf ps 1)]⟩]⟩
noncomputable def f41_u : List Cu := []
noncomputable def f41_c : Cx := ⟨Try.prog, envOf [f60_e], 8, lOf f41_u⟩
noncomputable def f41_b : Code := match Try.f41.body with | some b => b | none => .skip
theorem f41_x (ps : List P) (ls : List Nat) : execFn f41_c 41 f41_e.tm (explF ps 2 0) ls = (f41_t ps).run fun q => altR (f41_e.res.map fun f => f ps ls) 0 q some := by kernel_rfl
theorem f41_ok : OkEnt Try.prog f41_e := ent_ok (c := f41_c) (g := 41) (body := f41_b) (us := f41_u) (n := 2) (t := f41_t) (good_envOf _ ⟨f60_ok, trivial⟩) Try.func41 rfl Try.call41 rfl trivial (by kernel_rfl) f41_x (fun _ => rfl)
/-! ### comprador/compradorref09.Vers -/
noncomputable def f22_k58 : Sk := { t := [(1, .ref 5100 [] (.pair .str (.pair (.slice (.pair (.int .i64) (.pair (.slice (.pair .str (.pair (.slice (.pair (.int .i64) (.pair (.int .i64) .unit))) .unit))) .unit))) .unit))), (3, .slf 5101 (.pair (.int .i64) (.pair (.int .i64) .unit))), (4, .imm (.int .i64) .unit)], h := [(5100, .obj (.pair .str (.pair (.slice (.pair (.int .i64) (.pair (.slice (.pair .str (.pair (.slice (.pair (.int .i64) (.pair (.int .i64) .unit))) .unit))) .unit))) .unit)) (.imm (.pair .str (.pair (.slice (.pair (.int .i64) (.pair (.slice (.pair .str (.pair (.slice (.pair (.int .i64) (.pair (.int .i64) .unit))) .unit))) .unit))) .unit)) .unit)), (5101, .arr (.pair (.int .i64) (.pair (.int .i64) .unit)) true [])] }
noncomputable def f22_o58 : List (Out × Sk) := [((.exit 0), { t := [(3, .slf 5130 (.pair (.int .i64) (.pair (.int .i64) .unit)))], h := [(5130, .arr (.pair (.int .i64) (.pair (.int .i64) .unit)) true [])] })]
noncomputable def f22_s58 (ls : List P) : Tree Step :=
 .ite (decide ((lf ls 0).toInt < (((((lf ls 1).snd).fst).xs).length : Int))) (
  .ite (inb ((lf ls 0).toInt) (((((lf ls 1).snd).fst).xs).length)) (
   .loop (f42_v [(rd ((((lf ls 1).snd).fst).xs) (((lf ls 0).toInt).toNat)).fst]) fun x1 =>
    .ite (Nat.beq x1.1 0) (
     .loop (f41_v [.list ((lf ls 2).isNil) ((lf ls 2).xs), .list ((lf x1.2 0).isNil) ((lf x1.2 0).xs)]) fun x2 =>
      .ite (Nat.beq x2.1 0) (
       .ret (.inl [.int .i64 (IntKind.i64.wrap (((lf ls 0).toInt) + (1 : Int))), lf ls 1, .list ((lf x2.2 0).isNil) ((lf x2.2 0).xs)])) (
       .fail)) (
     .fail)) (
   .fail)) (
  .ret (.inr (0, [.list ((lf ls 2).isNil) ((lf ls 2).xs)])))
noncomputable def f22_t (ps : List P) : Tree (Nat × List P) :=
 .loop (loopT f22_s58 FUEL [.int .i64 (0 : Int), lf ps 0, .list true []]) fun y3 =>
  .ite (Nat.beq y3.1 0) (
   .ret (0, [.list ((lf y3.2 0).isNil) ((lf y3.2 0).xs)])) (
   .fail)
noncomputable def f22_v (ps : List P) : Option (Nat × List P) := (f22_t ps).run some
noncomputable def f22_e : EntD := ⟨22, [.imm (.pair .str (.pair (.slice (.pair (.int .i64) (.pair (.slice (.pair .str (.pair (.slice (.pair (.int .i64) (.pair (.int .i64) .unit))) .unit))) .unit))) .unit))], f22_v, [fun ps ls qs => ⟨[.own (ls.getD 3129 0) (.pair (.int .i64) (.pair (.int .i64) .unit)) (lf qs 0).isNil (lf qs 0).xs], [.imm (.pair .str (.pair (.slice (.pair (.int .i64) (.pair (.slice (.pair .str (.pair (.slice (.pair (.int .i64) (.pair (.int .i64) .unit))) .unit))) .unit))) .unit)) (lf ps 0)]⟩]⟩
noncomputable def f22_u : List Cu := [.loop 58 f22_k58 f22_o58 f22_s58]
noncomputable def f22_c : Cx := ⟨Try.prog, envOf [f41_e, f42_e], 22, lOf f22_u⟩
noncomputable def f22_b : Code := match Try.f22.body with | some b => b | none => .skip
theorem f22_q58 : (Cu.loop 58 f22_k58 f22_o58 f22_s58).Ok f22_c f22_b := ⟨by kernel_rfl, fun ls Kr Kx => by kernel_rfl⟩
theorem f22_x (ps : List P) (ls : List Nat) : execFn f22_c 22 f22_e.tm (explF ps 1 0) ls = (f22_t ps).run fun q => altR (f22_e.res.map fun f => f ps ls) 0 q some := by kernel_rfl
theorem f22_ok : OkEnt Try.prog f22_e := ent_ok (c := f22_c) (g := 22) (body := f22_b) (us := f22_u) (n := 1) (t := f22_t) (good_envOf _ ⟨f41_ok, f42_ok, trivial⟩) Try.func22 rfl Try.call22 rfl ⟨f22_q58, trivial⟩ (by kernel_rfl) f22_x (fun _ => rfl)
/-! ### comprador/mani.Names -/
noncomputable def f24_k31334 : Sk := { t := [(3, .blk 7000 (.mp .str .bool)), (4, .slf 7001 .str), (11, .imm (.slice (.pair (.int .i64) (.pair (.slice (.pair .str (.pair (.slice (.pair (.int .i64) (.pair (.int .i64) .unit))) .unit))) .unit))) .unit), (12, .imm (.int .i64) .unit), (13, .imm (.int .i64) .unit), (18, .imm (.slice (.pair .str (.pair (.slice (.pair (.int .i64) (.pair (.int .i64) .unit))) .unit))) .unit), (19, .imm (.int .i64) .unit), (20, .imm (.int .i64) .unit)], h := [(7000, .blk (.mp .str .bool) .unit), (7001, .arr .str true [])] }
noncomputable def f24_o31334 : List (Out × Sk) := [((.exit 2), { t := [(3, .blk 7030 (.mp .str .bool)), (4, .slf 7031 .str), (11, .imm (.slice (.pair (.int .i64) (.pair (.slice (.pair .str (.pair (.slice (.pair (.int .i64) (.pair (.int .i64) .unit))) .unit))) .unit))) .unit), (12, .imm (.int .i64) .unit), (13, .imm (.int .i64) .unit)], h := [(7030, .blk (.mp .str .bool) .unit), (7031, .arr .str true [])] })]
noncomputable def f24_s31334 (ls : List P) : Tree Step :=
 .ite (decide ((lf ls 5).toInt < (lf ls 4).toInt)) (
  .ite (inb ((lf ls 5).toInt) (((lf ls 3).xs).length)) (
   .ite (!((lookP .str ((rd ((lf ls 3).xs) (((lf ls 5).toInt).toNat)).fst) (.bool false) ((lf ls 6).xs)).toBool)) (
    .ite (decide ((((lf ls 7).xs).length + 1) * 16 ≤ 140737488355328)) (
     .ret (.inl [lf ls 0, lf ls 1, lf ls 2, lf ls 3, lf ls 4, .int .i64 (IntKind.i64.wrap (((lf ls 5).toInt) + (1 : Int))), .list false (updP .str ((rd ((lf ls 3).xs) (((lf ls 5).toInt).toNat)).fst) (.bool true) ((lf ls 6).xs)), .list (((lf ls 7).isNil) && false) (((lf ls 7).xs) ++ [(rd ((lf ls 3).xs) (((lf ls 5).toInt).toNat)).fst])])) (
     .fail)) (
    .ret (.inl [lf ls 0, lf ls 1, lf ls 2, lf ls 3, lf ls 4, .int .i64 (IntKind.i64.wrap (((lf ls 5).toInt) + (1 : Int))), lf ls 6, .list ((lf ls 7).isNil) ((lf ls 7).xs)]))) (
   .fail)) (
  .ret (.inr (0, [lf ls 0, lf ls 1, lf ls 2, lf ls 6, .list ((lf ls 7).isNil) ((lf ls 7).xs)])))
noncomputable def f24_k122 : Sk := { t := [(3, .blk 5300 (.mp .str .bool)), (4, .slf 5301 .str), (11, .imm (.slice (.pair (.int .i64) (.pair (.slice (.pair .str (.pair (.slice (.pair (.int .i64) (.pair (.int .i64) .unit))) .unit))) .unit))) .unit), (12, .imm (.int .i64) .unit), (13, .imm (.int .i64) .unit)], h := [(5300, .blk (.mp .str .bool) .unit), (5301, .arr .str true [])] }
noncomputable def f24_o122 : List (Out × Sk) := [((.exit 0), { t := [(4, .slf 5330 .str)], h := [(5330, .arr .str true [])] })]
noncomputable def f24_s122 (ls : List P) : Tree Step :=
 .ite (decide ((lf ls 2).toInt < (lf ls 1).toInt)) (
  .ite (inb ((lf ls 2).toInt) (((lf ls 0).xs).length)) (
   .loop (loopT f24_s31334 FUEL [lf ls 0, lf ls 1, lf ls 2, ((rd ((lf ls 0).xs) (((lf ls 2).toInt).toNat)).snd).fst, .int .i64 (((((rd ((lf ls 0).xs) (((lf ls 2).toInt).toNat)).snd).fst).xs).length : Int), .int .i64 (0 : Int), lf ls 3, .list ((lf ls 4).isNil) ((lf ls 4).xs)]) fun y1 =>
    .ite (Nat.beq y1.1 0) (
     .ret (.inl [lf y1.2 0, lf y1.2 1, .int .i64 (IntKind.i64.wrap (((lf y1.2 2).toInt) + (1 : Int))), lf y1.2 3, .list ((lf y1.2 4).isNil) ((lf y1.2 4).xs)])) (
     .fail)) (
   .fail)) (
  .ret (.inr (0, [.list ((lf ls 4).isNil) ((lf ls 4).xs)])))
noncomputable def f24_t (ps : List P) : Tree (Nat × List P) :=
 .loop (loopT f24_s122 FUEL [((lf ps 0).snd).fst, .int .i64 (((((lf ps 0).snd).fst).xs).length : Int), .int .i64 (0 : Int), .list false [], .list true []]) fun y2 =>
  .ite (Nat.beq y2.1 0) (
   .loop (sortstr43_v [.list ((lf y2.2 0).isNil) ((lf y2.2 0).xs)]) fun x3 =>
    .ite (Nat.beq x3.1 0) (
     .ret (0, [.list ((lf x3.2 0).isNil) ((lf x3.2 0).xs)])) (
     .fail)) (
   .fail)
noncomputable def f24_v (ps : List P) : Option (Nat × List P) := (f24_t ps).run some
noncomputable def f24_e : EntD := ⟨24, [.imm (.pair .str (.pair (.slice (.pair (.int .i64) (.pair (.slice (.pair .str (.pair (.slice (.pair (.int .i64) (.pair (.int .i64) .unit))) .unit))) .unit))) .unit))], f24_v, [fun ps ls qs => ⟨[.own (ls.getD 3329 0) .str (lf qs 0).isNil (lf qs 0).xs], [.imm (.pair .str (.pair (.slice (.pair (.int .i64) (.pair (.slice (.pair .str (.pair (.slice (.pair (.int .i64) (.pair (.int .i64) .unit))) .unit))) .unit))) .unit)) (lf ps 0)]⟩]⟩
noncomputable def f24_u : List Cu := [.loop 31334 f24_k31334 f24_o31334 f24_s31334, .loop 122 f24_k122 f24_o122 f24_s122]
noncomputable def f24_c : Cx := ⟨Try.prog, envOf [sortstr43_e], 42, lOf f24_u⟩
noncomputable def f24_b : Code := match Try.f24.body with | some b => b | none => .skip
theorem f24_q31334 : (Cu.loop 31334 f24_k31334 f24_o31334 f24_s31334).Ok f24_c f24_b := ⟨by kernel_rfl, fun ls Kr Kx => by kernel_rfl⟩
theorem f24_q122 : (Cu.loop 122 f24_k122 f24_o122 f24_s122).Ok f24_c f24_b := ⟨by kernel_rfl, fun ls Kr Kx => by kernel_rfl⟩
theorem f24_x (ps : List P) (ls : List Nat) : execFn f24_c 24 f24_e.tm (explF ps 1 0) ls = (f24_t ps).run fun q => altR (f24_e.res.map fun f => f ps ls) 0 q some := by kernel_rfl
theorem f24_ok : OkEnt Try.prog f24_e := ent_ok (c := f24_c) (g := 24) (body := f24_b) (us := f24_u) (n := 1) (t := f24_t) (good_envOf _ ⟨sortstr43_ok, trivial⟩) Try.func24 rfl Try.call24 rfl ⟨f24_q31334, f24_q122, trivial⟩ (by kernel_rfl) f24_x (fun _ => rfl)
/-! ### comprador/compradorref09.Add -/
noncomputable def f44_k122 : Sk := { t := [(0, .imm (.slice .str) .unit), (1, .imm .str .unit), (5, .slf 5300 .str), (6, .imm .bool .unit), (7, .imm (.int .i64) .unit)], h := [(5300, .arr .str true [])] }
noncomputable def f44_o122 : List (Out × Sk) := [((.exit 0), { t := [(1, .imm .str .unit), (5, .slf 5330 .str), (6, .imm .bool .unit)], h := [(5330, .arr .str true [])] })]
noncomputable def f44_s122 (ls : List P) : Tree Step :=
 .ite (decide ((lf ls 3).toInt < (((lf ls 0).xs).length : Int))) (
  .ite (!((lf ls 2).toBool)) (
   .ite (inb ((lf ls 3).toInt) (((lf ls 0).xs).length)) (
    .ite (strLt ((lf ls 1).toStr) ((rd ((lf ls 0).xs) (((lf ls 3).toInt).toNat)).toStr) || strEq ((lf ls 1).toStr) ((rd ((lf ls 0).xs) (((lf ls 3).toInt).toNat)).toStr)) (
     .ite (decide ((((lf ls 4).xs).length + 1) * 16 ≤ 140737488355328)) (
      .ite (inb ((lf ls 3).toInt) (((lf ls 0).xs).length)) (
       .ite (strEq ((lf ls 1).toStr) ((rd ((lf ls 0).xs) (((lf ls 3).toInt).toNat)).toStr)) (
        .ret (.inl [lf ls 0, lf ls 1, .bool true, .int .i64 (IntKind.i64.wrap (((lf ls 3).toInt) + (1 : Int))), .list (((lf ls 4).isNil) && false) (((lf ls 4).xs) ++ [lf ls 1])])) (
        .ite (inb ((lf ls 3).toInt) (((lf ls 0).xs).length)) (
         .ite (decide (((((lf ls 4).xs) ++ [lf ls 1]).length + 1) * 16 ≤ 140737488355328)) (
          .ret (.inl [lf ls 0, lf ls 1, .bool true, .int .i64 (IntKind.i64.wrap (((lf ls 3).toInt) + (1 : Int))), .list ((((lf ls 4).isNil) && false) && false) ((((lf ls 4).xs) ++ [lf ls 1]) ++ [rd ((lf ls 0).xs) (((lf ls 3).toInt).toNat)])])) (
          .fail)) (
         .fail))) (
       .fail)) (
      .fail)) (
     .ite (inb ((lf ls 3).toInt) (((lf ls 0).xs).length)) (
      .ite (decide ((((lf ls 4).xs).length + 1) * 16 ≤ 140737488355328)) (
       .ret (.inl [lf ls 0, lf ls 1, lf ls 2, .int .i64 (IntKind.i64.wrap (((lf ls 3).toInt) + (1 : Int))), .list (((lf ls 4).isNil) && false) (((lf ls 4).xs) ++ [rd ((lf ls 0).xs) (((lf ls 3).toInt).toNat)])])) (
       .fail)) (
      .fail))) (
    .fail)) (
   .ite (inb ((lf ls 3).toInt) (((lf ls 0).xs).length)) (
    .ite (decide ((((lf ls 4).xs).length + 1) * 16 ≤ 140737488355328)) (
     .ret (.inl [lf ls 0, lf ls 1, lf ls 2, .int .i64 (IntKind.i64.wrap (((lf ls 3).toInt) + (1 : Int))), .list (((lf ls 4).isNil) && false) (((lf ls 4).xs) ++ [rd ((lf ls 0).xs) (((lf ls 3).toInt).toNat)])])) (
     .fail)) (
    .fail))) (
  .ret (.inr (0, [lf ls 1, lf ls 2, .list ((lf ls 4).isNil) ((lf ls 4).xs)])))
noncomputable def f44_k1 : Sk := { t := [(0, .imm (.slice .str) .unit), (1, .imm .str .unit)], h := [] }
noncomputable def f44_o1 : List (Out × Sk) := [(.ret, { t := [(4, .slf 4030 .str)], h := [(4030, .arr .str true [])] })]
noncomputable def f44_s1 (ls : List P) : Tree (Nat × List P) :=
 .loop (loopT f44_s122 FUEL [lf ls 0, lf ls 1, .bool false, .int .i64 (0 : Int), .list true []]) fun y1 =>
  .ite (Nat.beq y1.1 0) (
   .ite (!((lf y1.2 1).toBool)) (
    .ite (decide ((((lf y1.2 2).xs).length + 1) * 16 ≤ 140737488355328)) (
     .ret (0, [.list (((lf y1.2 2).isNil) && false) (((lf y1.2 2).xs) ++ [lf y1.2 0])])) (
     .fail)) (
    .ret (0, [.list ((lf y1.2 2).isNil) ((lf y1.2 2).xs)]))) (
   .fail)
noncomputable def f44_t (ps : List P) : Tree (Nat × List P) :=
 .loop ((f44_s1 [lf ps 0, lf ps 1]).run some) fun y2 =>
  .ite (Nat.beq y2.1 0) (
   .ret (0, [.list ((lf y2.2 0).isNil) ((lf y2.2 0).xs)])) (
   .fail)
noncomputable def f44_v (ps : List P) : Option (Nat × List P) := (f44_t ps).run some
noncomputable def f44_e : EntD := ⟨44, [.imm (.slice .str), .imm .str], f44_v, [fun ps ls qs => ⟨[.own (ls.getD 2029 0) .str (lf qs 0).isNil (lf qs 0).xs], [.imm (.slice .str) (lf ps 0), .imm .str (lf ps 1)]⟩]⟩
noncomputable def f44_u : List Cu := [.loop 122 f44_k122 f44_o122 f44_s122, .cut 1 f44_k1 f44_o1 f44_s1]
noncomputable def f44_c : Cx := ⟨Try.prog, envOf [], 48, lOf f44_u⟩
noncomputable def f44_b : Code := match Try.f44.body with | some b => b | none => .skip
theorem f44_q122 : (Cu.loop 122 f44_k122 f44_o122 f44_s122).Ok f44_c f44_b := ⟨by kernel_rfl, fun ls Kr Kx => by kernel_rfl⟩
theorem f44_q1 : (Cu.cut 1 f44_k1 f44_o1 f44_s1).Ok f44_c f44_b := ⟨by kernel_rfl, fun ls Kx => by kernel_rfl⟩
theorem f44_x (ps : List P) (ls : List Nat) : execFn f44_c 44 f44_e.tm (explF ps 2 0) ls = (f44_t ps).run fun q => altR (f44_e.res.map fun f => f ps ls) 0 q some := by kernel_rfl
theorem f44_ok : OkEnt Try.prog f44_e := ent_ok (c := f44_c) (g := 44) (body := f44_b) (us := f44_u) (n := 2) (t := f44_t) (good_envOf _ trivial) Try.func44 rfl Try.call44 rfl ⟨f44_q122, f44_q1, trivial⟩ (by kernel_rfl) f44_x (fun _ => rfl)
/-! ### comprador/compradorref09.Names -/
noncomputable def f25_k7462 : Sk := { t := [(1, .ref 6600 [] (.pair .str (.pair (.slice (.pair (.int .i64) (.pair (.slice (.pair .str (.pair (.slice (.pair (.int .i64) (.pair (.int .i64) .unit))) .unit))) .unit))) .unit))), (3, .slf 6601 .str), (4, .imm (.int .i64) .unit), (5, .imm (.slice (.pair .str (.pair (.slice (.pair (.int .i64) (.pair (.int .i64) .unit))) .unit))) .unit), (6, .imm (.int .i64) .unit)], h := [(6600, .obj (.pair .str (.pair (.slice (.pair (.int .i64) (.pair (.slice (.pair .str (.pair (.slice (.pair (.int .i64) (.pair (.int .i64) .unit))) .unit))) .unit))) .unit)) (.imm (.pair .str (.pair (.slice (.pair (.int .i64) (.pair (.slice (.pair .str (.pair (.slice (.pair (.int .i64) (.pair (.int .i64) .unit))) .unit))) .unit))) .unit)) .unit)), (6601, .arr .str true [])] }
noncomputable def f25_o7462 : List (Out × Sk) := [((.exit 2), { t := [(1, .ref 6630 [] (.pair .str (.pair (.slice (.pair (.int .i64) (.pair (.slice (.pair .str (.pair (.slice (.pair (.int .i64) (.pair (.int .i64) .unit))) .unit))) .unit))) .unit))), (3, .slf 6631 .str), (4, .imm (.int .i64) .unit)], h := [(6630, .obj (.pair .str (.pair (.slice (.pair (.int .i64) (.pair (.slice (.pair .str (.pair (.slice (.pair (.int .i64) (.pair (.int .i64) .unit))) .unit))) .unit))) .unit)) (.imm (.pair .str (.pair (.slice (.pair (.int .i64) (.pair (.slice (.pair .str (.pair (.slice (.pair (.int .i64) (.pair (.int .i64) .unit))) .unit))) .unit))) .unit)) .unit)), (6631, .arr .str true [])] })]
noncomputable def f25_s7462 (ls : List P) : Tree Step :=
 .ite (decide ((lf ls 2).toInt < (((lf ls 1).xs).length : Int))) (
  .ite (inb ((lf ls 2).toInt) (((lf ls 1).xs).length)) (
   .loop (f44_v [.list ((lf ls 4).isNil) ((lf ls 4).xs), (rd ((lf ls 1).xs) (((lf ls 2).toInt).toNat)).fst]) fun x1 =>
    .ite (Nat.beq x1.1 0) (
     .ret (.inl [lf ls 0, lf ls 1, .int .i64 (IntKind.i64.wrap (((lf ls 2).toInt) + (1 : Int))), lf ls 3, .list ((lf x1.2 0).isNil) ((lf x1.2 0).xs)])) (
     .fail)) (
   .fail)) (
  .ret (.inr (0, [lf ls 0, lf ls 3, .list ((lf ls 4).isNil) ((lf ls 4).xs)])))
noncomputable def f25_k58 : Sk := { t := [(1, .ref 5100 [] (.pair .str (.pair (.slice (.pair (.int .i64) (.pair (.slice (.pair .str (.pair (.slice (.pair (.int .i64) (.pair (.int .i64) .unit))) .unit))) .unit))) .unit))), (3, .slf 5101 .str), (4, .imm (.int .i64) .unit)], h := [(5100, .obj (.pair .str (.pair (.slice (.pair (.int .i64) (.pair (.slice (.pair .str (.pair (.slice (.pair (.int .i64) (.pair (.int .i64) .unit))) .unit))) .unit))) .unit)) (.imm (.pair .str (.pair (.slice (.pair (.int .i64) (.pair (.slice (.pair .str (.pair (.slice (.pair (.int .i64) (.pair (.int .i64) .unit))) .unit))) .unit))) .unit)) .unit)), (5101, .arr .str true [])] }
noncomputable def f25_o58 : List (Out × Sk) := [((.exit 0), { t := [(3, .slf 5130 .str)], h := [(5130, .arr .str true [])] })]
noncomputable def f25_s58 (ls : List P) : Tree Step :=
 .ite (decide ((lf ls 0).toInt < (((((lf ls 1).snd).fst).xs).length : Int))) (
  .ite (inb ((lf ls 0).toInt) (((((lf ls 1).snd).fst).xs).length)) (
   .loop (loopT f25_s7462 FUEL [lf ls 0, ((rd ((((lf ls 1).snd).fst).xs) (((lf ls 0).toInt).toNat)).snd).fst, .int .i64 (0 : Int), lf ls 1, .list ((lf ls 2).isNil) ((lf ls 2).xs)]) fun y2 =>
    .ite (Nat.beq y2.1 0) (
     .ret (.inl [.int .i64 (IntKind.i64.wrap (((lf y2.2 0).toInt) + (1 : Int))), lf y2.2 1, .list ((lf y2.2 2).isNil) ((lf y2.2 2).xs)])) (
     .fail)) (
   .fail)) (
  .ret (.inr (0, [.list ((lf ls 2).isNil) ((lf ls 2).xs)])))
noncomputable def f25_t (ps : List P) : Tree (Nat × List P) :=
 .loop (loopT f25_s58 FUEL [.int .i64 (0 : Int), lf ps 0, .list true []]) fun y3 =>
  .ite (Nat.beq y3.1 0) (
   .ret (0, [.list ((lf y3.2 0).isNil) ((lf y3.2 0).xs)])) (
   .fail)
noncomputable def f25_v (ps : List P) : Option (Nat × List P) := (f25_t ps).run some
noncomputable def f25_e : EntD := ⟨25, [.imm (.pair .str (.pair (.slice (.pair (.int .i64) (.pair (.slice (.pair .str (.pair (.slice (.pair (.int .i64) (.pair (.int .i64) .unit))) .unit))) .unit))) .unit))], f25_v, [fun ps ls qs => ⟨[.own (ls.getD 3129 0) .str (lf qs 0).isNil (lf qs 0).xs], [.imm (.pair .str (.pair (.slice (.pair (.int .i64) (.pair (.slice (.pair .str (.pair (.slice (.pair (.int .i64) (.pair (.int .i64) .unit))) .unit))) .unit))) .unit)) (lf ps 0)]⟩]⟩
noncomputable def f25_u : List Cu := [.loop 7462 f25_k7462 f25_o7462 f25_s7462, .loop 58 f25_k58 f25_o58 f25_s58]
noncomputable def f25_c : Cx := ⟨Try.prog, envOf [f44_e], 34, lOf f25_u⟩
noncomputable def f25_b : Code := match Try.f25.body with | some b => b | none => .skip
theorem f25_q7462 : (Cu.loop 7462 f25_k7462 f25_o7462 f25_s7462).Ok f25_c f25_b := ⟨by kernel_rfl, fun ls Kr Kx => by kernel_rfl⟩
theorem f25_q58 : (Cu.loop 58 f25_k58 f25_o58 f25_s58).Ok f25_c f25_b := ⟨by kernel_rfl, fun ls Kr Kx => by kernel_rfl⟩
theorem f25_x (ps : List P) (ls : List Nat) : execFn f25_c 25 f25_e.tm (explF ps 1 0) ls = (f25_t ps).run fun q => altR (f25_e.res.map fun f => f ps ls) 0 q some := by kernel_rfl
theorem f25_ok : OkEnt Try.prog f25_e := ent_ok (c := f25_c) (g := 25) (body := f25_b) (us := f25_u) (n := 1) (t := f25_t) (good_envOf _ ⟨f44_ok, trivial⟩) Try.func25 rfl Try.call25 rfl ⟨f25_q7462, f25_q58, trivial⟩ (by kernel_rfl) f25_x (fun _ => rfl)
/-! ### comprador/compradorref09.Names2 -/
noncomputable def f23_k58 : Sk := { t := [(0, .imm (.slice .str) .unit), (1, .imm (.slice .str) .unit), (5, .imm (.int .i64) .unit)], h := [] }
noncomputable def f23_o58 : List (Out × Sk) := [(.ret, { t := [(4, .imm .bool .unit)], h := [] }), ((.exit 0), { t := [], h := [] })]
noncomputable def f23_s58 (ls : List P) : Tree Step :=
 .ite (decide ((lf ls 2).toInt < (((lf ls 0).xs).length : Int))) (
  .ite (inb ((lf ls 2).toInt) (((lf ls 0).xs).length)) (
   .ite (inb ((lf ls 2).toInt) (((lf ls 1).xs).length)) (
    .ite (!(strEq ((rd ((lf ls 0).xs) (((lf ls 2).toInt).toNat)).toStr) ((rd ((lf ls 1).xs) (((lf ls 2).toInt).toNat)).toStr))) (
     .ret (.inr (0, [.bool false]))) (
     .ret (.inl [lf ls 0, lf ls 1, .int .i64 (IntKind.i64.wrap (((lf ls 2).toInt) + (1 : Int)))]))) (
    .fail)) (
   .fail)) (
  .ret (.inr (1, [])))
noncomputable def f23_t (ps : List P) : Tree (Nat × List P) :=
 .ite ((((lf ps 0).xs).length : Int) != (((lf ps 1).xs).length : Int)) (
  .ret (0, [.bool false])) (
  .loop (loopT f23_s58 FUEL [lf ps 0, lf ps 1, .int .i64 (0 : Int)]) fun y1 =>
   .ite (Nat.beq y1.1 0) (
    .ret (0, [lf y1.2 0])) (
    .ite (Nat.beq y1.1 1) (
     .ret (0, [.bool true])) (
     .fail)))
noncomputable def f23_v (ps : List P) : Option (Nat × List P) := (f23_t ps).run some
noncomputable def f23_e : EntD := ⟨23, [.imm (.slice .str), .imm (.slice .str)], f23_v, [fun ps ls qs => ⟨[.imm .bool (lf qs 0)], [.imm (.slice .str) (lf ps 0), .imm (.slice .str) (lf ps 1)]⟩]⟩
noncomputable def f23_u : List Cu := [.loop 58 f23_k58 f23_o58 f23_s58]
noncomputable def f23_c : Cx := ⟨Try.prog, envOf [], 26, lOf f23_u⟩
noncomputable def f23_b : Code := match Try.f23.body with | some b => b | none => .skip
theorem f23_q58 : (Cu.loop 58 f23_k58 f23_o58 f23_s58).Ok f23_c f23_b := ⟨by kernel_rfl, fun ls Kr Kx => by kernel_rfl⟩
theorem f23_x (ps : List P) (ls : List Nat) : execFn f23_c 23 f23_e.tm (explF ps 2 0) ls = (f23_t ps).run fun q => altR (f23_e.res.map fun f => f ps ls) 0 q some := by kernel_rfl
theorem f23_ok : OkEnt Try.prog f23_e := ent_ok (c := f23_c) (g := 23) (body := f23_b) (us := f23_u) (n := 2) (t := f23_t) (good_envOf _ trivial) Try.func23 rfl Try.call23 rfl ⟨f23_q58, trivial⟩ (by kernel_rfl) f23_x (fun _ => rfl)
/-! ### comprador/compradorref09.Down -/
noncomputable def f27_k58 : Sk := { t := [(1, .imm (.slice (.pair (.int .i64) (.pair (.int .i64) .unit))) .unit), (2, .ref 5100 [] (.pair .str (.pair (.slice (.pair (.int .i64) (.pair (.slice (.pair .str (.pair (.slice (.pair (.int .i64) (.pair (.int .i64) .unit))) .unit))) .unit))) .unit))), (5, .slf 5101 (.int .i64)), (6, .imm (.int .i64) .unit)], h := [(5100, .obj (.pair .str (.pair (.slice (.pair (.int .i64) (.pair (.slice (.pair .str (.pair (.slice (.pair (.int .i64) (.pair (.int .i64) .unit))) .unit))) .unit))) .unit)) (.imm (.pair .str (.pair (.slice (.pair (.int .i64) (.pair (.slice (.pair .str (.pair (.slice (.pair (.int .i64) (.pair (.int .i64) .unit))) .unit))) .unit))) .unit)) .unit)), (5101, .arr (.int .i64) true [])] }
noncomputable def f27_o58 : List (Out × Sk) := [((.exit 0), { t := [(5, .slf 5130 (.int .i64))], h := [(5130, .arr (.int .i64) true [])] })]
noncomputable def f27_s58 (ls : List P) : Tree Step :=
 .ite (decide ((lf ls 1).toInt ≥ (0 : Int))) (
  .ite (inb ((lf ls 1).toInt) (((((lf ls 2).snd).fst).xs).length)) (
   .loop (f45_v [lf ls 0, (rd ((((lf ls 2).snd).fst).xs) (((lf ls 1).toInt).toNat)).fst]) fun x1 =>
    .ite (Nat.beq x1.1 0) (
     .ite ((lf x1.2 0).toBool) (
      .ite (inb ((lf ls 1).toInt) (((((lf ls 2).snd).fst).xs).length)) (
       .ite (decide ((((lf ls 3).xs).length + 1) * 8 ≤ 140737488355328)) (
        .ret (.inl [lf ls 0, .int .i64 (IntKind.i64.wrap (((lf ls 1).toInt) - (1 : Int))), lf ls 2, .list (((lf ls 3).isNil) && false) (((lf ls 3).xs) ++ [(rd ((((lf ls 2).snd).fst).xs) (((lf ls 1).toInt).toNat)).fst])])) (
        .fail)) (
       .fail)) (
      .ret (.inl [lf ls 0, .int .i64 (IntKind.i64.wrap (((lf ls 1).toInt) - (1 : Int))), lf ls 2, .list ((lf ls 3).isNil) ((lf ls 3).xs)]))) (
     .fail)) (
   .fail)) (
  .ret (.inr (0, [.list ((lf ls 3).isNil) ((lf ls 3).xs)])))
noncomputable def f27_t (ps : List P) : Tree (Nat × List P) :=
 .loop (loopT f27_s58 FUEL [lf ps 1, .int .i64 (IntKind.i64.wrap ((((((lf ps 0).snd).fst).xs).length : Int) - (1 : Int))), lf ps 0, .list true []]) fun y2 =>
  .ite (Nat.beq y2.1 0) (
   .ret (0, [.list ((lf y2.2 0).isNil) ((lf y2.2 0).xs)])) (
   .fail)
noncomputable def f27_v (ps : List P) : Option (Nat × List P) := (f27_t ps).run some
noncomputable def f27_e : EntD := ⟨27, [.imm (.pair .str (.pair (.slice (.pair (.int .i64) (.pair (.slice (.pair .str (.pair (.slice (.pair (.int .i64) (.pair (.int .i64) .unit))) .unit))) .unit))) .unit)), .imm (.slice (.pair (.int .i64) (.pair (.int .i64) .unit)))], f27_v, [fun ps ls qs => ⟨[.own (ls.getD 3129 0) (.int .i64) (lf qs 0).isNil (lf qs 0).xs], [.imm (.pair .str (.pair (.slice (.pair (.int .i64) (.pair (.slice (.pair .str (.pair (.slice (.pair (.int .i64) (.pair (.int .i64) .unit))) .unit))) .unit))) .unit)) (lf ps 0), .imm (.slice (.pair (.int .i64) (.pair (.int .i64) .unit))) (lf ps 1)]⟩]⟩
noncomputable def f27_u : List Cu := [.loop 58 f27_k58 f27_o58 f27_s58]
noncomputable def f27_c : Cx := ⟨Try.prog, envOf [f45_e], 33, lOf f27_u⟩
noncomputable def f27_b : Code := match Try.f27.body with | some b => b | none => .skip
theorem f27_q58 : (Cu.loop 58 f27_k58 f27_o58 f27_s58).Ok f27_c f27_b := ⟨by kernel_rfl, fun ls Kr Kx => by kernel_rfl⟩
theorem f27_x (ps : List P) (ls : List Nat) : execFn f27_c 27 f27_e.tm (explF ps 2 0) ls = (f27_t ps).run fun q => altR (f27_e.res.map fun f => f ps ls) 0 q some := by kernel_rfl
theorem f27_ok : OkEnt Try.prog f27_e := ent_ok (c := f27_c) (g := 27) (body := f27_b) (us := f27_u) (n := 2) (t := f27_t) (good_envOf _ ⟨f45_ok, trivial⟩) Try.func27 rfl Try.call27 rfl ⟨f27_q58, trivial⟩ (by kernel_rfl) f27_x (fun _ => rfl)
/-! ### comprador/compradorref09.Ints -/
noncomputable def f26_k58 : Sk := { t := [(0, .imm (.slice (.int .i64)) .unit), (1, .imm (.slice (.int .i64)) .unit), (5, .imm (.int .i64) .unit)], h := [] }
noncomputable def f26_o58 : List (Out × Sk) := [(.ret, { t := [(4, .imm .bool .unit)], h := [] }), ((.exit 0), { t := [], h := [] })]
noncomputable def f26_s58 (ls : List P) : Tree Step :=
 .ite (decide ((lf ls 2).toInt < (((lf ls 0).xs).length : Int))) (
  .ite (inb ((lf ls 2).toInt) (((lf ls 0).xs).length)) (
   .ite (inb ((lf ls 2).toInt) (((lf ls 1).xs).length)) (
    .ite (((rd ((lf ls 0).xs) (((lf ls 2).toInt).toNat)).toInt) != ((rd ((lf ls 1).xs) (((lf ls 2).toInt).toNat)).toInt)) (
     .ret (.inr (0, [.bool false]))) (
     .ret (.inl [lf ls 0, lf ls 1, .int .i64 (IntKind.i64.wrap (((lf ls 2).toInt) + (1 : Int)))]))) (
    .fail)) (
   .fail)) (
  .ret (.inr (1, [])))
noncomputable def f26_t (ps : List P) : Tree (Nat × List P) :=
 .ite ((((lf ps 0).xs).length : Int) != (((lf ps 1).xs).length : Int)) (
  .ret (0, [.bool false])) (
  .loop (loopT f26_s58 FUEL [lf ps 0, lf ps 1, .int .i64 (0 : Int)]) fun y1 =>
   .ite (Nat.beq y1.1 0) (
    .ret (0, [lf y1.2 0])) (
    .ite (Nat.beq y1.1 1) (
     .ret (0, [.bool true])) (
     .fail)))
noncomputable def f26_v (ps : List P) : Option (Nat × List P) := (f26_t ps).run some
noncomputable def f26_e : EntD := ⟨26, [.imm (.slice (.int .i64)), .imm (.slice (.int .i64))], f26_v, [fun ps ls qs => ⟨[.imm .bool (lf qs 0)], [.imm (.slice (.int .i64)) (lf ps 0), .imm (.slice (.int .i64)) (lf ps 1)]⟩]⟩
noncomputable def f26_u : List Cu := [.loop 58 f26_k58 f26_o58 f26_s58]
noncomputable def f26_c : Cx := ⟨Try.prog, envOf [], 26, lOf f26_u⟩
noncomputable def f26_b : Code := match Try.f26.body with | some b => b | none => .skip
theorem f26_q58 : (Cu.loop 58 f26_k58 f26_o58 f26_s58).Ok f26_c f26_b := ⟨by kernel_rfl, fun ls Kr Kx => by kernel_rfl⟩
theorem f26_x (ps : List P) (ls : List Nat) : execFn f26_c 26 f26_e.tm (explF ps 2 0) ls = (f26_t ps).run fun q => altR (f26_e.res.map fun f => f ps ls) 0 q some := by kernel_rfl
theorem f26_ok : OkEnt Try.prog f26_e := ent_ok (c := f26_c) (g := 26) (body := f26_b) (us := f26_u) (n := 2) (t := f26_t) (good_envOf _ trivial) Try.func26 rfl Try.call26 rfl ⟨f26_q58, trivial⟩ (by kernel_rfl) f26_x (fun _ => rfl)
/-! ### comprador/compradorlaw09.ManiTells -/
noncomputable def f4_t (ps : List P) : Tree (Nat × List P) :=
 .loop (f5_v [lf ps 0]) fun x1 =>
  .ite (Nat.beq x1.1 0) (
   .ite ((lf x1.2 0).toBool) (
    .loop (f8_v []) fun x2 =>
     .ite (Nat.beq x2.1 0) (
      .ret (0, [lf x2.2 0])) (
      .fail)) (
    .loop (f17_v [lf ps 0]) fun x3 =>
     .ite (Nat.beq x3.1 0) (
      .ite (!((lf x3.2 0).toBool)) (
       .loop (f8_v []) fun x4 =>
        .ite (Nat.beq x4.1 0) (
         .ret (0, [lf x4.2 0])) (
         .fail)) (
       .ite (decide ((((lf ps 2).xs).length : Int) > (40 : Int))) (
        .loop (f8_v []) fun x5 =>
         .ite (Nat.beq x5.1 0) (
          .ret (0, [lf x5.2 0])) (
          .fail)) (
        .loop (f18_v [lf ps 2]) fun x6 =>
         .ite (Nat.beq x6.1 0) (
          .ite (!((lf x6.2 0).toBool)) (
           .loop (f8_v []) fun x7 =>
            .ite (Nat.beq x7.1 0) (
             .ret (0, [lf x7.2 0])) (
             .fail)) (
           .loop (f14_v [lf ps 0, lf ps 1]) fun x8 =>
            .ite (Nat.beq x8.1 0) (
             .loop (f19_v [lf ps 0, lf ps 1]) fun x9 =>
              .ite (Nat.beq x9.1 0) (
               .ite (!(((lf x8.2 3).toBool) == ((lf x9.2 1).toBool))) (
                .ret (0, [.bool false])) (
                .ite (((lf x8.2 0).toInt) != (((lf x9.2 0).fst).toInt)) (
                 .ret (0, [.bool false])) (
                 .loop (f20_v [.list ((lf x8.2 1).isNil) ((lf x8.2 1).xs), ((lf x9.2 0).snd).fst]) fun x10 =>
                  .ite (Nat.beq x10.1 0) (
                   .ite (!((lf x10.2 0).toBool)) (
                    .ret (0, [.bool false])) (
                    .loop (f10_v [lf ps 0]) fun x11 =>
                     .ite (Nat.beq x11.1 0) (
                      .loop (f22_v [lf ps 0]) fun x12 =>
                       .ite (Nat.beq x12.1 0) (
                        .loop (f21_v [.list ((lf x11.2 0).isNil) ((lf x11.2 0).xs), .list ((lf x12.2 0).isNil) ((lf x12.2 0).xs)]) fun x13 =>
                         .ite (Nat.beq x13.1 0) (
                          .ite (!((lf x13.2 0).toBool)) (
                           .ret (0, [.bool false])) (
                           .loop (f24_v [lf ps 0]) fun x14 =>
                            .ite (Nat.beq x14.1 0) (
                             .loop (f25_v [lf ps 0]) fun x15 =>
                              .ite (Nat.beq x15.1 0) (
                               .loop (f23_v [.list ((lf x14.2 0).isNil) ((lf x14.2 0).xs), .list ((lf x15.2 0).isNil) ((lf x15.2 0).xs)]) fun x16 =>
                                .ite (Nat.beq x16.1 0) (
                                 .ite (!((lf x16.2 0).toBool)) (
                                  .ret (0, [.bool false])) (
                                  .loop (down13_v [lf ps 0, lf ps 2]) fun x17 =>
                                   .ite (Nat.beq x17.1 0) (
                                    .loop (f27_v [lf ps 0, lf ps 2]) fun x18 =>
                                     .ite (Nat.beq x18.1 0) (
                                      .loop (f26_v [.list ((lf x17.2 0).isNil) ((lf x17.2 0).xs), .list ((lf x18.2 0).isNil) ((lf x18.2 0).xs)]) fun x19 =>
                                       .ite (Nat.beq x19.1 0) (
                                        .ite (!((lf x19.2 0).toBool)) (
                                         .ret (0, [.bool false])) (
                                         .loop (f27_v [lf ps 0, lf ps 2]) fun x20 =>
                                          .ite (Nat.beq x20.1 0) (
                                           .loop (f11_v [lf ps 0, lf ps 2]) fun x21 =>
                                            .ite (Nat.beq x21.1 0) (
                                             .ite (((lf x21.2 1).toBool) == (decide ((((lf x20.2 0).xs).length : Int) > (0 : Int)))) (
                                              .ite (!((lf x21.2 1).toBool)) (
                                               .ite (((lf x21.2 0).toInt) == (0 : Int)) (
                                                .loop (f8_v []) fun x22 =>
                                                 .ite (Nat.beq x22.1 0) (
                                                  .ret (0, [lf x22.2 0])) (
                                                  .fail)) (
                                                .ite ((lf x21.2 1).toBool) (
                                                 .ite (inb (0 : Int) (((lf x20.2 0).xs).length)) (
                                                  .ite (((lf x21.2 0).toInt) == ((rd ((lf x20.2 0).xs) 0).toInt)) (
                                                   .loop (f8_v []) fun x23 =>
                                                    .ite (Nat.beq x23.1 0) (
                                                     .ret (0, [lf x23.2 0])) (
                                                     .fail)) (
                                                   .ret (0, [.bool false]))) (
                                                  .fail)) (
                                                 .ret (0, [.bool false])))) (
                                               .ite ((lf x21.2 1).toBool) (
                                                .ite (inb (0 : Int) (((lf x20.2 0).xs).length)) (
                                                 .ite (((lf x21.2 0).toInt) == ((rd ((lf x20.2 0).xs) 0).toInt)) (
                                                  .loop (f8_v []) fun x24 =>
                                                   .ite (Nat.beq x24.1 0) (
                                                    .ret (0, [lf x24.2 0])) (
                                                    .fail)) (
                                                  .ret (0, [.bool false]))) (
                                                 .fail)) (
                                                .ret (0, [.bool false])))) (
                                              .ret (0, [.bool false]))) (
                                             .fail)) (
                                           .fail))) (
                                        .fail)) (
                                      .fail)) (
                                    .fail))) (
                                 .fail)) (
                               .fail)) (
                             .fail))) (
                          .fail)) (
                        .fail)) (
                      .fail))) (
                   .fail)))) (
               .fail)) (
             .fail))) (
          .fail)))) (
      .fail))) (
   .fail)
noncomputable def f4_v (ps : List P) : Option (Nat × List P) := (f4_t ps).run some
noncomputable def f4_e : EntD := ⟨4, [.imm (.pair .str (.pair (.slice (.pair (.int .i64) (.pair (.slice (.pair .str (.pair (.slice (.pair (.int .i64) (.pair (.int .i64) .unit))) .unit))) .unit))) .unit)), .imm (.int .i64), .imm (.slice (.pair (.int .i64) (.pair (.int .i64) .unit)))], f4_v, [fun ps ls qs => ⟨[.imm .bool (lf qs 0)], [.imm (.pair .str (.pair (.slice (.pair (.int .i64) (.pair (.slice (.pair .str (.pair (.slice (.pair (.int .i64) (.pair (.int .i64) .unit))) .unit))) .unit))) .unit)) (lf ps 0), .imm (.int .i64) (lf ps 1), .imm (.slice (.pair (.int .i64) (.pair (.int .i64) .unit))) (lf ps 2)]⟩]⟩
noncomputable def f4_u : List Cu := []
noncomputable def f4_c : Cx := ⟨Try.prog, envOf [f5_e, f8_e, f10_e, f11_e, down13_e, f14_e, f17_e, f18_e, f19_e, f20_e, f21_e, f22_e, f23_e, f24_e, f25_e, f26_e, f27_e], 123, lOf f4_u⟩
noncomputable def f4_b : Code := match Try.f4.body with | some b => b | none => .skip
theorem f4_x (ps : List P) (ls : List Nat) : execFn f4_c 4 f4_e.tm (explF ps 3 0) ls = (f4_t ps).run fun q => altR (f4_e.res.map fun f => f ps ls) 0 q some := by kernel_rfl
theorem f4_ok : OkEnt Try.prog f4_e := ent_ok (c := f4_c) (g := 4) (body := f4_b) (us := f4_u) (n := 3) (t := f4_t) (good_envOf _ ⟨f5_ok, f8_ok, f10_ok, f11_ok, down13_ok, f14_ok, f17_ok, f18_ok, f19_ok, f20_ok, f21_ok, f22_ok, f23_ok, f24_ok, f25_ok, f26_ok, f27_ok, trivial⟩) Try.func4 rfl Try.call4 rfl trivial (by kernel_rfl) f4_x (fun _ => rfl)
end Go.Proofs.Ytihenfpnilliiaa
