/- Functions: what each tells. Conditions: none. -/
import Derived.Test.YtjemihhhkhdbeaaFDo0
open Go Go.Eng Go.Proofs
set_option pp.deepTerms true
set_option linter.unusedVariables false
namespace Go.Proofs.Ytjemihhhkhdbeaa
/-! ### comprador/compradorref06.Do -/
noncomputable def f158_k122 : Sk := { t := [(0, .imm (.int .i64) .unit), (1, .imm (.slice (.pair (.int .i64) (.pair (.int .i64) .unit))) .unit), (2, .imm (.slice (.pair (.int .i64) (.pair (.int .i64) .unit))) .unit), (7, .slf 5300 (.pair (.int .i64) (.pair (.int .i64) .unit))), (8, .imm (.slice (.int .i64)) .unit), (9, .imm (.int .i64) .unit)], h := [(5300, .arr (.pair (.int .i64) (.pair (.int .i64) .unit)) true [])], z := [8] }
noncomputable def f158_o122 : List (Out × Sk) := [((.exit 0), { t := [(7, .slf 5330 (.pair (.int .i64) (.pair (.int .i64) .unit)))], h := [(5330, .arr (.pair (.int .i64) (.pair (.int .i64) .unit)) true [])] })]
noncomputable def f158_s122 (ls : List P) : Tree Step :=
 .ite (decide (IntKind.i64.wrap (((lf ls 4).toInt) + (1 : Int)) < (((lf ls 3).xs).length : Int))) (
  .ite (inb ((lf ls 4).toInt) (((lf ls 3).xs).length)) (
   .ite (inb ((lf ls 4).toInt) (((lf ls 3).xs).length)) (
    .loop (f93_v [lf ls 1, rd ((lf ls 3).xs) (((lf ls 4).toInt).toNat)]) fun x2 =>
     .ite (Nat.beq x2.1 0) (
      .loop (f93_v [lf ls 2, rd ((lf ls 3).xs) (((lf ls 4).toInt).toNat)]) fun x3 =>
       .ite (Nat.beq x3.1 0) (
        .loop (f187_v [lf ls 0, lf x2.2 0, lf x3.2 0]) fun x4 =>
         .ite (Nat.beq x4.1 0) (
          .ite (!((lf x4.2 0).toBool)) (
           .ret (.inl [lf ls 0, lf ls 1, lf ls 2, lf ls 3, .int .i64 (IntKind.i64.wrap (((lf ls 4).toInt) + (1 : Int))), .list ((lf ls 5).isNil) ((lf ls 5).xs)])) (
           .ite (decide (IntKind.i64.wrap ((((lf ls 5).xs).length : Int) - (1 : Int)) ≥ (0 : Int))) (
            .ite (inb (IntKind.i64.wrap ((((lf ls 5).xs).length : Int) - (1 : Int))) (((lf ls 5).xs).length)) (
             .ite (inb ((lf ls 4).toInt) (((lf ls 3).xs).length)) (
              .ite (((((rd ((lf ls 5).xs) ((IntKind.i64.wrap ((((lf ls 5).xs).length : Int) - (1 : Int))).toNat)).snd).fst).toInt) == ((rd ((lf ls 3).xs) (((lf ls 4).toInt).toNat)).toInt)) (
               .ite (inb (IntKind.i64.wrap ((((lf ls 5).xs).length : Int) - (1 : Int))) (((lf ls 5).xs).length)) (
                .ite (inb (IntKind.i64.wrap (((lf ls 4).toInt) + (1 : Int))) (((lf ls 3).xs).length)) (
                 .ite (inb (IntKind.i64.wrap ((((lf ls 5).xs).length : Int) - (1 : Int))) (((lf ls 5).xs).length)) (
                  .ret (.inl [lf ls 0, lf ls 1, lf ls 2, lf ls 3, .int .i64 (IntKind.i64.wrap (((lf ls 4).toInt) + (1 : Int))), .list ((lf ls 5).isNil) (((lf ls 5).xs).set ((IntKind.i64.wrap ((((lf ls 5).xs).length : Int) - (1 : Int))).toNat) (.pair ((rd ((lf ls 5).xs) ((IntKind.i64.wrap ((((lf ls 5).xs).length : Int) - (1 : Int))).toNat)).fst) (.pair (rd ((lf ls 3).xs) ((IntKind.i64.wrap (((lf ls 4).toInt) + (1 : Int))).toNat)) .unit)))])) (
                  .fail)) (
                 .fail)) (
                .fail)) (
               .ite (inb ((lf ls 4).toInt) (((lf ls 3).xs).length)) (
                .ite (inb (IntKind.i64.wrap (((lf ls 4).toInt) + (1 : Int))) (((lf ls 3).xs).length)) (
                 .ite (decide ((((lf ls 5).xs).length + 1) * 16 ≤ 140737488355328)) (
                  .ret (.inl [lf ls 0, lf ls 1, lf ls 2, lf ls 3, .int .i64 (IntKind.i64.wrap (((lf ls 4).toInt) + (1 : Int))), .list (((lf ls 5).isNil) && false) (((lf ls 5).xs) ++ [.pair (rd ((lf ls 3).xs) (((lf ls 4).toInt).toNat)) (.pair (rd ((lf ls 3).xs) ((IntKind.i64.wrap (((lf ls 4).toInt) + (1 : Int))).toNat)) .unit)])])) (
                  .fail)) (
                 .fail)) (
                .fail))) (
              .fail)) (
             .fail)) (
            .ite (inb ((lf ls 4).toInt) (((lf ls 3).xs).length)) (
             .ite (inb (IntKind.i64.wrap (((lf ls 4).toInt) + (1 : Int))) (((lf ls 3).xs).length)) (
              .ite (decide ((((lf ls 5).xs).length + 1) * 16 ≤ 140737488355328)) (
               .ret (.inl [lf ls 0, lf ls 1, lf ls 2, lf ls 3, .int .i64 (IntKind.i64.wrap (((lf ls 4).toInt) + (1 : Int))), .list (((lf ls 5).isNil) && false) (((lf ls 5).xs) ++ [.pair (rd ((lf ls 3).xs) (((lf ls 4).toInt).toNat)) (.pair (rd ((lf ls 3).xs) ((IntKind.i64.wrap (((lf ls 4).toInt) + (1 : Int))).toNat)) .unit)])])) (
               .fail)) (
              .fail)) (
             .fail)))) (
          .fail)) (
        .fail)) (
      .fail)) (
    .fail)) (
   .fail)) (
  .ret (.inr (0, [.list ((lf ls 5).isNil) ((lf ls 5).xs)])))
noncomputable def f158_t (ps : List P) : Tree (Nat × List P) :=
 .loop (f186_v [lf ps 1, lf ps 2]) fun x1 =>
  .ite (Nat.beq x1.1 0) (
   .loop (loopT f158_s122 FUEL [lf ps 0, lf ps 1, lf ps 2, .list ((lf x1.2 0).isNil) ((lf x1.2 0).xs), .int .i64 (0 : Int), .list true []]) fun y5 =>
    .ite (Nat.beq y5.1 0) (
     .ret (0, [.list ((lf y5.2 0).isNil) ((lf y5.2 0).xs)])) (
     .fail)) (
   .fail)
noncomputable def f158_v (ps : List P) : Option (Nat × List P) := (f158_t ps).run some
noncomputable def f158_e : EntD := ⟨158, [.imm (.int .i64), .imm (.slice (.pair (.int .i64) (.pair (.int .i64) .unit))), .imm (.slice (.pair (.int .i64) (.pair (.int .i64) .unit)))], f158_v, [fun ps ls qs => ⟨[.own (ls.getD 3329 0) (.pair (.int .i64) (.pair (.int .i64) .unit)) (lf qs 0).isNil (lf qs 0).xs], [.imm (.int .i64) (lf ps 0), .imm (.slice (.pair (.int .i64) (.pair (.int .i64) .unit))) (lf ps 1), .imm (.slice (.pair (.int .i64) (.pair (.int .i64) .unit))) (lf ps 2)]⟩]⟩
noncomputable def f158_u : List Cu := [.loop 122 f158_k122 f158_o122 f158_s122]
noncomputable def f158_c : Cx := ⟨Try.prog, envOf [f93_e, f186_e, f187_e], 81, lOf f158_u⟩
noncomputable def f158_b : Code := match Try.f158.body with | some b => b | none => .skip
theorem f158_q122 : (Cu.loop 122 f158_k122 f158_o122 f158_s122).Ok f158_c f158_b := ⟨by kernel_rfl, fun ls Kr Kx => by kernel_rfl⟩
theorem f158_x (ps : List P) (ls : List Nat) : execFn f158_c 158 f158_e.tm (explF ps 3 0) ls = (f158_t ps).run fun q => altR (f158_e.res.map fun f => f ps ls) 0 q some := by kernel_rfl
theorem f158_ok : OkEnt Try.prog f158_e := ent_ok (c := f158_c) (g := 158) (body := f158_b) (us := f158_u) (n := 3) (t := f158_t) (good_envOf _ ⟨f93_ok, f186_ok, f187_ok, trivial⟩) Try.func158 rfl Try.call158 rfl ⟨f158_q122, trivial⟩ (by kernel_rfl) f158_x (fun _ => rfl)
/-! ### comprador/compradorref06.Union -/
noncomputable def f95_t (ps : List P) : Tree (Nat × List P) :=
 .loop (f158_v [.int .i64 (0 : Int), lf ps 0, lf ps 1]) fun x1 =>
  .ite (Nat.beq x1.1 0) (
   .ret (0, [.list ((lf x1.2 0).isNil) ((lf x1.2 0).xs)])) (
   .fail)
noncomputable def f95_v (ps : List P) : Option (Nat × List P) := (f95_t ps).run some
noncomputable def f95_e : EntD := ⟨95, [.imm (.slice (.pair (.int .i64) (.pair (.int .i64) .unit))), .imm (.slice (.pair (.int .i64) (.pair (.int .i64) .unit)))], f95_v, [fun ps ls qs => ⟨[.own (ls.getD 98699 0) (.pair (.int .i64) (.pair (.int .i64) .unit)) (lf qs 0).isNil (lf qs 0).xs], [.imm (.slice (.pair (.int .i64) (.pair (.int .i64) .unit))) (lf ps 0), .imm (.slice (.pair (.int .i64) (.pair (.int .i64) .unit))) (lf ps 1)]⟩]⟩
noncomputable def f95_u : List Cu := []
noncomputable def f95_c : Cx := ⟨Try.prog, envOf [f158_e], 8, lOf f95_u⟩
noncomputable def f95_b : Code := match Try.f95.body with | some b => b | none => .skip
theorem f95_x (ps : List P) (ls : List Nat) : execFn f95_c 95 f95_e.tm (explF ps 2 0) ls = (f95_t ps).run fun q => altR (f95_e.res.map fun f => f ps ls) 0 q some := by kernel_rfl
theorem f95_ok : OkEnt Try.prog f95_e := ent_ok (c := f95_c) (g := 95) (body := f95_b) (us := f95_u) (n := 2) (t := f95_t) (good_envOf _ ⟨f158_ok, trivial⟩) Try.func95 rfl Try.call95 rfl trivial (by kernel_rfl) f95_x (fun _ => rfl)
/-! ### comprador/compradorref06.Same -/
noncomputable def f82_k58 : Sk := { t := [(0, .imm (.slice (.pair (.int .i64) (.pair (.int .i64) .unit))) .unit), (1, .imm (.slice (.pair (.int .i64) (.pair (.int .i64) .unit))) .unit), (5, .imm (.int .i64) .unit)], h := [] }
noncomputable def f82_o58 : List (Out × Sk) := [(.ret, { t := [(4, .imm .bool .unit)], h := [] }), ((.exit 0), { t := [], h := [] })]
noncomputable def f82_s58 (ls : List P) : Tree Step :=
 .ite (decide ((lf ls 2).toInt < (((lf ls 0).xs).length : Int))) (
  .ite (inb ((lf ls 2).toInt) (((lf ls 0).xs).length)) (
   .ite (inb ((lf ls 2).toInt) (((lf ls 1).xs).length)) (
    .ite (!(eqP (.pair (.int .i64) (.pair (.int .i64) .unit)) (rd ((lf ls 0).xs) (((lf ls 2).toInt).toNat)) (rd ((lf ls 1).xs) (((lf ls 2).toInt).toNat)))) (
     .ret (.inr (0, [.bool false]))) (
     .ret (.inl [lf ls 0, lf ls 1, .int .i64 (IntKind.i64.wrap (((lf ls 2).toInt) + (1 : Int)))]))) (
    .fail)) (
   .fail)) (
  .ret (.inr (1, [])))
noncomputable def f82_t (ps : List P) : Tree (Nat × List P) :=
 .ite ((((lf ps 0).xs).length : Int) != (((lf ps 1).xs).length : Int)) (
  .ret (0, [.bool false])) (
  .loop (loopT f82_s58 FUEL [lf ps 0, lf ps 1, .int .i64 (0 : Int)]) fun y1 =>
   .ite (Nat.beq y1.1 0) (
    .ret (0, [lf y1.2 0])) (
    .ite (Nat.beq y1.1 1) (
     .ret (0, [.bool true])) (
     .fail)))
noncomputable def f82_v (ps : List P) : Option (Nat × List P) := (f82_t ps).run some
noncomputable def f82_e : EntD := ⟨82, [.imm (.slice (.pair (.int .i64) (.pair (.int .i64) .unit))), .imm (.slice (.pair (.int .i64) (.pair (.int .i64) .unit)))], f82_v, [fun ps ls qs => ⟨[.imm .bool (lf qs 0)], [.imm (.slice (.pair (.int .i64) (.pair (.int .i64) .unit))) (lf ps 0), .imm (.slice (.pair (.int .i64) (.pair (.int .i64) .unit))) (lf ps 1)]⟩]⟩
noncomputable def f82_u : List Cu := [.loop 58 f82_k58 f82_o58 f82_s58]
noncomputable def f82_c : Cx := ⟨Try.prog, envOf [], 26, lOf f82_u⟩
noncomputable def f82_b : Code := match Try.f82.body with | some b => b | none => .skip
theorem f82_q58 : (Cu.loop 58 f82_k58 f82_o58 f82_s58).Ok f82_c f82_b := ⟨by kernel_rfl, fun ls Kr Kx => by kernel_rfl⟩
theorem f82_x (ps : List P) (ls : List Nat) : execFn f82_c 82 f82_e.tm (explF ps 2 0) ls = (f82_t ps).run fun q => altR (f82_e.res.map fun f => f ps ls) 0 q some := by kernel_rfl
theorem f82_ok : OkEnt Try.prog f82_e := ent_ok (c := f82_c) (g := 82) (body := f82_b) (us := f82_u) (n := 2) (t := f82_t) (good_envOf _ trivial) Try.func82 rfl Try.call82 rfl ⟨f82_q58, trivial⟩ (by kernel_rfl) f82_x (fun _ => rfl)
/-! ### comprador/compradorref06.Meet -/
noncomputable def f97_t (ps : List P) : Tree (Nat × List P) :=
 .loop (f158_v [.int .i64 (1 : Int), lf ps 0, lf ps 1]) fun x1 =>
  .ite (Nat.beq x1.1 0) (
   .ret (0, [.list ((lf x1.2 0).isNil) ((lf x1.2 0).xs)])) (
   .fail)
noncomputable def f97_v (ps : List P) : Option (Nat × List P) := (f97_t ps).run some
noncomputable def f97_e : EntD := ⟨97, [.imm (.slice (.pair (.int .i64) (.pair (.int .i64) .unit))), .imm (.slice (.pair (.int .i64) (.pair (.int .i64) .unit)))], f97_v, [fun ps ls qs => ⟨[.own (ls.getD 98699 0) (.pair (.int .i64) (.pair (.int .i64) .unit)) (lf qs 0).isNil (lf qs 0).xs], [.imm (.slice (.pair (.int .i64) (.pair (.int .i64) .unit))) (lf ps 0), .imm (.slice (.pair (.int .i64) (.pair (.int .i64) .unit))) (lf ps 1)]⟩]⟩
noncomputable def f97_u : List Cu := []
noncomputable def f97_c : Cx := ⟨Try.prog, envOf [f158_e], 8, lOf f97_u⟩
noncomputable def f97_b : Code := match Try.f97.body with | some b => b | none => .skip
theorem f97_x (ps : List P) (ls : List Nat) : execFn f97_c 97 f97_e.tm (explF ps 2 0) ls = (f97_t ps).run fun q => altR (f97_e.res.map fun f => f ps ls) 0 q some := by kernel_rfl
theorem f97_ok : OkEnt Try.prog f97_e := ent_ok (c := f97_c) (g := 97) (body := f97_b) (us := f97_u) (n := 2) (t := f97_t) (good_envOf _ ⟨f158_ok, trivial⟩) Try.func97 rfl Try.call97 rfl trivial (by kernel_rfl) f97_x (fun _ => rfl)
/-! ### comprador/compradorref06.Not -/
noncomputable def f99_t (ps : List P) : Tree (Nat × List P) :=
 .loop (f158_v [.int .i64 (2 : Int), lf ps 0, .list true []]) fun x1 =>
  .ite (Nat.beq x1.1 0) (
   .ret (0, [.list ((lf x1.2 0).isNil) ((lf x1.2 0).xs)])) (
   .fail)
noncomputable def f99_v (ps : List P) : Option (Nat × List P) := (f99_t ps).run some
noncomputable def f99_e : EntD := ⟨99, [.imm (.slice (.pair (.int .i64) (.pair (.int .i64) .unit)))], f99_v, [fun ps ls qs => ⟨[.own (ls.getD 98399 0) (.pair (.int .i64) (.pair (.int .i64) .unit)) (lf qs 0).isNil (lf qs 0).xs], [.imm (.slice (.pair (.int .i64) (.pair (.int .i64) .unit))) (lf ps 0)]⟩]⟩
noncomputable def f99_u : List Cu := []
noncomputable def f99_c : Cx := ⟨Try.prog, envOf [f158_e], 5, lOf f99_u⟩
noncomputable def f99_b : Code := match Try.f99.body with | some b => b | none => .skip
theorem f99_x (ps : List P) (ls : List Nat) : execFn f99_c 99 f99_e.tm (explF ps 1 0) ls = (f99_t ps).run fun q => altR (f99_e.res.map fun f => f ps ls) 0 q some := by kernel_rfl
theorem f99_ok : OkEnt Try.prog f99_e := ent_ok (c := f99_c) (g := 99) (body := f99_b) (us := f99_u) (n := 1) (t := f99_t) (good_envOf _ ⟨f158_ok, trivial⟩) Try.func99 rfl Try.call99 rfl trivial (by kernel_rfl) f99_x (fun _ => rfl)
/-! ### comprador/span.Within -/
noncomputable def f100_k26 : Sk := { t := [(1, .imm (.slice (.pair (.int .i64) (.pair (.int .i64) .unit))) .unit), (8, .imm (.slice (.pair (.int .i64) (.pair (.int .i64) .unit))) .unit), (9, .imm (.int .i64) .unit), (10, .imm (.int .i64) .unit)], h := [] }
noncomputable def f100_o26 : List (Out × Sk) := [(.ret, { t := [(4, .imm .bool .unit)], h := [] }), ((.exit 0), { t := [], h := [] })]
noncomputable def f100_s26 (ls : List P) : Tree Step :=
 .ite (decide ((lf ls 3).toInt < (lf ls 2).toInt)) (
  .ite (inb ((lf ls 3).toInt) (((lf ls 1).xs).length)) (
   .loop (f160_v [lf ls 0, (rd ((lf ls 1).xs) (((lf ls 3).toInt).toNat)).fst]) fun x1 =>
    .ite (Nat.beq x1.1 0) (
     .ite (((lf x1.2 0).toInt) == (((lf ls 0).xs).length : Int)) (
      .ret (.inr (0, [.bool false]))) (
      .ite (inb ((lf x1.2 0).toInt) (((lf ls 0).xs).length)) (
       .ite (decide (((rd ((lf ls 0).xs) (((lf x1.2 0).toInt).toNat)).fst).toInt > ((rd ((lf ls 1).xs) (((lf ls 3).toInt).toNat)).fst).toInt)) (
        .ret (.inr (0, [.bool false]))) (
        .ite (inb ((lf x1.2 0).toInt) (((lf ls 0).xs).length)) (
         .ite (decide ((((rd ((lf ls 0).xs) (((lf x1.2 0).toInt).toNat)).snd).fst).toInt < (((rd ((lf ls 1).xs) (((lf ls 3).toInt).toNat)).snd).fst).toInt)) (
          .ret (.inr (0, [.bool false]))) (
          .ret (.inl [lf ls 0, lf ls 1, lf ls 2, .int .i64 (IntKind.i64.wrap (((lf ls 3).toInt) + (1 : Int)))]))) (
         .fail))) (
       .fail))) (
     .fail)) (
   .fail)) (
  .ret (.inr (1, [])))
noncomputable def f100_t (ps : List P) : Tree (Nat × List P) :=
 .loop (loopT f100_s26 FUEL [lf ps 1, lf ps 0, .int .i64 (((lf ps 0).xs).length : Int), .int .i64 (0 : Int)]) fun y2 =>
  .ite (Nat.beq y2.1 0) (
   .ret (0, [lf y2.2 0])) (
   .ite (Nat.beq y2.1 1) (
    .ret (0, [.bool true])) (
    .fail))
noncomputable def f100_v (ps : List P) : Option (Nat × List P) := (f100_t ps).run some
noncomputable def f100_e : EntD := ⟨100, [.imm (.slice (.pair (.int .i64) (.pair (.int .i64) .unit))), .imm (.slice (.pair (.int .i64) (.pair (.int .i64) .unit)))], f100_v, [fun ps ls qs => ⟨[.imm .bool (lf qs 0)], [.imm (.slice (.pair (.int .i64) (.pair (.int .i64) .unit))) (lf ps 0), .imm (.slice (.pair (.int .i64) (.pair (.int .i64) .unit))) (lf ps 1)]⟩]⟩
noncomputable def f100_u : List Cu := [.loop 26 f100_k26 f100_o26 f100_s26]
noncomputable def f100_c : Cx := ⟨Try.prog, envOf [f160_e], 43, lOf f100_u⟩
noncomputable def f100_b : Code := match Try.f100.body with | some b => b | none => .skip
theorem f100_q26 : (Cu.loop 26 f100_k26 f100_o26 f100_s26).Ok f100_c f100_b := ⟨by kernel_rfl, fun ls Kr Kx => by kernel_rfl⟩
theorem f100_x (ps : List P) (ls : List Nat) : execFn f100_c 100 f100_e.tm (explF ps 2 0) ls = (f100_t ps).run fun q => altR (f100_e.res.map fun f => f ps ls) 0 q some := by kernel_rfl
theorem f100_ok : OkEnt Try.prog f100_e := ent_ok (c := f100_c) (g := 100) (body := f100_b) (us := f100_u) (n := 2) (t := f100_t) (good_envOf _ ⟨f160_ok, trivial⟩) Try.func100 rfl Try.call100 rfl ⟨f100_q26, trivial⟩ (by kernel_rfl) f100_x (fun _ => rfl)
/-! ### comprador/compradorref06.Within -/
noncomputable def f101_t (ps : List P) : Tree (Nat × List P) :=
 .loop (f97_v [lf ps 0, lf ps 1]) fun x1 =>
  .ite (Nat.beq x1.1 0) (
   .loop (f82_v [.list ((lf x1.2 0).isNil) ((lf x1.2 0).xs), lf ps 0]) fun x2 =>
    .ite (Nat.beq x2.1 0) (
     .ret (0, [lf x2.2 0])) (
     .fail)) (
   .fail)
noncomputable def f101_v (ps : List P) : Option (Nat × List P) := (f101_t ps).run some
noncomputable def f101_e : EntD := ⟨101, [.imm (.slice (.pair (.int .i64) (.pair (.int .i64) .unit))), .imm (.slice (.pair (.int .i64) (.pair (.int .i64) .unit)))], f101_v, [fun ps ls qs => ⟨[.imm .bool (lf qs 0)], [.imm (.slice (.pair (.int .i64) (.pair (.int .i64) .unit))) (lf ps 0), .imm (.slice (.pair (.int .i64) (.pair (.int .i64) .unit))) (lf ps 1)]⟩]⟩
noncomputable def f101_u : List Cu := []
noncomputable def f101_c : Cx := ⟨Try.prog, envOf [f82_e, f97_e], 10, lOf f101_u⟩
noncomputable def f101_b : Code := match Try.f101.body with | some b => b | none => .skip
theorem f101_x (ps : List P) (ls : List Nat) : execFn f101_c 101 f101_e.tm (explF ps 2 0) ls = (f101_t ps).run fun q => altR (f101_e.res.map fun f => f ps ls) 0 q some := by kernel_rfl
theorem f101_ok : OkEnt Try.prog f101_e := ent_ok (c := f101_c) (g := 101) (body := f101_b) (us := f101_u) (n := 2) (t := f101_t) (good_envOf _ ⟨f82_ok, f97_ok, trivial⟩) Try.func101 rfl Try.call101 rfl trivial (by kernel_rfl) f101_x (fun _ => rfl)
/-! ### comprador/span.Count -/
noncomputable def f102_k58 : Sk := { t := [(3, .imm (.int .i64) .unit), (6, .imm (.slice (.pair (.int .i64) (.pair (.int .i64) .unit))) .unit), (7, .imm (.int .i64) .unit), (8, .imm (.int .i64) .unit)], h := [] }
noncomputable def f102_o58 : List (Out × Sk) := [((.exit 0), { t := [(3, .imm (.int .i64) .unit)], h := [] })]
noncomputable def f102_s58 (ls : List P) : Tree Step :=
 .ite (decide ((lf ls 3).toInt < (lf ls 2).toInt)) (
  .ite (inb ((lf ls 3).toInt) (((lf ls 1).xs).length)) (
   .ret (.inl [.int .i64 (IntKind.i64.wrap (((lf ls 0).toInt) + (IntKind.i64.wrap (((((rd ((lf ls 1).xs) (((lf ls 3).toInt).toNat)).snd).fst).toInt) - (((rd ((lf ls 1).xs) (((lf ls 3).toInt).toNat)).fst).toInt))))), lf ls 1, lf ls 2, .int .i64 (IntKind.i64.wrap (((lf ls 3).toInt) + (1 : Int)))])) (
   .fail)) (
  .ret (.inr (0, [lf ls 0])))
noncomputable def f102_t (ps : List P) : Tree (Nat × List P) :=
 .loop (loopT f102_s58 FUEL [.int .i64 (0 : Int), lf ps 0, .int .i64 (((lf ps 0).xs).length : Int), .int .i64 (0 : Int)]) fun y1 =>
  .ite (Nat.beq y1.1 0) (
   .ret (0, [lf y1.2 0])) (
   .fail)
noncomputable def f102_v (ps : List P) : Option (Nat × List P) := (f102_t ps).run some
noncomputable def f102_e : EntD := ⟨102, [.imm (.slice (.pair (.int .i64) (.pair (.int .i64) .unit)))], f102_v, [fun ps ls qs => ⟨[.imm (.int .i64) (lf qs 0)], [.imm (.slice (.pair (.int .i64) (.pair (.int .i64) .unit))) (lf ps 0)]⟩]⟩
noncomputable def f102_u : List Cu := [.loop 58 f102_k58 f102_o58 f102_s58]
noncomputable def f102_c : Cx := ⟨Try.prog, envOf [], 21, lOf f102_u⟩
noncomputable def f102_b : Code := match Try.f102.body with | some b => b | none => .skip
theorem f102_q58 : (Cu.loop 58 f102_k58 f102_o58 f102_s58).Ok f102_c f102_b := ⟨by kernel_rfl, fun ls Kr Kx => by kernel_rfl⟩
theorem f102_x (ps : List P) (ls : List Nat) : execFn f102_c 102 f102_e.tm (explF ps 1 0) ls = (f102_t ps).run fun q => altR (f102_e.res.map fun f => f ps ls) 0 q some := by kernel_rfl
theorem f102_ok : OkEnt Try.prog f102_e := ent_ok (c := f102_c) (g := 102) (body := f102_b) (us := f102_u) (n := 1) (t := f102_t) (good_envOf _ trivial) Try.func102 rfl Try.call102 rfl ⟨f102_q58, trivial⟩ (by kernel_rfl) f102_x (fun _ => rfl)
/-! ### comprador/compradorref06.Count -/
noncomputable def f103_k58 : Sk := { t := [(0, .imm (.slice (.pair (.int .i64) (.pair (.int .i64) .unit))) .unit), (3, .imm (.int .i64) .unit), (4, .imm (.int .i64) .unit)], h := [] }
noncomputable def f103_o58 : List (Out × Sk) := [((.exit 0), { t := [(3, .imm (.int .i64) .unit)], h := [] })]
noncomputable def f103_s58 (ls : List P) : Tree Step :=
 .ite (decide ((lf ls 2).toInt < (((lf ls 0).xs).length : Int))) (
  .ite (inb ((lf ls 2).toInt) (((lf ls 0).xs).length)) (
   .ite (inb ((lf ls 2).toInt) (((lf ls 0).xs).length)) (
    .ret (.inl [lf ls 0, .int .i64 (IntKind.i64.wrap ((IntKind.i64.wrap (((lf ls 1).toInt) + ((((rd ((lf ls 0).xs) (((lf ls 2).toInt).toNat)).snd).fst).toInt))) - (((rd ((lf ls 0).xs) (((lf ls 2).toInt).toNat)).fst).toInt))), .int .i64 (IntKind.i64.wrap (((lf ls 2).toInt) + (1 : Int)))])) (
    .fail)) (
   .fail)) (
  .ret (.inr (0, [lf ls 1])))
noncomputable def f103_t (ps : List P) : Tree (Nat × List P) :=
 .loop (loopT f103_s58 FUEL [lf ps 0, .int .i64 (0 : Int), .int .i64 (0 : Int)]) fun y1 =>
  .ite (Nat.beq y1.1 0) (
   .ret (0, [lf y1.2 0])) (
   .fail)
noncomputable def f103_v (ps : List P) : Option (Nat × List P) := (f103_t ps).run some
noncomputable def f103_e : EntD := ⟨103, [.imm (.slice (.pair (.int .i64) (.pair (.int .i64) .unit)))], f103_v, [fun ps ls qs => ⟨[.imm (.int .i64) (lf qs 0)], [.imm (.slice (.pair (.int .i64) (.pair (.int .i64) .unit))) (lf ps 0)]⟩]⟩
noncomputable def f103_u : List Cu := [.loop 58 f103_k58 f103_o58 f103_s58]
noncomputable def f103_c : Cx := ⟨Try.prog, envOf [], 25, lOf f103_u⟩
noncomputable def f103_b : Code := match Try.f103.body with | some b => b | none => .skip
theorem f103_q58 : (Cu.loop 58 f103_k58 f103_o58 f103_s58).Ok f103_c f103_b := ⟨by kernel_rfl, fun ls Kr Kx => by kernel_rfl⟩
theorem f103_x (ps : List P) (ls : List Nat) : execFn f103_c 103 f103_e.tm (explF ps 1 0) ls = (f103_t ps).run fun q => altR (f103_e.res.map fun f => f ps ls) 0 q some := by kernel_rfl
theorem f103_ok : OkEnt Try.prog f103_e := ent_ok (c := f103_c) (g := 103) (body := f103_b) (us := f103_u) (n := 1) (t := f103_t) (good_envOf _ trivial) Try.func103 rfl Try.call103 rfl ⟨f103_q58, trivial⟩ (by kernel_rfl) f103_x (fun _ => rfl)
/-! ### comprador/compradorlaw06.SpanDoes -/
noncomputable def f13_t (ps : List P) : Tree (Nat × List P) :=
 .ite (decide ((((lf ps 0).xs).length : Int) > (60 : Int))) (
  .loop (f79_v []) fun x1 =>
   .ite (Nat.beq x1.1 0) (
    .ret (0, [lf x1.2 0])) (
    .fail)) (
  .ite (decide ((((lf ps 1).xs).length : Int) > (60 : Int))) (
   .loop (f79_v []) fun x2 =>
    .ite (Nat.beq x2.1 0) (
     .ret (0, [lf x2.2 0])) (
     .fail)) (
   .loop (f81_v [lf ps 0]) fun x3 =>
    .ite (Nat.beq x3.1 0) (
     .ite (!((lf x3.2 0).toBool)) (
      .loop (f79_v []) fun x4 =>
       .ite (Nat.beq x4.1 0) (
        .ret (0, [lf x4.2 0])) (
        .fail)) (
      .loop (f81_v [lf ps 1]) fun x5 =>
       .ite (Nat.beq x5.1 0) (
        .ite (!((lf x5.2 0).toBool)) (
         .loop (f79_v []) fun x6 =>
          .ite (Nat.beq x6.1 0) (
           .ret (0, [lf x6.2 0])) (
           .fail)) (
         .loop (f90_v [lf ps 0]) fun x7 =>
          .ite (Nat.beq x7.1 0) (
           .loop (f91_v [lf ps 0]) fun x8 =>
            .ite (Nat.beq x8.1 0) (
             .ite (!(((lf x7.2 1).toBool) == (decide ((((lf ps 0).xs).length : Int) > (0 : Int))))) (
              .ret (0, [.bool false])) (
              .ite (!(((lf x8.2 1).toBool) == ((lf x7.2 1).toBool))) (
               .ret (0, [.bool false])) (
               .ite ((lf x7.2 1).toBool) (
                .ite (inb (0 : Int) (((lf ps 0).xs).length)) (
                 .ite (((lf x7.2 0).toInt) != (((rd ((lf ps 0).xs) 0).fst).toInt)) (
                  .ret (0, [.bool false])) (
                  .ite (inb (IntKind.i64.wrap ((((lf ps 0).xs).length : Int) - (1 : Int))) (((lf ps 0).xs).length)) (
                   .ite (((lf x8.2 0).toInt) != (IntKind.i64.wrap (((((rd ((lf ps 0).xs) ((IntKind.i64.wrap ((((lf ps 0).xs).length : Int) - (1 : Int))).toNat)).snd).fst).toInt) - (1 : Int)))) (
                    .ret (0, [.bool false])) (
                    .ite (!((lf x7.2 1).toBool)) (
                     .ite (((lf x7.2 0).toInt) != (0 : Int)) (
                      .ret (0, [.bool false])) (
                      .ite (((lf x8.2 0).toInt) != (0 : Int)) (
                       .ret (0, [.bool false])) (
                       .loop (f92_v [lf ps 0, lf ps 2]) fun x9 =>
                        .ite (Nat.beq x9.1 0) (
                         .loop (f93_v [lf ps 0, lf ps 2]) fun x10 =>
                          .ite (Nat.beq x10.1 0) (
                           .ite (((lf x9.2 0).toBool) == ((lf x10.2 0).toBool)) (
                            .loop (f94_v [lf ps 0, lf ps 1]) fun x11 =>
                             .ite (Nat.beq x11.1 0) (
                              .loop (f95_v [lf ps 0, lf ps 1]) fun x12 =>
                               .ite (Nat.beq x12.1 0) (
                                .loop (f82_v [.list ((lf x11.2 0).isNil) ((lf x11.2 0).xs), .list ((lf x12.2 0).isNil) ((lf x12.2 0).xs)]) fun x13 =>
                                 .ite (Nat.beq x13.1 0) (
                                  .ite ((lf x13.2 0).toBool) (
                                   .loop (f96_v [lf ps 0, lf ps 1]) fun x14 =>
                                    .ite (Nat.beq x14.1 0) (
                                     .loop (f97_v [lf ps 0, lf ps 1]) fun x15 =>
                                      .ite (Nat.beq x15.1 0) (
                                       .loop (f82_v [.list ((lf x14.2 0).isNil) ((lf x14.2 0).xs), .list ((lf x15.2 0).isNil) ((lf x15.2 0).xs)]) fun x16 =>
                                        .ite (Nat.beq x16.1 0) (
                                         .ite ((lf x16.2 0).toBool) (
                                          .loop (f98_v [lf ps 0]) fun x17 =>
                                           .ite (Nat.beq x17.1 0) (
                                            .loop (f99_v [lf ps 0]) fun x18 =>
                                             .ite (Nat.beq x18.1 0) (
                                              .loop (f82_v [.list ((lf x17.2 0).isNil) ((lf x17.2 0).xs), .list ((lf x18.2 0).isNil) ((lf x18.2 0).xs)]) fun x19 =>
                                               .ite (Nat.beq x19.1 0) (
                                                .ite ((lf x19.2 0).toBool) (
                                                 .loop (f100_v [lf ps 0, lf ps 1]) fun x20 =>
                                                  .ite (Nat.beq x20.1 0) (
                                                   .loop (f101_v [lf ps 0, lf ps 1]) fun x21 =>
                                                    .ite (Nat.beq x21.1 0) (
                                                     .ite (((lf x20.2 0).toBool) == ((lf x21.2 0).toBool)) (
                                                      .loop (f102_v [lf ps 0]) fun x22 =>
                                                       .ite (Nat.beq x22.1 0) (
                                                        .loop (f103_v [lf ps 0]) fun x23 =>
                                                         .ite (Nat.beq x23.1 0) (
                                                          .ite (((lf x22.2 0).toInt) == ((lf x23.2 0).toInt)) (
                                                           .loop (f79_v []) fun x24 =>
                                                            .ite (Nat.beq x24.1 0) (
                                                             .ret (0, [lf x24.2 0])) (
                                                             .fail)) (
                                                           .ret (0, [.bool false]))) (
                                                          .fail)) (
                                                        .fail)) (
                                                      .ret (0, [.bool false]))) (
                                                     .fail)) (
                                                   .fail)) (
                                                 .ret (0, [.bool false]))) (
                                                .fail)) (
                                              .fail)) (
                                            .fail)) (
                                          .ret (0, [.bool false]))) (
                                         .fail)) (
                                       .fail)) (
                                     .fail)) (
                                   .ret (0, [.bool false]))) (
                                  .fail)) (
                                .fail)) (
                              .fail)) (
                            .ret (0, [.bool false]))) (
                           .fail)) (
                         .fail)))) (
                     .loop (f92_v [lf ps 0, lf ps 2]) fun x25 =>
                      .ite (Nat.beq x25.1 0) (
                       .loop (f93_v [lf ps 0, lf ps 2]) fun x26 =>
                        .ite (Nat.beq x26.1 0) (
                         .ite (((lf x25.2 0).toBool) == ((lf x26.2 0).toBool)) (
                          .loop (f94_v [lf ps 0, lf ps 1]) fun x27 =>
                           .ite (Nat.beq x27.1 0) (
                            .loop (f95_v [lf ps 0, lf ps 1]) fun x28 =>
                             .ite (Nat.beq x28.1 0) (
                              .loop (f82_v [.list ((lf x27.2 0).isNil) ((lf x27.2 0).xs), .list ((lf x28.2 0).isNil) ((lf x28.2 0).xs)]) fun x29 =>
                               .ite (Nat.beq x29.1 0) (
                                .ite ((lf x29.2 0).toBool) (
                                 .loop (f96_v [lf ps 0, lf ps 1]) fun x30 =>
                                  .ite (Nat.beq x30.1 0) (
                                   .loop (f97_v [lf ps 0, lf ps 1]) fun x31 =>
                                    .ite (Nat.beq x31.1 0) (
                                     .loop (f82_v [.list ((lf x30.2 0).isNil) ((lf x30.2 0).xs), .list ((lf x31.2 0).isNil) ((lf x31.2 0).xs)]) fun x32 =>
                                      .ite (Nat.beq x32.1 0) (
                                       .ite ((lf x32.2 0).toBool) (
                                        .loop (f98_v [lf ps 0]) fun x33 =>
                                         .ite (Nat.beq x33.1 0) (
                                          .loop (f99_v [lf ps 0]) fun x34 =>
                                           .ite (Nat.beq x34.1 0) (
                                            .loop (f82_v [.list ((lf x33.2 0).isNil) ((lf x33.2 0).xs), .list ((lf x34.2 0).isNil) ((lf x34.2 0).xs)]) fun x35 =>
                                             .ite (Nat.beq x35.1 0) (
                                              .ite ((lf x35.2 0).toBool) (
                                               .loop (f100_v [lf ps 0, lf ps 1]) fun x36 =>
                                                .ite (Nat.beq x36.1 0) (
                                                 .loop (f101_v [lf ps 0, lf ps 1]) fun x37 =>
                                                  .ite (Nat.beq x37.1 0) (
                                                   .ite (((lf x36.2 0).toBool) == ((lf x37.2 0).toBool)) (
                                                    .loop (f102_v [lf ps 0]) fun x38 =>
                                                     .ite (Nat.beq x38.1 0) (
                                                      .loop (f103_v [lf ps 0]) fun x39 =>
                                                       .ite (Nat.beq x39.1 0) (
                                                        .ite (((lf x38.2 0).toInt) == ((lf x39.2 0).toInt)) (
                                                         .loop (f79_v []) fun x40 =>
                                                          .ite (Nat.beq x40.1 0) (
                                                           .ret (0, [lf x40.2 0])) (
                                                           .fail)) (
                                                         .ret (0, [.bool false]))) (
                                                        .fail)) (
                                                      .fail)) (
                                                    .ret (0, [.bool false]))) (
                                                   .fail)) (
                                                 .fail)) (
                                               .ret (0, [.bool false]))) (
                                              .fail)) (
                                            .fail)) (
                                          .fail)) (
                                        .ret (0, [.bool false]))) (
                                       .fail)) (
                                     .fail)) (
                                   .fail)) (
                                 .ret (0, [.bool false]))) (
                                .fail)) (
                              .fail)) (
                            .fail)) (
                          .ret (0, [.bool false]))) (
                         .fail)) (
                       .fail)))) (
                   .fail))) (
                 .fail)) (
                .ite (!((lf x7.2 1).toBool)) (
                 .ite (((lf x7.2 0).toInt) != (0 : Int)) (
                  .ret (0, [.bool false])) (
                  .ite (((lf x8.2 0).toInt) != (0 : Int)) (
                   .ret (0, [.bool false])) (
                   .loop (f92_v [lf ps 0, lf ps 2]) fun x41 =>
                    .ite (Nat.beq x41.1 0) (
                     .loop (f93_v [lf ps 0, lf ps 2]) fun x42 =>
                      .ite (Nat.beq x42.1 0) (
                       .ite (((lf x41.2 0).toBool) == ((lf x42.2 0).toBool)) (
                        .loop (f94_v [lf ps 0, lf ps 1]) fun x43 =>
                         .ite (Nat.beq x43.1 0) (
                          .loop (f95_v [lf ps 0, lf ps 1]) fun x44 =>
                           .ite (Nat.beq x44.1 0) (
                            .loop (f82_v [.list ((lf x43.2 0).isNil) ((lf x43.2 0).xs), .list ((lf x44.2 0).isNil) ((lf x44.2 0).xs)]) fun x45 =>
                             .ite (Nat.beq x45.1 0) (
                              .ite ((lf x45.2 0).toBool) (
                               .loop (f96_v [lf ps 0, lf ps 1]) fun x46 =>
                                .ite (Nat.beq x46.1 0) (
                                 .loop (f97_v [lf ps 0, lf ps 1]) fun x47 =>
                                  .ite (Nat.beq x47.1 0) (
                                   .loop (f82_v [.list ((lf x46.2 0).isNil) ((lf x46.2 0).xs), .list ((lf x47.2 0).isNil) ((lf x47.2 0).xs)]) fun x48 =>
                                    .ite (Nat.beq x48.1 0) (
                                     .ite ((lf x48.2 0).toBool) (
                                      .loop (f98_v [lf ps 0]) fun x49 =>
                                       .ite (Nat.beq x49.1 0) (
                                        .loop (f99_v [lf ps 0]) fun x50 =>
                                         .ite (Nat.beq x50.1 0) (
                                          .loop (f82_v [.list ((lf x49.2 0).isNil) ((lf x49.2 0).xs), .list ((lf x50.2 0).isNil) ((lf x50.2 0).xs)]) fun x51 =>
                                           .ite (Nat.beq x51.1 0) (
                                            .ite ((lf x51.2 0).toBool) (
                                             .loop (f100_v [lf ps 0, lf ps 1]) fun x52 =>
                                              .ite (Nat.beq x52.1 0) (
                                               .loop (f101_v [lf ps 0, lf ps 1]) fun x53 =>
                                                .ite (Nat.beq x53.1 0) (
                                                 .ite (((lf x52.2 0).toBool) == ((lf x53.2 0).toBool)) (
                                                  .loop (f102_v [lf ps 0]) fun x54 =>
                                                   .ite (Nat.beq x54.1 0) (
                                                    .loop (f103_v [lf ps 0]) fun x55 =>
                                                     .ite (Nat.beq x55.1 0) (
                                                      .ite (((lf x54.2 0).toInt) == ((lf x55.2 0).toInt)) (
                                                       .loop (f79_v []) fun x56 =>
                                                        .ite (Nat.beq x56.1 0) (
                                                         .ret (0, [lf x56.2 0])) (
                                                         .fail)) (
                                                       .ret (0, [.bool false]))) (
                                                      .fail)) (
                                                    .fail)) (
                                                  .ret (0, [.bool false]))) (
                                                 .fail)) (
                                               .fail)) (
                                             .ret (0, [.bool false]))) (
                                            .fail)) (
                                          .fail)) (
                                        .fail)) (
                                      .ret (0, [.bool false]))) (
                                     .fail)) (
                                   .fail)) (
                                 .fail)) (
                               .ret (0, [.bool false]))) (
                              .fail)) (
                            .fail)) (
                          .fail)) (
                        .ret (0, [.bool false]))) (
                       .fail)) (
                     .fail)))) (
                 .loop (f92_v [lf ps 0, lf ps 2]) fun x57 =>
                  .ite (Nat.beq x57.1 0) (
                   .loop (f93_v [lf ps 0, lf ps 2]) fun x58 =>
                    .ite (Nat.beq x58.1 0) (
                     .ite (((lf x57.2 0).toBool) == ((lf x58.2 0).toBool)) (
                      .loop (f94_v [lf ps 0, lf ps 1]) fun x59 =>
                       .ite (Nat.beq x59.1 0) (
                        .loop (f95_v [lf ps 0, lf ps 1]) fun x60 =>
                         .ite (Nat.beq x60.1 0) (
                          .loop (f82_v [.list ((lf x59.2 0).isNil) ((lf x59.2 0).xs), .list ((lf x60.2 0).isNil) ((lf x60.2 0).xs)]) fun x61 =>
                           .ite (Nat.beq x61.1 0) (
                            .ite ((lf x61.2 0).toBool) (
                             .loop (f96_v [lf ps 0, lf ps 1]) fun x62 =>
                              .ite (Nat.beq x62.1 0) (
                               .loop (f97_v [lf ps 0, lf ps 1]) fun x63 =>
                                .ite (Nat.beq x63.1 0) (
                                 .loop (f82_v [.list ((lf x62.2 0).isNil) ((lf x62.2 0).xs), .list ((lf x63.2 0).isNil) ((lf x63.2 0).xs)]) fun x64 =>
                                  .ite (Nat.beq x64.1 0) (
                                   .ite ((lf x64.2 0).toBool) (
                                    .loop (f98_v [lf ps 0]) fun x65 =>
                                     .ite (Nat.beq x65.1 0) (
                                      .loop (f99_v [lf ps 0]) fun x66 =>
                                       .ite (Nat.beq x66.1 0) (
                                        .loop (f82_v [.list ((lf x65.2 0).isNil) ((lf x65.2 0).xs), .list ((lf x66.2 0).isNil) ((lf x66.2 0).xs)]) fun x67 =>
                                         .ite (Nat.beq x67.1 0) (
                                          .ite ((lf x67.2 0).toBool) (
                                           .loop (f100_v [lf ps 0, lf ps 1]) fun x68 =>
                                            .ite (Nat.beq x68.1 0) (
                                             .loop (f101_v [lf ps 0, lf ps 1]) fun x69 =>
                                              .ite (Nat.beq x69.1 0) (
                                               .ite (((lf x68.2 0).toBool) == ((lf x69.2 0).toBool)) (
                                                .loop (f102_v [lf ps 0]) fun x70 =>
                                                 .ite (Nat.beq x70.1 0) (
                                                  .loop (f103_v [lf ps 0]) fun x71 =>
                                                   .ite (Nat.beq x71.1 0) (
                                                    .ite (((lf x70.2 0).toInt) == ((lf x71.2 0).toInt)) (
                                                     .loop (f79_v []) fun x72 =>
                                                      .ite (Nat.beq x72.1 0) (
                                                       .ret (0, [lf x72.2 0])) (
                                                       .fail)) (
                                                     .ret (0, [.bool false]))) (
                                                    .fail)) (
                                                  .fail)) (
                                                .ret (0, [.bool false]))) (
                                               .fail)) (
                                             .fail)) (
                                           .ret (0, [.bool false]))) (
                                          .fail)) (
                                        .fail)) (
                                      .fail)) (
                                    .ret (0, [.bool false]))) (
                                   .fail)) (
                                 .fail)) (
                               .fail)) (
                             .ret (0, [.bool false]))) (
                            .fail)) (
                          .fail)) (
                        .fail)) (
                      .ret (0, [.bool false]))) (
                     .fail)) (
                   .fail)))))) (
             .fail)) (
           .fail))) (
        .fail))) (
     .fail)))
noncomputable def f13_v (ps : List P) : Option (Nat × List P) := (f13_t ps).run some
noncomputable def f13_e : EntD := ⟨13, [.imm (.slice (.pair (.int .i64) (.pair (.int .i64) .unit))), .imm (.slice (.pair (.int .i64) (.pair (.int .i64) .unit))), .imm (.int .i64)], f13_v, [fun ps ls qs => ⟨[.imm .bool (lf qs 0)], [.imm (.slice (.pair (.int .i64) (.pair (.int .i64) .unit))) (lf ps 0), .imm (.slice (.pair (.int .i64) (.pair (.int .i64) .unit))) (lf ps 1), .imm (.int .i64) (lf ps 2)]⟩]⟩
noncomputable def f13_u : List Cu := []
noncomputable def f13_c : Cx := ⟨Try.prog, envOf [f79_e, f81_e, f82_e, f90_e, f91_e, f92_e, f93_e, f94_e, f95_e, f96_e, f97_e, f98_e, f99_e, f100_e, f101_e, f102_e, f103_e], 136, lOf f13_u⟩
noncomputable def f13_b : Code := match Try.f13.body with | some b => b | none => .skip
theorem f13_x (ps : List P) (ls : List Nat) : execFn f13_c 13 f13_e.tm (explF ps 3 0) ls = (f13_t ps).run fun q => altR (f13_e.res.map fun f => f ps ls) 0 q some := by kernel_rfl
theorem f13_ok : OkEnt Try.prog f13_e := ent_ok (c := f13_c) (g := 13) (body := f13_b) (us := f13_u) (n := 3) (t := f13_t) (good_envOf _ ⟨f79_ok, f81_ok, f82_ok, f90_ok, f91_ok, f92_ok, f93_ok, f94_ok, f95_ok, f96_ok, f97_ok, f98_ok, f99_ok, f100_ok, f101_ok, f102_ok, f103_ok, trivial⟩) Try.func13 rfl Try.call13 rfl trivial (by kernel_rfl) f13_x (fun _ => rfl)
end Go.Proofs.Ytjemihhhkhdbeaa
