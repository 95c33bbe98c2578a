/- Functions: what each tells. Conditions: none. -/
import Derived.Test.YtjemihhhkhdbeaaFSp1
open Go Go.Eng Go.Proofs
set_option pp.deepTerms true
set_option linter.unusedVariables false
namespace Go.Proofs.Ytjemihhhkhdbeaa
/-! ### comprador/compradorref03.Runes -/
noncomputable def f174_k60 : Sk := { t := [(0, .imm .str .unit), (3, .slf 4900 (.int .i64)), (4, .imm (.int .i64) .unit)], h := [(4900, .arr (.int .i64) true [])] }
noncomputable def f174_o60 : List (Out × Sk) := [((.exit 0), { t := [(3, .slf 4930 (.int .i64))], h := [(4930, .arr (.int .i64) true [])] })]
noncomputable def f174_s60 (ls : List P) : Tree Step :=
 .ite (decide ((lf ls 1).toInt < (((lf ls 0).toStr).size : Int))) (
  .loop (f194_v [lf ls 0, lf ls 1]) fun x1 =>
   .ite (Nat.beq x1.1 0) (
    .ite (decide ((((lf ls 2).xs).length + 1) * 8 ≤ 140737488355328)) (
     .ret (.inl [lf ls 0, .int .i64 (IntKind.i64.wrap (((lf ls 1).toInt) + ((lf x1.2 1).toInt))), .list (((lf ls 2).isNil) && false) (((lf ls 2).xs) ++ ([lf x1.2 0] : List P))])) (
     .fail)) (
    .fail)) (
  .ret (.inr (0, [.list ((lf ls 2).isNil) ((lf ls 2).xs)])))
noncomputable def f174_t (ps : List P) : Tree (Nat × List P) :=
 .loop (loopT f174_s60 FUEL [lf ps 0, .int .i64 (0 : Int), .list true []]) fun y2 =>
  .ite (Nat.beq y2.1 0) (
   .ret (0, [.list ((lf y2.2 0).isNil) ((lf y2.2 0).xs)])) (
   .fail)
noncomputable def f174_v (ps : List P) : Option (Nat × List P) := (f174_t ps).run some
noncomputable def f174_e : EntD := ⟨174, [.imm .str], f174_v, [fun ps ls qs => ⟨[.own (ls.getD 2929 0) (.int .i64) (lf qs 0).isNil (lf qs 0).xs], [.imm .str (lf ps 0)]⟩]⟩
noncomputable def f174_u : List Cu := [.loop 60 f174_k60 f174_o60 f174_s60]
noncomputable def f174_c : Cx := ⟨Try.prog, envOf [f194_e], 25, lOf f174_u, fun _ => false⟩
noncomputable def f174_b : Code := match Try.f174.body with | some b => b | none => .skip
theorem f174_q60 : (Cu.loop 60 f174_k60 f174_o60 f174_s60).Ok f174_c f174_b := ⟨by kernel_rfl, fun ls Kr Kx => by kernel_rfl⟩
theorem f174_x (ps : List P) (ls : List Nat) : execFn f174_c 174 f174_e.tm (explF ps 1 0) ls = (f174_t ps).run fun q => altR (f174_e.res.map fun f => f ps ls) 0 q some := by kernel_rfl
theorem f174_ok : OkEnt Try.prog f174_e := ent_ok (c := f174_c) (g := 174) (body := f174_b) (us := f174_u) (n := 1) (t := f174_t) (good_envOf _ ⟨f194_ok, trivial⟩) Try.func174 rfl Try.call174 rfl ⟨f174_q60, trivial⟩ (by kernel_rfl) f174_x (fun _ => rfl)
/-! ### comprador/compradorref03.Kind -/
noncomputable def f175_t (ps : List P) : Tree (Nat × List P) :=
 .ite (decide ((lf ps 0).toInt ≥ (97 : Int))) (
  .ite (decide ((lf ps 0).toInt ≤ (122 : Int))) (
   .ret (0, [.int .i64 (0 : Int)])) (
   .ite (decide ((lf ps 0).toInt ≥ (945 : Int))) (
    .ite (decide ((lf ps 0).toInt ≤ (969 : Int))) (
     .ret (0, [.int .i64 (1 : Int)])) (
     .ite (decide ((lf ps 0).toInt ≥ (48 : Int))) (
      .ite (decide ((lf ps 0).toInt ≤ (57 : Int))) (
       .ret (0, [.int .i64 (2 : Int)])) (
       .ite (((lf ps 0).toInt) == (45 : Int)) (
        .ret (0, [.int .i64 (3 : Int)])) (
        .ret (0, [.int .i64 (4 : Int)])))) (
      .ite (((lf ps 0).toInt) == (45 : Int)) (
       .ret (0, [.int .i64 (3 : Int)])) (
       .ret (0, [.int .i64 (4 : Int)]))))) (
    .ite (decide ((lf ps 0).toInt ≥ (48 : Int))) (
     .ite (decide ((lf ps 0).toInt ≤ (57 : Int))) (
      .ret (0, [.int .i64 (2 : Int)])) (
      .ite (((lf ps 0).toInt) == (45 : Int)) (
       .ret (0, [.int .i64 (3 : Int)])) (
       .ret (0, [.int .i64 (4 : Int)])))) (
     .ite (((lf ps 0).toInt) == (45 : Int)) (
      .ret (0, [.int .i64 (3 : Int)])) (
      .ret (0, [.int .i64 (4 : Int)])))))) (
  .ite (decide ((lf ps 0).toInt ≥ (945 : Int))) (
   .ite (decide ((lf ps 0).toInt ≤ (969 : Int))) (
    .ret (0, [.int .i64 (1 : Int)])) (
    .ite (decide ((lf ps 0).toInt ≥ (48 : Int))) (
     .ite (decide ((lf ps 0).toInt ≤ (57 : Int))) (
      .ret (0, [.int .i64 (2 : Int)])) (
      .ite (((lf ps 0).toInt) == (45 : Int)) (
       .ret (0, [.int .i64 (3 : Int)])) (
       .ret (0, [.int .i64 (4 : Int)])))) (
     .ite (((lf ps 0).toInt) == (45 : Int)) (
      .ret (0, [.int .i64 (3 : Int)])) (
      .ret (0, [.int .i64 (4 : Int)]))))) (
   .ite (decide ((lf ps 0).toInt ≥ (48 : Int))) (
    .ite (decide ((lf ps 0).toInt ≤ (57 : Int))) (
     .ret (0, [.int .i64 (2 : Int)])) (
     .ite (((lf ps 0).toInt) == (45 : Int)) (
      .ret (0, [.int .i64 (3 : Int)])) (
      .ret (0, [.int .i64 (4 : Int)])))) (
    .ite (((lf ps 0).toInt) == (45 : Int)) (
     .ret (0, [.int .i64 (3 : Int)])) (
     .ret (0, [.int .i64 (4 : Int)])))))
noncomputable def f175_v (ps : List P) : Option (Nat × List P) := (f175_t ps).run some
noncomputable def f175_e : EntD := ⟨175, [.imm (.int .i64)], f175_v, [fun ps ls qs => ⟨[.imm (.int .i64) (lf qs 0)], [.imm (.int .i64) (lf ps 0)]⟩]⟩
noncomputable def f175_u : List Cu := []
noncomputable def f175_c : Cx := ⟨Try.prog, envOf [], 23, lOf f175_u, fun _ => false⟩
noncomputable def f175_b : Code := match Try.f175.body with | some b => b | none => .skip
theorem f175_x (ps : List P) (ls : List Nat) : execFn f175_c 175 f175_e.tm (explF ps 1 0) ls = (f175_t ps).run fun q => altR (f175_e.res.map fun f => f ps ls) 0 q some := by kernel_rfl
theorem f175_ok : OkEnt Try.prog f175_e := ent_ok (c := f175_c) (g := 175) (body := f175_b) (us := f175_u) (n := 1) (t := f175_t) (good_envOf _ trivial) Try.func175 rfl Try.call175 rfl trivial (by kernel_rfl) f175_x (fun _ => rfl)
/-! ### comprador/compradorref03.Fit -/
noncomputable def f130_k122 : Sk := { t := [(3, .slf 5900 (.int .i64)), (4, .imm (.int .i64) .unit)], h := [(5900, .arr (.int .i64) true [])] }
noncomputable def f130_o122 : List (Out × Sk) := [(.ret, { t := [(2, .imm .bool .unit)], h := [] }), ((.exit 0), { t := [(3, .slf 5930 (.int .i64))], h := [(5930, .arr (.int .i64) true [])] })]
noncomputable def f130_s122 (ls : List P) : Tree Step :=
 .ite (decide ((lf ls 0).toInt < (((lf ls 1).xs).length : Int))) (
  .ite (inb ((lf ls 0).toInt) (((lf ls 1).xs).length)) (
   .loop (f175_v [rd ((lf ls 1).xs) (((lf ls 0).toInt).toNat)]) fun x2 =>
    .ite (Nat.beq x2.1 0) (
     .ite (((lf x2.2 0).toInt) == (4 : Int)) (
      .ret (.inr (0, [.bool false]))) (
      .ite (((lf ls 0).toInt) == (0 : Int)) (
       .ite (inb ((lf ls 0).toInt) (((lf ls 1).xs).length)) (
        .loop (f175_v [rd ((lf ls 1).xs) (((lf ls 0).toInt).toNat)]) fun x3 =>
         .ite (Nat.beq x3.1 0) (
          .ite (decide ((lf x3.2 0).toInt > (1 : Int))) (
           .ret (.inr (0, [.bool false]))) (
           .ret (.inl [.int .i64 (IntKind.i64.wrap (((lf ls 0).toInt) + (1 : Int))), .list ((lf ls 1).isNil) ((lf ls 1).xs)]))) (
          .fail)) (
        .fail)) (
       .ret (.inl [.int .i64 (IntKind.i64.wrap (((lf ls 0).toInt) + (1 : Int))), .list ((lf ls 1).isNil) ((lf ls 1).xs)])))) (
     .fail)) (
   .fail)) (
  .ret (.inr (1, [.list ((lf ls 1).isNil) ((lf ls 1).xs)])))
noncomputable def f130_t (ps : List P) : Tree (Nat × List P) :=
 .ite (decide ((((lf ps 0).toStr).size : Int) > (100 : Int))) (
  .ret (0, [.bool false])) (
  .loop (f174_v [lf ps 0]) fun x1 =>
   .ite (Nat.beq x1.1 0) (
    .loop (loopT f130_s122 FUEL [.int .i64 (0 : Int), .list ((lf x1.2 0).isNil) ((lf x1.2 0).xs)]) fun y4 =>
     .ite (Nat.beq y4.1 0) (
      .ret (0, [lf y4.2 0])) (
      .ite (Nat.beq y4.1 1) (
       .ite (decide ((((lf y4.2 0).xs).length : Int) ≥ (1 : Int))) (
        .ret (0, [.bool (decide ((((lf y4.2 0).xs).length : Int) ≤ (12 : Int)))])) (
        .ret (0, [.bool false]))) (
       .fail))) (
    .fail))
noncomputable def f130_v (ps : List P) : Option (Nat × List P) := (f130_t ps).run some
noncomputable def f130_e : EntD := ⟨130, [.imm .str], f130_v, [fun ps ls qs => ⟨[.imm .bool (lf qs 0)], [.imm .str (lf ps 0)]⟩]⟩
noncomputable def f130_u : List Cu := [.loop 122 f130_k122 f130_o122 f130_s122]
noncomputable def f130_c : Cx := ⟨Try.prog, envOf [f174_e, f175_e], 42, lOf f130_u, fun _ => false⟩
noncomputable def f130_b : Code := match Try.f130.body with | some b => b | none => .skip
theorem f130_q122 : (Cu.loop 122 f130_k122 f130_o122 f130_s122).Ok f130_c f130_b := ⟨by kernel_rfl, fun ls Kr Kx => by kernel_rfl⟩
theorem f130_x (ps : List P) (ls : List Nat) : execFn f130_c 130 f130_e.tm (explF ps 1 0) ls = (f130_t ps).run fun q => altR (f130_e.res.map fun f => f ps ls) 0 q some := by kernel_rfl
theorem f130_ok : OkEnt Try.prog f130_e := ent_ok (c := f130_c) (g := 130) (body := f130_b) (us := f130_u) (n := 1) (t := f130_t) (good_envOf _ ⟨f174_ok, f175_ok, trivial⟩) Try.func130 rfl Try.call130 rfl ⟨f130_q122, trivial⟩ (by kernel_rfl) f130_x (fun _ => rfl)
/-! ### comprador/compradorref06.Check -/
noncomputable def f81_k26 : Sk := { t := [(0, .imm (.slice (.pair (.int .i64) (.pair (.int .i64) .unit))) .unit), (3, .imm (.int .i64) .unit)], h := [] }
noncomputable def f81_o26 : List (Out × Sk) := [(.ret, { t := [(2, .imm .bool .unit)], h := [] }), ((.exit 0), { t := [], h := [] })]
noncomputable def f81_s26 (ls : List P) : Tree Step :=
 .ite (decide ((lf ls 1).toInt < (((lf ls 0).xs).length : Int))) (
  .ite (inb ((lf ls 1).toInt) (((lf ls 0).xs).length)) (
   .ite (decide (((rd ((lf ls 0).xs) (((lf ls 1).toInt).toNat)).fst).toInt < (0 : Int))) (
    .ret (.inr (0, [.bool false]))) (
    .ite (inb ((lf ls 1).toInt) (((lf ls 0).xs).length)) (
     .ite (decide ((((rd ((lf ls 0).xs) (((lf ls 1).toInt).toNat)).snd).fst).toInt > (1000000000 : Int))) (
      .ret (.inr (0, [.bool false]))) (
      .ite (inb ((lf ls 1).toInt) (((lf ls 0).xs).length)) (
       .ite (inb ((lf ls 1).toInt) (((lf ls 0).xs).length)) (
        .ite (decide (((rd ((lf ls 0).xs) (((lf ls 1).toInt).toNat)).fst).toInt ≥ (((rd ((lf ls 0).xs) (((lf ls 1).toInt).toNat)).snd).fst).toInt)) (
         .ret (.inr (0, [.bool false]))) (
         .ite (decide ((lf ls 1).toInt > (0 : Int))) (
          .ite (inb ((lf ls 1).toInt) (((lf ls 0).xs).length)) (
           .ite (inb (IntKind.i64.wrap (((lf ls 1).toInt) - (1 : Int))) (((lf ls 0).xs).length)) (
            .ite (decide (((rd ((lf ls 0).xs) (((lf ls 1).toInt).toNat)).fst).toInt ≤ (((rd ((lf ls 0).xs) ((IntKind.i64.wrap (((lf ls 1).toInt) - (1 : Int))).toNat)).snd).fst).toInt)) (
             .ret (.inr (0, [.bool false]))) (
             .ret (.inl [lf ls 0, .int .i64 (IntKind.i64.wrap (((lf ls 1).toInt) + (1 : Int)))]))) (
            .fail)) (
           .fail)) (
          .ret (.inl [lf ls 0, .int .i64 (IntKind.i64.wrap (((lf ls 1).toInt) + (1 : Int)))])))) (
        .fail)) (
       .fail))) (
     .fail))) (
   .fail)) (
  .ret (.inr (1, [])))
noncomputable def f81_t (ps : List P) : Tree (Nat × List P) :=
 .loop (loopT f81_s26 FUEL [lf ps 0, .int .i64 (0 : Int)]) fun y1 =>
  .ite (Nat.beq y1.1 0) (
   .ret (0, [lf y1.2 0])) (
   .ite (Nat.beq y1.1 1) (
    .ret (0, [.bool true])) (
    .fail))
noncomputable def f81_v (ps : List P) : Option (Nat × List P) := (f81_t ps).run some
noncomputable def f81_e : EntD := ⟨81, [.imm (.slice (.pair (.int .i64) (.pair (.int .i64) .unit)))], f81_v, [fun ps ls qs => ⟨[.imm .bool (lf qs 0)], [.imm (.slice (.pair (.int .i64) (.pair (.int .i64) .unit))) (lf ps 0)]⟩]⟩
noncomputable def f81_u : List Cu := [.loop 26 f81_k26 f81_o26 f81_s26]
noncomputable def f81_c : Cx := ⟨Try.prog, envOf [], 55, lOf f81_u, fun _ => false⟩
noncomputable def f81_b : Code := match Try.f81.body with | some b => b | none => .skip
theorem f81_q26 : (Cu.loop 26 f81_k26 f81_o26 f81_s26).Ok f81_c f81_b := ⟨by kernel_rfl, fun ls Kr Kx => by kernel_rfl⟩
theorem f81_x (ps : List P) (ls : List Nat) : execFn f81_c 81 f81_e.tm (explF ps 1 0) ls = (f81_t ps).run fun q => altR (f81_e.res.map fun f => f ps ls) 0 q some := by kernel_rfl
theorem f81_ok : OkEnt Try.prog f81_e := ent_ok (c := f81_c) (g := 81) (body := f81_b) (us := f81_u) (n := 1) (t := f81_t) (good_envOf _ trivial) Try.func81 rfl Try.call81 rfl ⟨f81_q26, trivial⟩ (by kernel_rfl) f81_x (fun _ => rfl)
/-! ### comprador/compradorref18.Check -/
noncomputable def f105_t (ps : List P) : Tree (Nat × List P) :=
 .loop (f130_v [(lf ps 0).fst]) fun x1 =>
  .ite (Nat.beq x1.1 0) (
   .ite ((lf x1.2 0).toBool) (
    .loop (f81_v [((lf ps 0).snd).fst]) fun x2 =>
     .ite (Nat.beq x2.1 0) (
      .ret (0, [lf x2.2 0])) (
      .fail)) (
    .ret (0, [.bool false]))) (
   .fail)
noncomputable def f105_v (ps : List P) : Option (Nat × List P) := (f105_t ps).run some
noncomputable def f105_e : EntD := ⟨105, [.imm (.pair .str (.pair (.slice (.pair (.int .i64) (.pair (.int .i64) .unit))) (.pair .bool .unit)))], f105_v, [fun ps ls qs => ⟨[.imm .bool (lf qs 0)], [.imm (.pair .str (.pair (.slice (.pair (.int .i64) (.pair (.int .i64) .unit))) (.pair .bool .unit))) (lf ps 0)]⟩]⟩
noncomputable def f105_u : List Cu := []
noncomputable def f105_c : Cx := ⟨Try.prog, envOf [f81_e, f130_e], 11, lOf f105_u, fun _ => false⟩
noncomputable def f105_b : Code := match Try.f105.body with | some b => b | none => .skip
theorem f105_x (ps : List P) (ls : List Nat) : execFn f105_c 105 f105_e.tm (explF ps 1 0) ls = (f105_t ps).run fun q => altR (f105_e.res.map fun f => f ps ls) 0 q some := by kernel_rfl
theorem f105_ok : OkEnt Try.prog f105_e := ent_ok (c := f105_c) (g := 105) (body := f105_b) (us := f105_u) (n := 1) (t := f105_t) (good_envOf _ ⟨f81_ok, f130_ok, trivial⟩) Try.func105 rfl Try.call105 rfl trivial (by kernel_rfl) f105_x (fun _ => rfl)
/-! ### comprador/compradorref06.All -/
noncomputable def f87_t (ps : List P) : Tree (Nat × List P) :=
 .ret (0, [.list false [.pair (.int .i64 (0 : Int)) (.pair (.int .i64 (1000000000 : Int)) .unit)]])
noncomputable def f87_v (ps : List P) : Option (Nat × List P) := (f87_t ps).run some
noncomputable def f87_e : EntD := ⟨87, [], f87_v, [fun ps ls qs => ⟨[.own 0 (.pair (.int .i64) (.pair (.int .i64) .unit)) (lf qs 0).isNil (lf qs 0).xs], []⟩]⟩
noncomputable def f87_u : List Cu := []
noncomputable def f87_c : Cx := ⟨Try.prog, envOf [], 3, lOf f87_u, fun _ => false⟩
noncomputable def f87_b : Code := match Try.f87.body with | some b => b | none => .skip
theorem f87_x (ps : List P) (ls : List Nat) : execFn f87_c 87 f87_e.tm (explF ps 0 0) ls = (f87_t ps).run fun q => altR (f87_e.res.map fun f => f ps ls) 0 q some := by kernel_rfl
theorem f87_ok : OkEnt Try.prog f87_e := ent_ok (c := f87_c) (g := 87) (body := f87_b) (us := f87_u) (n := 0) (t := f87_t) (good_envOf _ trivial) Try.func87 rfl Try.call87 rfl trivial (by kernel_rfl) f87_x (fun _ => rfl)
/-! ### comprador/compradorref06.Same -/
noncomputable def f82_k58 : Sk := { t := [(0, .imm (.slice (.pair (.int .i64) (.pair (.int .i64) .unit))) .unit), (1, .imm (.slice (.pair (.int .i64) (.pair (.int .i64) .unit))) .unit), (5, .imm (.int .i64) .unit)], h := [] }
noncomputable def f82_o58 : List (Out × Sk) := [(.ret, { t := [(4, .imm .bool .unit)], h := [] }), ((.exit 0), { t := [], h := [] })]
noncomputable def f82_s58 (ls : List P) : Tree Step :=
 .ite (decide ((lf ls 2).toInt < (((lf ls 0).xs).length : Int))) (
  .ite (inb ((lf ls 2).toInt) (((lf ls 0).xs).length)) (
   .ite (inb ((lf ls 2).toInt) (((lf ls 1).xs).length)) (
    .ite (!(eqP (.pair (.int .i64) (.pair (.int .i64) .unit)) (rd ((lf ls 0).xs) (((lf ls 2).toInt).toNat)) (rd ((lf ls 1).xs) (((lf ls 2).toInt).toNat)))) (
     .ret (.inr (0, [.bool false]))) (
     .ret (.inl [lf ls 0, lf ls 1, .int .i64 (IntKind.i64.wrap (((lf ls 2).toInt) + (1 : Int)))]))) (
    .fail)) (
   .fail)) (
  .ret (.inr (1, [])))
noncomputable def f82_t (ps : List P) : Tree (Nat × List P) :=
 .ite ((((lf ps 0).xs).length : Int) != (((lf ps 1).xs).length : Int)) (
  .ret (0, [.bool false])) (
  .loop (loopT f82_s58 FUEL [lf ps 0, lf ps 1, .int .i64 (0 : Int)]) fun y1 =>
   .ite (Nat.beq y1.1 0) (
    .ret (0, [lf y1.2 0])) (
    .ite (Nat.beq y1.1 1) (
     .ret (0, [.bool true])) (
     .fail)))
noncomputable def f82_v (ps : List P) : Option (Nat × List P) := (f82_t ps).run some
noncomputable def f82_e : EntD := ⟨82, [.imm (.slice (.pair (.int .i64) (.pair (.int .i64) .unit))), .imm (.slice (.pair (.int .i64) (.pair (.int .i64) .unit)))], f82_v, [fun ps ls qs => ⟨[.imm .bool (lf qs 0)], [.imm (.slice (.pair (.int .i64) (.pair (.int .i64) .unit))) (lf ps 0), .imm (.slice (.pair (.int .i64) (.pair (.int .i64) .unit))) (lf ps 1)]⟩]⟩
noncomputable def f82_u : List Cu := [.loop 58 f82_k58 f82_o58 f82_s58]
noncomputable def f82_c : Cx := ⟨Try.prog, envOf [], 26, lOf f82_u, fun _ => false⟩
noncomputable def f82_b : Code := match Try.f82.body with | some b => b | none => .skip
theorem f82_q58 : (Cu.loop 58 f82_k58 f82_o58 f82_s58).Ok f82_c f82_b := ⟨by kernel_rfl, fun ls Kr Kx => by kernel_rfl⟩
theorem f82_x (ps : List P) (ls : List Nat) : execFn f82_c 82 f82_e.tm (explF ps 2 0) ls = (f82_t ps).run fun q => altR (f82_e.res.map fun f => f ps ls) 0 q some := by kernel_rfl
theorem f82_ok : OkEnt Try.prog f82_e := ent_ok (c := f82_c) (g := 82) (body := f82_b) (us := f82_u) (n := 2) (t := f82_t) (good_envOf _ trivial) Try.func82 rfl Try.call82 rfl ⟨f82_q58, trivial⟩ (by kernel_rfl) f82_x (fun _ => rfl)
/-! ### comprador/compradorref18.Full -/
noncomputable def f106_t (ps : List P) : Tree (Nat × List P) :=
 .ite (((((lf ps 0).snd).snd).fst).toBool) (
  .loop (f87_v []) fun x1 =>
   .ite (Nat.beq x1.1 0) (
    .loop (f82_v [((lf ps 0).snd).fst, .list ((lf x1.2 0).isNil) ((lf x1.2 0).xs)]) fun x2 =>
     .ite (Nat.beq x2.1 0) (
      .ret (0, [lf x2.2 0])) (
      .fail)) (
    .fail)) (
  .ret (0, [.bool false]))
noncomputable def f106_v (ps : List P) : Option (Nat × List P) := (f106_t ps).run some
noncomputable def f106_e : EntD := ⟨106, [.imm (.pair .str (.pair (.slice (.pair (.int .i64) (.pair (.int .i64) .unit))) (.pair .bool .unit)))], f106_v, [fun ps ls qs => ⟨[.imm .bool (lf qs 0)], [.imm (.pair .str (.pair (.slice (.pair (.int .i64) (.pair (.int .i64) .unit))) (.pair .bool .unit))) (lf ps 0)]⟩]⟩
noncomputable def f106_u : List Cu := []
noncomputable def f106_c : Cx := ⟨Try.prog, envOf [f82_e, f87_e], 11, lOf f106_u, fun _ => false⟩
noncomputable def f106_b : Code := match Try.f106.body with | some b => b | none => .skip
theorem f106_x (ps : List P) (ls : List Nat) : execFn f106_c 106 f106_e.tm (explF ps 1 0) ls = (f106_t ps).run fun q => altR (f106_e.res.map fun f => f ps ls) 0 q some := by kernel_rfl
theorem f106_ok : OkEnt Try.prog f106_e := ent_ok (c := f106_c) (g := 106) (body := f106_b) (us := f106_u) (n := 1) (t := f106_t) (good_envOf _ ⟨f82_ok, f87_ok, trivial⟩) Try.func106 rfl Try.call106 rfl trivial (by kernel_rfl) f106_x (fun _ => rfl)
/-! ### comprador/compradorref18.Empty -/
noncomputable def f107_t (ps : List P) : Tree (Nat × List P) :=
 .ite (!(((((lf ps 0).snd).snd).fst).toBool)) (
  .ret (0, [.bool ((((((lf ps 0).snd).fst).xs).length : Int) == (0 : Int))])) (
  .ret (0, [.bool false]))
noncomputable def f107_v (ps : List P) : Option (Nat × List P) := (f107_t ps).run some
noncomputable def f107_e : EntD := ⟨107, [.imm (.pair .str (.pair (.slice (.pair (.int .i64) (.pair (.int .i64) .unit))) (.pair .bool .unit)))], f107_v, [fun ps ls qs => ⟨[.imm .bool (lf qs 0)], [.imm (.pair .str (.pair (.slice (.pair (.int .i64) (.pair (.int .i64) .unit))) (.pair .bool .unit))) (lf ps 0)]⟩]⟩
noncomputable def f107_u : List Cu := []
noncomputable def f107_c : Cx := ⟨Try.prog, envOf [], 12, lOf f107_u, fun _ => false⟩
noncomputable def f107_b : Code := match Try.f107.body with | some b => b | none => .skip
theorem f107_x (ps : List P) (ls : List Nat) : execFn f107_c 107 f107_e.tm (explF ps 1 0) ls = (f107_t ps).run fun q => altR (f107_e.res.map fun f => f ps ls) 0 q some := by kernel_rfl
theorem f107_ok : OkEnt Try.prog f107_e := ent_ok (c := f107_c) (g := 107) (body := f107_b) (us := f107_u) (n := 1) (t := f107_t) (good_envOf _ trivial) Try.func107 rfl Try.call107 rfl trivial (by kernel_rfl) f107_x (fun _ => rfl)
/-! ### comprador/compradorref19.Check -/
noncomputable def f18_k26 : Sk := { t := [(0, .imm (.slice (.pair .str (.pair (.slice (.pair (.int .i64) (.pair (.int .i64) .unit))) (.pair .bool .unit)))) .unit), (3, .imm (.int .i64) .unit)], h := [] }
noncomputable def f18_o26 : List (Out × Sk) := [(.ret, { t := [(2, .imm .bool .unit)], h := [] }), ((.exit 0), { t := [], h := [] })]
noncomputable def f18_s26 (ls : List P) : Tree Step :=
 .ite (decide ((lf ls 1).toInt < (((lf ls 0).xs).length : Int))) (
  .ite (inb ((lf ls 1).toInt) (((lf ls 0).xs).length)) (
   .loop (f105_v [rd ((lf ls 0).xs) (((lf ls 1).toInt).toNat)]) fun x1 =>
    .ite (Nat.beq x1.1 0) (
     .ite (!((lf x1.2 0).toBool)) (
      .ret (.inr (0, [.bool false]))) (
      .ite (inb ((lf ls 1).toInt) (((lf ls 0).xs).length)) (
       .loop (f106_v [rd ((lf ls 0).xs) (((lf ls 1).toInt).toNat)]) fun x2 =>
        .ite (Nat.beq x2.1 0) (
         .ite ((lf x2.2 0).toBool) (
          .ret (.inr (0, [.bool false]))) (
          .ite (inb ((lf ls 1).toInt) (((lf ls 0).xs).length)) (
           .loop (f107_v [rd ((lf ls 0).xs) (((lf ls 1).toInt).toNat)]) fun x3 =>
            .ite (Nat.beq x3.1 0) (
             .ite ((lf x3.2 0).toBool) (
              .ret (.inr (0, [.bool false]))) (
              .ite (decide ((lf ls 1).toInt > (0 : Int))) (
               .ite (inb ((lf ls 1).toInt) (((lf ls 0).xs).length)) (
                .ite (inb (IntKind.i64.wrap (((lf ls 1).toInt) - (1 : Int))) (((lf ls 0).xs).length)) (
                 .ite (strLt (((rd ((lf ls 0).xs) (((lf ls 1).toInt).toNat)).fst).toStr) (((rd ((lf ls 0).xs) ((IntKind.i64.wrap (((lf ls 1).toInt) - (1 : Int))).toNat)).fst).toStr) || strEq (((rd ((lf ls 0).xs) (((lf ls 1).toInt).toNat)).fst).toStr) (((rd ((lf ls 0).xs) ((IntKind.i64.wrap (((lf ls 1).toInt) - (1 : Int))).toNat)).fst).toStr)) (
                  .ret (.inr (0, [.bool false]))) (
                  .ret (.inl [lf ls 0, .int .i64 (IntKind.i64.wrap (((lf ls 1).toInt) + (1 : Int)))]))) (
                 .fail)) (
                .fail)) (
               .ret (.inl [lf ls 0, .int .i64 (IntKind.i64.wrap (((lf ls 1).toInt) + (1 : Int)))])))) (
             .fail)) (
           .fail))) (
         .fail)) (
       .fail))) (
     .fail)) (
   .fail)) (
  .ret (.inr (1, [])))
noncomputable def f18_t (ps : List P) : Tree (Nat × List P) :=
 .loop (loopT f18_s26 FUEL [lf ps 0, .int .i64 (0 : Int)]) fun y4 =>
  .ite (Nat.beq y4.1 0) (
   .ret (0, [lf y4.2 0])) (
   .ite (Nat.beq y4.1 1) (
    .ret (0, [.bool true])) (
    .fail))
noncomputable def f18_v (ps : List P) : Option (Nat × List P) := (f18_t ps).run some
noncomputable def f18_e : EntD := ⟨18, [.imm (.slice (.pair .str (.pair (.slice (.pair (.int .i64) (.pair (.int .i64) .unit))) (.pair .bool .unit))))], f18_v, [fun ps ls qs => ⟨[.imm .bool (lf qs 0)], [.imm (.slice (.pair .str (.pair (.slice (.pair (.int .i64) (.pair (.int .i64) .unit))) (.pair .bool .unit)))) (lf ps 0)]⟩]⟩
noncomputable def f18_u : List Cu := [.loop 26 f18_k26 f18_o26 f18_s26]
noncomputable def f18_c : Cx := ⟨Try.prog, envOf [f105_e, f106_e, f107_e], 48, lOf f18_u, fun _ => false⟩
noncomputable def f18_b : Code := match Try.f18.body with | some b => b | none => .skip
theorem f18_q26 : (Cu.loop 26 f18_k26 f18_o26 f18_s26).Ok f18_c f18_b := ⟨by kernel_rfl, fun ls Kr Kx => by kernel_rfl⟩
theorem f18_x (ps : List P) (ls : List Nat) : execFn f18_c 18 f18_e.tm (explF ps 1 0) ls = (f18_t ps).run fun q => altR (f18_e.res.map fun f => f ps ls) 0 q some := by kernel_rfl
theorem f18_ok : OkEnt Try.prog f18_e := ent_ok (c := f18_c) (g := 18) (body := f18_b) (us := f18_u) (n := 1) (t := f18_t) (good_envOf _ ⟨f105_ok, f106_ok, f107_ok, trivial⟩) Try.func18 rfl Try.call18 rfl ⟨f18_q26, trivial⟩ (by kernel_rfl) f18_x (fun _ => rfl)
/-! ### (*comprador/compradorref24.X).Add -/
noncomputable def f32_t (ps : List P) : Tree (Nat × List P) :=
 .ite (decide ((0 + (((lf ps 0).fst).xs).length) * 40 ≤ 140737488355328)) (
  .ite (decide (((((lf ps 0).fst).xs).length + 1) * 40 ≤ 140737488355328)) (
   .ret (0, [.int .i64 (IntKind.i64.wrap ((((((lf ps 0).fst).xs) ++ ([.pair (lf ps 1) (.pair (lf ps 2) (.pair (lf ps 3) (.pair (.bool false) .unit)))] : List P)).length : Int) - (1 : Int))), .list (((((lf ps 0).fst).xs).isEmpty) && false) ((((lf ps 0).fst).xs) ++ ([.pair (lf ps 1) (.pair (lf ps 2) (.pair (lf ps 3) (.pair (.bool false) .unit)))] : List P)), (lf ps 0).snd])) (
   .fail)) (
  .fail)
noncomputable def f32_v (ps : List P) : Option (Nat × List P) := (f32_t ps).run some
noncomputable def f32_e : EntD := ⟨32, [.box (.pair (.slice (.pair (.slice (.pair .str (.pair (.slice (.pair (.int .i64) (.pair (.int .i64) .unit))) (.pair .bool .unit)))) (.pair (.int .i64) (.pair .bool (.pair .bool .unit))))) .unit) (.imm (.pair (.slice (.pair (.slice (.pair .str (.pair (.slice (.pair (.int .i64) (.pair (.int .i64) .unit))) (.pair .bool .unit)))) (.pair (.int .i64) (.pair .bool (.pair .bool .unit))))) .unit)), .imm (.slice (.pair .str (.pair (.slice (.pair (.int .i64) (.pair (.int .i64) .unit))) (.pair .bool .unit)))), .imm (.int .i64), .imm .bool], f32_v, [fun ps ls qs => ⟨[.imm (.int .i64) (lf qs 0)], [.box (ls.getD 0 0) (.pair (.slice (.pair (.slice (.pair .str (.pair (.slice (.pair (.int .i64) (.pair (.int .i64) .unit))) (.pair .bool .unit)))) (.pair (.int .i64) (.pair .bool (.pair .bool .unit))))) .unit) (.pair (.own 0 (.pair (.slice (.pair .str (.pair (.slice (.pair (.int .i64) (.pair (.int .i64) .unit))) (.pair .bool .unit)))) (.pair (.int .i64) (.pair .bool (.pair .bool .unit)))) (lf qs 1).isNil (lf qs 1).xs) (.imm .unit (lf qs 2))), .imm (.slice (.pair .str (.pair (.slice (.pair (.int .i64) (.pair (.int .i64) .unit))) (.pair .bool .unit)))) (lf ps 1), .imm (.int .i64) (lf ps 2), .imm .bool (lf ps 3)]⟩]⟩
noncomputable def f32_u : List Cu := []
noncomputable def f32_c : Cx := ⟨Try.prog, envOf [], 33, lOf f32_u, fun _ => false⟩
noncomputable def f32_b : Code := match Try.f32.body with | some b => b | none => .skip
theorem f32_x (ps : List P) (ls : List Nat) : execFn f32_c 32 f32_e.tm (explF ps 4 0) ls = (f32_t ps).run fun q => altR (f32_e.res.map fun f => f ps ls) 0 q some := by kernel_rfl
theorem f32_ok : OkEnt Try.prog f32_e := ent_ok (c := f32_c) (g := 32) (body := f32_b) (us := f32_u) (n := 4) (t := f32_t) (good_envOf _ trivial) Try.func32 rfl Try.call32 rfl trivial (by kernel_rfl) f32_x (fun _ => rfl)
/-! ### (*comprador/store.Store).Get -/
noncomputable def f21_k1 : Sk := { t := [(0, .ref 2001 [] (.pair (.slice (.pair (.slice (.pair .str (.pair (.slice (.pair (.int .i64) (.pair (.int .i64) .unit))) (.pair .bool .unit)))) (.pair (.int .i64) (.pair .bool (.pair .bool .unit))))) (.pair .map .unit))), (1, .imm (.int .i64) .unit)], h := [(2001, .obj (.pair (.slice (.pair (.slice (.pair .str (.pair (.slice (.pair (.int .i64) (.pair (.int .i64) .unit))) (.pair .bool .unit)))) (.pair (.int .i64) (.pair .bool (.pair .bool .unit))))) (.pair .map .unit)) (.pair (.slf 2002 (.pair (.slice (.pair .str (.pair (.slice (.pair (.int .i64) (.pair (.int .i64) .unit))) (.pair .bool .unit)))) (.pair (.int .i64) (.pair .bool (.pair .bool .unit))))) (.pair (.blk 2003 (.mt .str (.slice (.int .i64)))) (.imm .unit .unit)))), (2002, .arr (.pair (.slice (.pair .str (.pair (.slice (.pair (.int .i64) (.pair (.int .i64) .unit))) (.pair .bool .unit)))) (.pair (.int .i64) (.pair .bool (.pair .bool .unit)))) true []), (2003, .blk (.mt .str (.slice (.int .i64))) .unit)] }
noncomputable def f21_o1 : List (Out × Sk) := [(.ret, { t := [(0, .ref 2001 [] (.pair (.slice (.pair (.slice (.pair .str (.pair (.slice (.pair (.int .i64) (.pair (.int .i64) .unit))) (.pair .bool .unit)))) (.pair (.int .i64) (.pair .bool (.pair .bool .unit))))) (.pair .map .unit))), (4, .ref 4031 [] (.pair (.slice (.pair .str (.pair (.slice (.pair (.int .i64) (.pair (.int .i64) .unit))) (.pair .bool .unit)))) (.pair (.int .i64) (.pair .bool (.pair .bool .unit))))), (5, .imm .bool .unit)], h := [(2001, .obj (.pair (.slice (.pair (.slice (.pair .str (.pair (.slice (.pair (.int .i64) (.pair (.int .i64) .unit))) (.pair .bool .unit)))) (.pair (.int .i64) (.pair .bool (.pair .bool .unit))))) (.pair .map .unit)) (.pair (.slf 2002 (.pair (.slice (.pair .str (.pair (.slice (.pair (.int .i64) (.pair (.int .i64) .unit))) (.pair .bool .unit)))) (.pair (.int .i64) (.pair .bool (.pair .bool .unit))))) (.pair (.blk 2003 (.mt .str (.slice (.int .i64)))) (.imm .unit .unit)))), (4031, .obj (.pair (.slice (.pair .str (.pair (.slice (.pair (.int .i64) (.pair (.int .i64) .unit))) (.pair .bool .unit)))) (.pair (.int .i64) (.pair .bool (.pair .bool .unit)))) (.pair (.slf 4034 (.pair .str (.pair (.slice (.pair (.int .i64) (.pair (.int .i64) .unit))) (.pair .bool .unit)))) (.imm (.pair (.int .i64) (.pair .bool (.pair .bool .unit))) .unit))), (2002, .arr (.pair (.slice (.pair .str (.pair (.slice (.pair (.int .i64) (.pair (.int .i64) .unit))) (.pair .bool .unit)))) (.pair (.int .i64) (.pair .bool (.pair .bool .unit)))) true []), (2003, .blk (.mt .str (.slice (.int .i64))) .unit), (4034, .arr (.pair .str (.pair (.slice (.pair (.int .i64) (.pair (.int .i64) .unit))) (.pair .bool .unit))) true [])] })]
noncomputable def f21_s1 (ls : List P) : Tree (Nat × List P) :=
 .ite (decide ((lf ls 0).toInt < (0 : Int))) (
  .ret (0, [.bool false, lf ls 1, .pair (.int .i64 (0 : Int)) (.pair (.bool false) (.pair (.bool false) .unit)), .list ((lf ls 2).isNil) ((lf ls 2).xs), lf ls 3, .list true []])) (
  .loop (f34_v [.list ((lf ls 2).isNil) ((lf ls 2).xs), lf ls 3, lf ls 1]) fun x1 =>
   .ite (Nat.beq x1.1 0) (
    .ite (decide ((lf ls 0).toInt ≥ (lf x1.2 0).toInt)) (
     .ret (0, [.bool false, lf ls 1, .pair (.int .i64 (0 : Int)) (.pair (.bool false) (.pair (.bool false) .unit)), .list ((lf ls 2).isNil) ((lf ls 2).xs), lf ls 3, .list true []])) (
     .ite (inb ((lf ls 0).toInt) (((lf ls 2).xs).length)) (
      .loop (f108_v [(rd ((lf ls 2).xs) (((lf ls 0).toInt).toNat)).fst]) fun x2 =>
       .ite (Nat.beq x2.1 0) (
        .ret (0, [.bool true, lf ls 1, (rd ((lf ls 2).xs) (((lf ls 0).toInt).toNat)).snd, .list ((lf ls 2).isNil) ((lf ls 2).xs), lf ls 3, .list ((lf x2.2 0).isNil) ((lf x2.2 0).xs)])) (
        .fail)) (
      .fail))) (
    .fail))
noncomputable def f21_t (ps : List P) : Tree (Nat × List P) :=
 .loop ((f21_s1 [lf ps 3, lf ps 2, .list ((lf ps 0).isNil) ((lf ps 0).xs), lf ps 1]).run some) fun y3 =>
  .ite (Nat.beq y3.1 0) (
   .ret (0, [.list ((lf y3.2 5).isNil) ((lf y3.2 5).xs), lf y3.2 2, lf y3.2 0, .list ((lf y3.2 3).isNil) ((lf y3.2 3).xs), lf y3.2 4, lf y3.2 1])) (
   .fail)
noncomputable def f21_v (ps : List P) : Option (Nat × List P) := (f21_t ps).run some
noncomputable def f21_e : EntD := ⟨21, [.box (.pair (.slice (.pair (.slice (.pair .str (.pair (.slice (.pair (.int .i64) (.pair (.int .i64) .unit))) (.pair .bool .unit)))) (.pair (.int .i64) (.pair .bool (.pair .bool .unit))))) (.pair .map .unit)) (.pair (.own (.pair (.slice (.pair .str (.pair (.slice (.pair (.int .i64) (.pair (.int .i64) .unit))) (.pair .bool .unit)))) (.pair (.int .i64) (.pair .bool (.pair .bool .unit))))) (.pair (.blk (.mt .str (.slice (.int .i64)))) (.imm .unit))), .imm (.int .i64)], f21_v, [fun ps ls qs => ⟨[.pair (.own (ls.getD 2033 0) (.pair .str (.pair (.slice (.pair (.int .i64) (.pair (.int .i64) .unit))) (.pair .bool .unit))) (lf qs 0).isNil (lf qs 0).xs) (.imm (.pair (.int .i64) (.pair .bool (.pair .bool .unit))) (lf qs 1)), .imm .bool (lf qs 2)], [.box (ls.getD 0 0) (.pair (.slice (.pair (.slice (.pair .str (.pair (.slice (.pair (.int .i64) (.pair (.int .i64) .unit))) (.pair .bool .unit)))) (.pair (.int .i64) (.pair .bool (.pair .bool .unit))))) (.pair .map .unit)) (.pair (.own (ls.getD 1 0) (.pair (.slice (.pair .str (.pair (.slice (.pair (.int .i64) (.pair (.int .i64) .unit))) (.pair .bool .unit)))) (.pair (.int .i64) (.pair .bool (.pair .bool .unit)))) (lf qs 3).isNil (lf qs 3).xs) (.pair (.blk (ls.getD 2 0) (.mt .str (.slice (.int .i64))) (lf qs 4)) (.imm .unit (lf qs 5)))), .imm (.int .i64) (lf ps 3)]⟩]⟩
noncomputable def f21_u : List Cu := [.cut 1 f21_k1 f21_o1 f21_s1]
noncomputable def f21_c : Cx := ⟨Try.prog, envOf [f34_e, f108_e], 28, lOf f21_u, fun _ => false⟩
noncomputable def f21_b : Code := match Try.f21.body with | some b => b | none => .skip
theorem f21_q1 : (Cu.cut 1 f21_k1 f21_o1 f21_s1).Ok f21_c f21_b := ⟨by kernel_rfl, fun ls Kx => by kernel_rfl⟩
theorem f21_x (ps : List P) (ls : List Nat) : execFn f21_c 21 f21_e.tm (explF ps 4 0) ls = (f21_t ps).run fun q => altR (f21_e.res.map fun f => f ps ls) 0 q some := by kernel_rfl
theorem f21_ok : OkEnt Try.prog f21_e := ent_ok (c := f21_c) (g := 21) (body := f21_b) (us := f21_u) (n := 4) (t := f21_t) (good_envOf _ ⟨f34_ok, f108_ok, trivial⟩) Try.func21 rfl Try.call21 rfl ⟨f21_q1, trivial⟩ (by kernel_rfl) f21_x (fun _ => rfl)
/-! ### comprador/compradorref18.Same -/
noncomputable def f109_t (ps : List P) : Tree (Nat × List P) :=
 .ite (strEq (((lf ps 0).fst).toStr) (((lf ps 1).fst).toStr)) (
  .ite ((((((lf ps 0).snd).snd).fst).toBool) == (((((lf ps 1).snd).snd).fst).toBool)) (
   .loop (f82_v [((lf ps 0).snd).fst, ((lf ps 1).snd).fst]) fun x1 =>
    .ite (Nat.beq x1.1 0) (
     .ret (0, [lf x1.2 0])) (
     .fail)) (
   .ret (0, [.bool false]))) (
  .ret (0, [.bool false]))
noncomputable def f109_v (ps : List P) : Option (Nat × List P) := (f109_t ps).run some
noncomputable def f109_e : EntD := ⟨109, [.imm (.pair .str (.pair (.slice (.pair (.int .i64) (.pair (.int .i64) .unit))) (.pair .bool .unit))), .imm (.pair .str (.pair (.slice (.pair (.int .i64) (.pair (.int .i64) .unit))) (.pair .bool .unit)))], f109_v, [fun ps ls qs => ⟨[.imm .bool (lf qs 0)], [.imm (.pair .str (.pair (.slice (.pair (.int .i64) (.pair (.int .i64) .unit))) (.pair .bool .unit))) (lf ps 0), .imm (.pair .str (.pair (.slice (.pair (.int .i64) (.pair (.int .i64) .unit))) (.pair .bool .unit))) (lf ps 1)]⟩]⟩
noncomputable def f109_u : List Cu := []
noncomputable def f109_c : Cx := ⟨Try.prog, envOf [f82_e], 24, lOf f109_u, fun _ => false⟩
noncomputable def f109_b : Code := match Try.f109.body with | some b => b | none => .skip
theorem f109_x (ps : List P) (ls : List Nat) : execFn f109_c 109 f109_e.tm (explF ps 2 0) ls = (f109_t ps).run fun q => altR (f109_e.res.map fun f => f ps ls) 0 q some := by kernel_rfl
theorem f109_ok : OkEnt Try.prog f109_e := ent_ok (c := f109_c) (g := 109) (body := f109_b) (us := f109_u) (n := 2) (t := f109_t) (good_envOf _ ⟨f82_ok, trivial⟩) Try.func109 rfl Try.call109 rfl trivial (by kernel_rfl) f109_x (fun _ => rfl)
/-! ### comprador/compradorref19.Same -/
noncomputable def f22_k58 : Sk := { t := [(0, .imm (.slice (.pair .str (.pair (.slice (.pair (.int .i64) (.pair (.int .i64) .unit))) (.pair .bool .unit)))) .unit), (1, .imm (.slice (.pair .str (.pair (.slice (.pair (.int .i64) (.pair (.int .i64) .unit))) (.pair .bool .unit)))) .unit), (5, .imm (.int .i64) .unit)], h := [] }
noncomputable def f22_o58 : List (Out × Sk) := [(.ret, { t := [(4, .imm .bool .unit)], h := [] }), ((.exit 0), { t := [], h := [] })]
noncomputable def f22_s58 (ls : List P) : Tree Step :=
 .ite (decide ((lf ls 2).toInt < (((lf ls 0).xs).length : Int))) (
  .ite (inb ((lf ls 2).toInt) (((lf ls 0).xs).length)) (
   .ite (inb ((lf ls 2).toInt) (((lf ls 1).xs).length)) (
    .loop (f109_v [rd ((lf ls 0).xs) (((lf ls 2).toInt).toNat), rd ((lf ls 1).xs) (((lf ls 2).toInt).toNat)]) fun x1 =>
     .ite (Nat.beq x1.1 0) (
      .ite (!((lf x1.2 0).toBool)) (
       .ret (.inr (0, [.bool false]))) (
       .ret (.inl [lf ls 0, lf ls 1, .int .i64 (IntKind.i64.wrap (((lf ls 2).toInt) + (1 : Int)))]))) (
      .fail)) (
    .fail)) (
   .fail)) (
  .ret (.inr (1, [])))
noncomputable def f22_t (ps : List P) : Tree (Nat × List P) :=
 .ite ((((lf ps 0).xs).length : Int) != (((lf ps 1).xs).length : Int)) (
  .ret (0, [.bool false])) (
  .loop (loopT f22_s58 FUEL [lf ps 0, lf ps 1, .int .i64 (0 : Int)]) fun y2 =>
   .ite (Nat.beq y2.1 0) (
    .ret (0, [lf y2.2 0])) (
    .ite (Nat.beq y2.1 1) (
     .ret (0, [.bool true])) (
     .fail)))
noncomputable def f22_v (ps : List P) : Option (Nat × List P) := (f22_t ps).run some
noncomputable def f22_e : EntD := ⟨22, [.imm (.slice (.pair .str (.pair (.slice (.pair (.int .i64) (.pair (.int .i64) .unit))) (.pair .bool .unit)))), .imm (.slice (.pair .str (.pair (.slice (.pair (.int .i64) (.pair (.int .i64) .unit))) (.pair .bool .unit))))], f22_v, [fun ps ls qs => ⟨[.imm .bool (lf qs 0)], [.imm (.slice (.pair .str (.pair (.slice (.pair (.int .i64) (.pair (.int .i64) .unit))) (.pair .bool .unit)))) (lf ps 0), .imm (.slice (.pair .str (.pair (.slice (.pair (.int .i64) (.pair (.int .i64) .unit))) (.pair .bool .unit)))) (lf ps 1)]⟩]⟩
noncomputable def f22_u : List Cu := [.loop 58 f22_k58 f22_o58 f22_s58]
noncomputable def f22_c : Cx := ⟨Try.prog, envOf [f109_e], 27, lOf f22_u, fun _ => false⟩
noncomputable def f22_b : Code := match Try.f22.body with | some b => b | none => .skip
theorem f22_q58 : (Cu.loop 58 f22_k58 f22_o58 f22_s58).Ok f22_c f22_b := ⟨by kernel_rfl, fun ls Kr Kx => by kernel_rfl⟩
theorem f22_x (ps : List P) (ls : List Nat) : execFn f22_c 22 f22_e.tm (explF ps 2 0) ls = (f22_t ps).run fun q => altR (f22_e.res.map fun f => f ps ls) 0 q some := by kernel_rfl
theorem f22_ok : OkEnt Try.prog f22_e := ent_ok (c := f22_c) (g := 22) (body := f22_b) (us := f22_u) (n := 2) (t := f22_t) (good_envOf _ ⟨f109_ok, trivial⟩) Try.func22 rfl Try.call22 rfl ⟨f22_q58, trivial⟩ (by kernel_rfl) f22_x (fun _ => rfl)
/-! ### (*comprador/store.Store).Len -/
noncomputable def f34_1_t (ps : List P) : Tree (Nat × List P) :=
 .ret (0, [.int .i64 (0 : Int)])
noncomputable def f34_1_v (ps : List P) : Option (Nat × List P) := (f34_1_t ps).run some
noncomputable def f34_1_e : EntD := ⟨34, [.imm .ptr], f34_1_v, [fun ps ls qs => ⟨[.imm (.int .i64) (lf qs 0)], [.imm .ptr (lf ps 0)]⟩]⟩
noncomputable def f34_1_u : List Cu := []
noncomputable def f34_1_c : Cx := ⟨Try.prog, envOf [], 10, lOf f34_1_u, fun _ => false⟩
noncomputable def f34_1_b : Code := match Try.f34.body with | some b => b | none => .skip
theorem f34_1_x (ps : List P) (ls : List Nat) : execFn f34_1_c 34 f34_1_e.tm (explF ps 1 0) ls = (f34_1_t ps).run fun q => altR (f34_1_e.res.map fun f => f ps ls) 0 q some := by kernel_rfl
theorem f34_1_ok : OkEnt Try.prog f34_1_e := ent_ok (c := f34_1_c) (g := 34) (body := f34_1_b) (us := f34_1_u) (n := 1) (t := f34_1_t) (good_envOf _ trivial) Try.func34 rfl Try.call34 rfl trivial (by kernel_rfl) f34_1_x (fun _ => rfl)
/-! ### (*comprador/store.Store).Get -/
noncomputable def f21_1_t (ps : List P) : Tree (Nat × List P) :=
 .ite (decide ((lf ps 1).toInt < (0 : Int))) (
  .ret (0, [.pair (.int .i64 (0 : Int)) (.pair (.bool false) (.pair (.bool false) .unit)), .bool false])) (
  .loop (f34_1_v [lf ps 0]) fun x1 =>
   .ite (Nat.beq x1.1 0) (
    .ite (decide ((lf ps 1).toInt ≥ (lf x1.2 0).toInt)) (
     .ret (0, [.pair (.int .i64 (0 : Int)) (.pair (.bool false) (.pair (.bool false) .unit)), .bool false])) (
     .fail)) (
    .fail))
noncomputable def f21_1_v (ps : List P) : Option (Nat × List P) := (f21_1_t ps).run some
noncomputable def f21_1_e : EntD := ⟨21, [.imm .ptr, .imm (.int .i64)], f21_1_v, [fun ps ls qs => ⟨[.imm (.pair (.slice (.pair .str (.pair (.slice (.pair (.int .i64) (.pair (.int .i64) .unit))) (.pair .bool .unit)))) (.pair (.int .i64) (.pair .bool (.pair .bool .unit)))) (.pair (.list true []) (lf qs 0)), .imm .bool (lf qs 1)], [.imm .ptr (lf ps 0), .imm (.int .i64) (lf ps 1)]⟩]⟩
noncomputable def f21_1_u : List Cu := []
noncomputable def f21_1_c : Cx := ⟨Try.prog, envOf [f34_1_e], 28, lOf f21_1_u, fun _ => false⟩
noncomputable def f21_1_b : Code := match Try.f21.body with | some b => b | none => .skip
theorem f21_1_x (ps : List P) (ls : List Nat) : execFn f21_1_c 21 f21_1_e.tm (explF ps 2 0) ls = (f21_1_t ps).run fun q => altR (f21_1_e.res.map fun f => f ps ls) 0 q some := by kernel_rfl
theorem f21_1_ok : OkEnt Try.prog f21_1_e := ent_ok (c := f21_1_c) (g := 21) (body := f21_1_b) (us := f21_1_u) (n := 2) (t := f21_1_t) (good_envOf _ ⟨f34_1_ok, trivial⟩) Try.func21 rfl Try.call21 rfl trivial (by kernel_rfl) f21_1_x (fun _ => rfl)
/-! ### (*comprador/store.Store).Add -/
noncomputable def f19_1_t (ps : List P) : Tree (Nat × List P) :=
 .ret (0, [.int .i64 (-1 : Int)])
noncomputable def f19_1_v (ps : List P) : Option (Nat × List P) := (f19_1_t ps).run some
noncomputable def f19_1_e : EntD := ⟨19, [.imm .ptr, .imm (.slice (.pair .str (.pair (.slice (.pair (.int .i64) (.pair (.int .i64) .unit))) (.pair .bool .unit)))), .imm (.int .i64), .imm .bool], f19_1_v, [fun ps ls qs => ⟨[.imm (.int .i64) (lf qs 0)], [.imm .ptr (lf ps 0), .imm (.slice (.pair .str (.pair (.slice (.pair (.int .i64) (.pair (.int .i64) .unit))) (.pair .bool .unit)))) (lf ps 1), .imm (.int .i64) (lf ps 2), .imm .bool (lf ps 3)]⟩]⟩
noncomputable def f19_1_u : List Cu := []
noncomputable def f19_1_c : Cx := ⟨Try.prog, envOf [], 57, lOf f19_1_u, fun _ => false⟩
noncomputable def f19_1_b : Code := match Try.f19.body with | some b => b | none => .skip
theorem f19_1_x (ps : List P) (ls : List Nat) : execFn f19_1_c 19 f19_1_e.tm (explF ps 4 0) ls = (f19_1_t ps).run fun q => altR (f19_1_e.res.map fun f => f ps ls) 0 q some := by kernel_rfl
theorem f19_1_ok : OkEnt Try.prog f19_1_e := ent_ok (c := f19_1_c) (g := 19) (body := f19_1_b) (us := f19_1_u) (n := 4) (t := f19_1_t) (good_envOf _ trivial) Try.func19 rfl Try.call19 rfl trivial (by kernel_rfl) f19_1_x (fun _ => rfl)
/-! ### (*comprador/store.Store).Drop -/
noncomputable def f20_1_t (ps : List P) : Tree (Nat × List P) :=
 .ite (decide ((lf ps 1).toInt < (0 : Int))) (
  .ret (0, [.bool false])) (
  .loop (f34_1_v [lf ps 0]) fun x1 =>
   .ite (Nat.beq x1.1 0) (
    .ite (decide ((lf ps 1).toInt ≥ (lf x1.2 0).toInt)) (
     .ret (0, [.bool false])) (
     .fail)) (
    .fail))
noncomputable def f20_1_v (ps : List P) : Option (Nat × List P) := (f20_1_t ps).run some
noncomputable def f20_1_e : EntD := ⟨20, [.imm .ptr, .imm (.int .i64)], f20_1_v, [fun ps ls qs => ⟨[.imm .bool (lf qs 0)], [.imm .ptr (lf ps 0), .imm (.int .i64) (lf ps 1)]⟩]⟩
noncomputable def f20_1_u : List Cu := []
noncomputable def f20_1_c : Cx := ⟨Try.prog, envOf [f34_1_e], 41, lOf f20_1_u, fun _ => false⟩
noncomputable def f20_1_b : Code := match Try.f20.body with | some b => b | none => .skip
theorem f20_1_x (ps : List P) (ls : List Nat) : execFn f20_1_c 20 f20_1_e.tm (explF ps 2 0) ls = (f20_1_t ps).run fun q => altR (f20_1_e.res.map fun f => f ps ls) 0 q some := by kernel_rfl
theorem f20_1_ok : OkEnt Try.prog f20_1_e := ent_ok (c := f20_1_c) (g := 20) (body := f20_1_b) (us := f20_1_u) (n := 2) (t := f20_1_t) (good_envOf _ ⟨f34_1_ok, trivial⟩) Try.func20 rfl Try.call20 rfl trivial (by kernel_rfl) f20_1_x (fun _ => rfl)
/-! ### (*comprador/store.Store).Live -/
noncomputable def f23_1_k58 : Sk := { t := [(0, .imm .ptr .unit), (3, .imm (.slice (.int .i64)) .unit), (6, .imm (.int .i64) .unit), (7, .imm (.int .i64) .unit)], h := [] }
noncomputable def f23_1_o58 : List (Out × Sk) := [((.exit 0), { t := [(3, .imm (.slice (.int .i64)) .unit)], h := [] })]
noncomputable def f23_1_s58 (ls : List P) : Tree Step :=
 .ite (decide ((lf ls 3).toInt < (lf ls 2).toInt)) (
  .fail) (
  .ret (.inr (0, [lf ls 1])))
noncomputable def f23_1_t (ps : List P) : Tree (Nat × List P) :=
 .loop (f34_1_v [lf ps 0]) fun x1 =>
  .ite (Nat.beq x1.1 0) (
   .loop (loopT f23_1_s58 FUEL [lf ps 0, .list true [], lf x1.2 0, .int .i64 (0 : Int)]) fun y2 =>
    .ite (Nat.beq y2.1 0) (
     .ret (0, [lf y2.2 0])) (
     .fail)) (
   .fail)
noncomputable def f23_1_v (ps : List P) : Option (Nat × List P) := (f23_1_t ps).run some
noncomputable def f23_1_e : EntD := ⟨23, [.imm .ptr], f23_1_v, [fun ps ls qs => ⟨[.imm (.slice (.int .i64)) (lf qs 0)], [.imm .ptr (lf ps 0)]⟩]⟩
noncomputable def f23_1_u : List Cu := [.loop 58 f23_1_k58 f23_1_o58 f23_1_s58]
noncomputable def f23_1_c : Cx := ⟨Try.prog, envOf [f34_1_e], 25, lOf f23_1_u, fun _ => false⟩
noncomputable def f23_1_b : Code := match Try.f23.body with | some b => b | none => .skip
theorem f23_1_q58 : (Cu.loop 58 f23_1_k58 f23_1_o58 f23_1_s58).Ok f23_1_c f23_1_b := ⟨by kernel_rfl, fun ls Kr Kx => by kernel_rfl⟩
theorem f23_1_x (ps : List P) (ls : List Nat) : execFn f23_1_c 23 f23_1_e.tm (explF ps 1 0) ls = (f23_1_t ps).run fun q => altR (f23_1_e.res.map fun f => f ps ls) 0 q some := by kernel_rfl
theorem f23_1_ok : OkEnt Try.prog f23_1_e := ent_ok (c := f23_1_c) (g := 23) (body := f23_1_b) (us := f23_1_u) (n := 1) (t := f23_1_t) (good_envOf _ ⟨f34_1_ok, trivial⟩) Try.func23 rfl Try.call23 rfl ⟨f23_1_q58, trivial⟩ (by kernel_rfl) f23_1_x (fun _ => rfl)
/-! ### (*comprador/store.Store).Learned$1 -/
noncomputable def f115_t (ps : List P) : Tree (Nat × List P) :=
 .fail
noncomputable def f115_v (ps : List P) : Option (Nat × List P) := (f115_t ps).run some
noncomputable def f115_e : EntD := ⟨115, [.imm (.int .i64), .box .ptr (.imm .ptr)], f115_v, []⟩
noncomputable def f115_u : List Cu := []
noncomputable def f115_c : Cx := ⟨Try.prog, envOf [], 13, lOf f115_u, fun _ => false⟩
noncomputable def f115_b : Code := match Try.f115.body with | some b => b | none => .skip
theorem f115_x (ps : List P) (ls : List Nat) : execFn f115_c 115 f115_e.tm (explF ps 2 0) ls = (f115_t ps).run fun q => altR (f115_e.res.map fun f => f ps ls) 0 q some := by kernel_rfl
theorem f115_ok : OkEnt Try.prog f115_e := ent_ok (c := f115_c) (g := 115) (body := f115_b) (us := f115_u) (n := 2) (t := f115_t) (good_envOf _ trivial) Try.func115 rfl Try.call115 rfl trivial (by kernel_rfl) f115_x (fun _ => rfl)
/-! ### slices.IndexFunc[[]int,int] -/
noncomputable def f169_k26 : Sk := { t := [(0, .imm (.slice (.int .i64)) .unit), (1, .fn 115 (.pair (.ref 2001 [] .ptr) (.imm .unit .unit))), (7, .imm (.int .i64) .unit), (8, .imm (.int .i64) .unit)], h := [(2001, .obj .ptr (.imm .ptr .unit))] }
noncomputable def f169_o26 : List (Out × Sk) := [((.exit 0), { t := [(1, .fn 115 (.pair (.ref 2001 [] .ptr) (.imm .unit .unit)))], h := [(2001, .obj .ptr (.imm .ptr .unit))] })]
noncomputable def f169_s26 (ls : List P) : Tree Step :=
 .ite (decide ((lf ls 3).toInt < (lf ls 2).toInt)) (
  .ite (inb ((lf ls 3).toInt) (((lf ls 0).xs).length)) (
   .loop (f115_v [rd ((lf ls 0).xs) (((lf ls 3).toInt).toNat), lf ls 4]) fun x1 =>
    .fail) (
   .fail)) (
  .ret (.inr (0, [lf ls 1, lf ls 4])))
noncomputable def f169_t (ps : List P) : Tree (Nat × List P) :=
 .loop (loopT f169_s26 FUEL [lf ps 0, lf ps 2, .int .i64 (((lf ps 0).xs).length : Int), .int .i64 (0 : Int), lf ps 1]) fun y2 =>
  .ite (Nat.beq y2.1 0) (
   .ret (0, [.int .i64 (-1 : Int), lf y2.2 1])) (
   .fail)
noncomputable def f169_v (ps : List P) : Option (Nat × List P) := (f169_t ps).run some
noncomputable def f169_e : EntD := ⟨169, [.imm (.slice (.int .i64)), .fn 115 (.pair (.box .ptr (.imm .ptr)) (.imm .unit))], f169_v, [fun ps ls qs => ⟨[.imm (.int .i64) (lf qs 0)], [.imm (.slice (.int .i64)) (lf ps 0), .fn 115 (.pair (.box (ls.getD 0 0) .ptr (.imm .ptr (lf qs 1))) (.imm .unit (lf ps 2)))]⟩]⟩
noncomputable def f169_u : List Cu := [.loop 26 f169_k26 f169_o26 f169_s26]
noncomputable def f169_c : Cx := ⟨Try.prog, envOf [f115_e], 19, lOf f169_u, fun _ => false⟩
noncomputable def f169_b : Code := match Try.f169.body with | some b => b | none => .skip
theorem f169_q26 : (Cu.loop 26 f169_k26 f169_o26 f169_s26).Ok f169_c f169_b := ⟨by kernel_rfl, fun ls Kr Kx => by kernel_rfl⟩
theorem f169_x (ps : List P) (ls : List Nat) : execFn f169_c 169 f169_e.tm (explF ps 3 0) ls = (f169_t ps).run fun q => altR (f169_e.res.map fun f => f ps ls) 0 q some := by kernel_rfl
theorem f169_ok : OkEnt Try.prog f169_e := ent_ok (c := f169_c) (g := 169) (body := f169_b) (us := f169_u) (n := 3) (t := f169_t) (good_envOf _ ⟨f115_ok, trivial⟩) Try.func169 rfl Try.call169 rfl ⟨f169_q26, trivial⟩ (by kernel_rfl) f169_x (fun _ => rfl)
/-! ### slices.DeleteFunc[[]int,int] -/
noncomputable def f114_k122 : Sk := { t := [(0, .imm (.slice (.int .i64)) .unit), (1, .fn 115 (.pair (.ref 2001 [] .ptr) (.imm .unit .unit))), (5, .imm (.int .i64) .unit), (6, .imm (.int .i64) .unit)], h := [(2001, .obj .ptr (.imm .ptr .unit))] }
noncomputable def f114_o122 : List (Out × Sk) := [((.exit 0), { t := [(0, .imm (.slice (.int .i64)) .unit), (1, .fn 115 (.pair (.ref 2001 [] .ptr) (.imm .unit .unit))), (5, .imm (.int .i64) .unit)], h := [(2001, .obj .ptr (.imm .ptr .unit))] })]
noncomputable def f114_s122 (ls : List P) : Tree Step :=
 .ite (decide ((lf ls 3).toInt < (((lf ls 0).xs).length : Int))) (
  .ite (inb ((lf ls 3).toInt) (((lf ls 0).xs).length)) (
   .loop (f115_v [rd ((lf ls 0).xs) (((lf ls 3).toInt).toNat), lf ls 4]) fun x2 =>
    .fail) (
   .fail)) (
  .ret (.inr (0, [lf ls 0, lf ls 1, lf ls 2, lf ls 4])))
noncomputable def f114_t (ps : List P) : Tree (Nat × List P) :=
 .loop (f169_v [lf ps 0, lf ps 1, lf ps 2]) fun x1 =>
  .ite (Nat.beq x1.1 0) (
   .ite (((lf x1.2 0).toInt) == (-1 : Int)) (
    .ret (0, [lf x1.2 1])) (
    .loop (loopT f114_s122 FUEL [lf ps 0, lf ps 2, lf x1.2 0, .int .i64 (IntKind.i64.wrap (((lf x1.2 0).toInt) + (1 : Int))), lf x1.2 1]) fun y3 =>
     .ite (Nat.beq y3.1 0) (
      .ite (decide ((0 : Int) ≤ (lf y3.2 2).toInt ∧ (lf y3.2 2).toInt ≤ (((lf y3.2 0).xs).length : Int) ∧ (((lf y3.2 0).xs).length : Int) ≤ (((lf y3.2 0).xs).length : Int))) (
       .fail) (
       .fail)) (
      .fail))) (
   .fail)
noncomputable def f114_v (ps : List P) : Option (Nat × List P) := (f114_t ps).run some
noncomputable def f114_e : EntD := ⟨114, [.imm (.slice (.int .i64)), .fn 115 (.pair (.box .ptr (.imm .ptr)) (.imm .unit))], f114_v, [fun ps ls qs => ⟨[.imm (.slice (.int .i64)) (lf ps 0)], [.imm (.slice (.int .i64)) (lf ps 0), .fn 115 (.pair (.box (ls.getD 0 0) .ptr (.imm .ptr (lf qs 0))) (.imm .unit (lf ps 2)))]⟩]⟩
noncomputable def f114_u : List Cu := [.loop 122 f114_k122 f114_o122 f114_s122]
noncomputable def f114_c : Cx := ⟨Try.prog, envOf [f115_e, f169_e], 42, lOf f114_u, fun _ => false⟩
noncomputable def f114_b : Code := match Try.f114.body with | some b => b | none => .skip
theorem f114_q122 : (Cu.loop 122 f114_k122 f114_o122 f114_s122).Ok f114_c f114_b := ⟨by kernel_rfl, fun ls Kr Kx => by kernel_rfl⟩
theorem f114_x (ps : List P) (ls : List Nat) : execFn f114_c 114 f114_e.tm (explF ps 3 0) ls = (f114_t ps).run fun q => altR (f114_e.res.map fun f => f ps ls) 0 q some := by kernel_rfl
theorem f114_ok : OkEnt Try.prog f114_e := ent_ok (c := f114_c) (g := 114) (body := f114_b) (us := f114_u) (n := 3) (t := f114_t) (good_envOf _ ⟨f115_ok, f169_ok, trivial⟩) Try.func114 rfl Try.call114 rfl ⟨f114_q122, trivial⟩ (by kernel_rfl) f114_x (fun _ => rfl)
/-! ### (*comprador/store.Store).Learned -/
noncomputable def f35_t (ps : List P) : Tree (Nat × List P) :=
 .loop (f23_1_v [lf ps 0]) fun x1 =>
  .ite (Nat.beq x1.1 0) (
   .loop (f114_v [lf x1.2 0, lf ps 0, .unit]) fun x2 =>
    .ite (Nat.beq x2.1 0) (
     .ret (0, [lf x1.2 0])) (
     .fail)) (
   .fail)
noncomputable def f35_v (ps : List P) : Option (Nat × List P) := (f35_t ps).run some
noncomputable def f35_e : EntD := ⟨35, [.imm .ptr], f35_v, [fun ps ls qs => ⟨[.imm (.slice (.int .i64)) (lf qs 0)], [.imm .ptr (lf ps 0)]⟩]⟩
noncomputable def f35_u : List Cu := []
noncomputable def f35_c : Cx := ⟨Try.prog, envOf [f23_1_e, f114_e], 7, lOf f35_u, fun _ => false⟩
noncomputable def f35_b : Code := match Try.f35.body with | some b => b | none => .skip
theorem f35_x (ps : List P) (ls : List Nat) : execFn f35_c 35 f35_e.tm (explF ps 1 0) ls = (f35_t ps).run fun q => altR (f35_e.res.map fun f => f ps ls) 0 q some := by kernel_rfl
theorem f35_ok : OkEnt Try.prog f35_e := ent_ok (c := f35_c) (g := 35) (body := f35_b) (us := f35_u) (n := 1) (t := f35_t) (good_envOf _ ⟨f23_1_ok, f114_ok, trivial⟩) Try.func35 rfl Try.call35 rfl trivial (by kernel_rfl) f35_x (fun _ => rfl)
/-! ### (*comprador/store.Store).About -/
noncomputable def f36_t (ps : List P) : Tree (Nat × List P) :=
 .ret (0, [])
noncomputable def f36_v (ps : List P) : Option (Nat × List P) := (f36_t ps).run some
noncomputable def f36_e : EntD := ⟨36, [.imm .ptr, .imm .str], f36_v, [fun ps ls qs => ⟨[.imm (.slice (.int .i64)) (.list true [])], [.imm .ptr (lf ps 0), .imm .str (lf ps 1)]⟩]⟩
noncomputable def f36_u : List Cu := []
noncomputable def f36_c : Cx := ⟨Try.prog, envOf [], 16, lOf f36_u, fun _ => false⟩
noncomputable def f36_b : Code := match Try.f36.body with | some b => b | none => .skip
theorem f36_x (ps : List P) (ls : List Nat) : execFn f36_c 36 f36_e.tm (explF ps 2 0) ls = (f36_t ps).run fun q => altR (f36_e.res.map fun f => f ps ls) 0 q some := by kernel_rfl
theorem f36_ok : OkEnt Try.prog f36_e := ent_ok (c := f36_c) (g := 36) (body := f36_b) (us := f36_u) (n := 2) (t := f36_t) (good_envOf _ trivial) Try.func36 rfl Try.call36 rfl trivial (by kernel_rfl) f36_x (fun _ => rfl)
/-! ### (comprador/compradorref24.X).Live -/
noncomputable def f38_k58 : Sk := { t := [(1, .ref 5100 [] (.pair (.slice (.pair (.slice (.pair .str (.pair (.slice (.pair (.int .i64) (.pair (.int .i64) .unit))) (.pair .bool .unit)))) (.pair (.int .i64) (.pair .bool (.pair .bool .unit))))) .unit)), (3, .slf 5101 (.int .i64)), (4, .imm (.int .i64) .unit)], h := [(5100, .obj (.pair (.slice (.pair (.slice (.pair .str (.pair (.slice (.pair (.int .i64) (.pair (.int .i64) .unit))) (.pair .bool .unit)))) (.pair (.int .i64) (.pair .bool (.pair .bool .unit))))) .unit) (.imm (.pair (.slice (.pair (.slice (.pair .str (.pair (.slice (.pair (.int .i64) (.pair (.int .i64) .unit))) (.pair .bool .unit)))) (.pair (.int .i64) (.pair .bool (.pair .bool .unit))))) .unit) .unit)), (5101, .arr (.int .i64) true [])] }
noncomputable def f38_o58 : List (Out × Sk) := [((.exit 0), { t := [(3, .slf 5130 (.int .i64))], h := [(5130, .arr (.int .i64) true [])] })]
noncomputable def f38_s58 (ls : List P) : Tree Step :=
 .ite (decide ((lf ls 0).toInt < ((((lf ls 1).fst).xs).length : Int))) (
  .ite (inb ((lf ls 0).toInt) ((((lf ls 1).fst).xs).length)) (
   .ite (!((((((rd (((lf ls 1).fst).xs) (((lf ls 0).toInt).toNat)).snd).snd).snd).fst).toBool)) (
    .ite (decide ((((lf ls 2).xs).length + 1) * 8 ≤ 140737488355328)) (
     .ret (.inl [.int .i64 (IntKind.i64.wrap (((lf ls 0).toInt) + (1 : Int))), lf ls 1, .list (((lf ls 2).isNil) && false) (((lf ls 2).xs) ++ ([lf ls 0] : List P))])) (
     .fail)) (
    .ret (.inl [.int .i64 (IntKind.i64.wrap (((lf ls 0).toInt) + (1 : Int))), lf ls 1, .list ((lf ls 2).isNil) ((lf ls 2).xs)]))) (
   .fail)) (
  .ret (.inr (0, [.list ((lf ls 2).isNil) ((lf ls 2).xs)])))
noncomputable def f38_t (ps : List P) : Tree (Nat × List P) :=
 .loop (loopT f38_s58 FUEL [.int .i64 (0 : Int), lf ps 0, .list true []]) fun y1 =>
  .ite (Nat.beq y1.1 0) (
   .ret (0, [.list ((lf y1.2 0).isNil) ((lf y1.2 0).xs)])) (
   .fail)
noncomputable def f38_v (ps : List P) : Option (Nat × List P) := (f38_t ps).run some
noncomputable def f38_e : EntD := ⟨38, [.imm (.pair (.slice (.pair (.slice (.pair .str (.pair (.slice (.pair (.int .i64) (.pair (.int .i64) .unit))) (.pair .bool .unit)))) (.pair (.int .i64) (.pair .bool (.pair .bool .unit))))) .unit)], f38_v, [fun ps ls qs => ⟨[.own (ls.getD 3129 0) (.int .i64) (lf qs 0).isNil (lf qs 0).xs], [.imm (.pair (.slice (.pair (.slice (.pair .str (.pair (.slice (.pair (.int .i64) (.pair (.int .i64) .unit))) (.pair .bool .unit)))) (.pair (.int .i64) (.pair .bool (.pair .bool .unit))))) .unit) (lf ps 0)]⟩]⟩
noncomputable def f38_u : List Cu := [.loop 58 f38_k58 f38_o58 f38_s58]
noncomputable def f38_c : Cx := ⟨Try.prog, envOf [], 24, lOf f38_u, fun _ => false⟩
noncomputable def f38_b : Code := match Try.f38.body with | some b => b | none => .skip
theorem f38_q58 : (Cu.loop 58 f38_k58 f38_o58 f38_s58).Ok f38_c f38_b := ⟨by kernel_rfl, fun ls Kr Kx => by kernel_rfl⟩
theorem f38_x (ps : List P) (ls : List Nat) : execFn f38_c 38 f38_e.tm (explF ps 1 0) ls = (f38_t ps).run fun q => altR (f38_e.res.map fun f => f ps ls) 0 q some := by kernel_rfl
theorem f38_ok : OkEnt Try.prog f38_e := ent_ok (c := f38_c) (g := 38) (body := f38_b) (us := f38_u) (n := 1) (t := f38_t) (good_envOf _ trivial) Try.func38 rfl Try.call38 rfl ⟨f38_q58, trivial⟩ (by kernel_rfl) f38_x (fun _ => rfl)
/-! ### comprador/compradorref09.Ints -/
noncomputable def f37_k58 : Sk := { t := [(0, .imm (.slice (.int .i64)) .unit), (1, .imm (.slice (.int .i64)) .unit), (5, .imm (.int .i64) .unit)], h := [] }
noncomputable def f37_o58 : List (Out × Sk) := [(.ret, { t := [(4, .imm .bool .unit)], h := [] }), ((.exit 0), { t := [], h := [] })]
noncomputable def f37_s58 (ls : List P) : Tree Step :=
 .ite (decide ((lf ls 2).toInt < (((lf ls 0).xs).length : Int))) (
  .ite (inb ((lf ls 2).toInt) (((lf ls 0).xs).length)) (
   .ite (inb ((lf ls 2).toInt) (((lf ls 1).xs).length)) (
    .ite (((rd ((lf ls 0).xs) (((lf ls 2).toInt).toNat)).toInt) != ((rd ((lf ls 1).xs) (((lf ls 2).toInt).toNat)).toInt)) (
     .ret (.inr (0, [.bool false]))) (
     .ret (.inl [lf ls 0, lf ls 1, .int .i64 (IntKind.i64.wrap (((lf ls 2).toInt) + (1 : Int)))]))) (
    .fail)) (
   .fail)) (
  .ret (.inr (1, [])))
noncomputable def f37_t (ps : List P) : Tree (Nat × List P) :=
 .ite ((((lf ps 0).xs).length : Int) != (((lf ps 1).xs).length : Int)) (
  .ret (0, [.bool false])) (
  .loop (loopT f37_s58 FUEL [lf ps 0, lf ps 1, .int .i64 (0 : Int)]) fun y1 =>
   .ite (Nat.beq y1.1 0) (
    .ret (0, [lf y1.2 0])) (
    .ite (Nat.beq y1.1 1) (
     .ret (0, [.bool true])) (
     .fail)))
noncomputable def f37_v (ps : List P) : Option (Nat × List P) := (f37_t ps).run some
noncomputable def f37_e : EntD := ⟨37, [.imm (.slice (.int .i64)), .imm (.slice (.int .i64))], f37_v, [fun ps ls qs => ⟨[.imm .bool (lf qs 0)], [.imm (.slice (.int .i64)) (lf ps 0), .imm (.slice (.int .i64)) (lf ps 1)]⟩]⟩
noncomputable def f37_u : List Cu := [.loop 58 f37_k58 f37_o58 f37_s58]
noncomputable def f37_c : Cx := ⟨Try.prog, envOf [], 26, lOf f37_u, fun _ => false⟩
noncomputable def f37_b : Code := match Try.f37.body with | some b => b | none => .skip
theorem f37_q58 : (Cu.loop 58 f37_k58 f37_o58 f37_s58).Ok f37_c f37_b := ⟨by kernel_rfl, fun ls Kr Kx => by kernel_rfl⟩
theorem f37_x (ps : List P) (ls : List Nat) : execFn f37_c 37 f37_e.tm (explF ps 2 0) ls = (f37_t ps).run fun q => altR (f37_e.res.map fun f => f ps ls) 0 q some := by kernel_rfl
theorem f37_ok : OkEnt Try.prog f37_e := ent_ok (c := f37_c) (g := 37) (body := f37_b) (us := f37_u) (n := 2) (t := f37_t) (good_envOf _ trivial) Try.func37 rfl Try.call37 rfl ⟨f37_q58, trivial⟩ (by kernel_rfl) f37_x (fun _ => rfl)
end Go.Proofs.Ytjemihhhkhdbeaa
