/- Functions: what each tells. Conditions: none. -/
import Derived.Test.YtihenfpnilliiaaFMt1
open Go Go.Eng Go.Proofs
set_option pp.deepTerms true
set_option linter.unusedVariables false
namespace Go.Proofs.Ytihenfpnilliiaa
/-! ### comprador/compradorref03.Runes -/
noncomputable def f58_k60 : Sk := { t := [(0, .imm .str .unit), (3, .slf 4900 (.int .i64)), (4, .imm (.int .i64) .unit)], h := [(4900, .arr (.int .i64) true [])] }
noncomputable def f58_o60 : List (Out × Sk) := [((.exit 0), { t := [(3, .slf 4930 (.int .i64))], h := [(4930, .arr (.int .i64) true [])] })]
noncomputable def f58_s60 (ls : List P) : Tree Step :=
 .ite (decide ((lf ls 1).toInt < (((lf ls 0).toStr).size : Int))) (
  .loop (f65_v [lf ls 0, lf ls 1]) fun x1 =>
   .ite (Nat.beq x1.1 0) (
    .ite (decide ((((lf ls 2).xs).length + 1) * 8 ≤ 140737488355328)) (
     .ret (.inl [lf ls 0, .int .i64 (IntKind.i64.wrap (((lf ls 1).toInt) + ((lf x1.2 1).toInt))), .list (((lf ls 2).isNil) && false) (((lf ls 2).xs) ++ [lf x1.2 0])])) (
     .fail)) (
    .fail)) (
  .ret (.inr (0, [.list ((lf ls 2).isNil) ((lf ls 2).xs)])))
noncomputable def f58_t (ps : List P) : Tree (Nat × List P) :=
 .loop (loopT f58_s60 FUEL [lf ps 0, .int .i64 (0 : Int), .list true []]) fun y2 =>
  .ite (Nat.beq y2.1 0) (
   .ret (0, [.list ((lf y2.2 0).isNil) ((lf y2.2 0).xs)])) (
   .fail)
noncomputable def f58_v (ps : List P) : Option (Nat × List P) := (f58_t ps).run some
noncomputable def f58_e : EntD := ⟨58, [.imm .str], f58_v, [fun ps ls qs => ⟨[.own (ls.getD 2929 0) (.int .i64) (lf qs 0).isNil (lf qs 0).xs], [.imm .str (lf ps 0)]⟩]⟩
noncomputable def f58_u : List Cu := [.loop 60 f58_k60 f58_o60 f58_s60]
noncomputable def f58_c : Cx := ⟨Try.prog, envOf [f65_e], 25, lOf f58_u⟩
noncomputable def f58_b : Code := match Try.f58.body with | some b => b | none => .skip
theorem f58_q60 : (Cu.loop 60 f58_k60 f58_o60 f58_s60).Ok f58_c f58_b := ⟨by kernel_rfl, fun ls Kr Kx => by kernel_rfl⟩
theorem f58_x (ps : List P) (ls : List Nat) : execFn f58_c 58 f58_e.tm (explF ps 1 0) ls = (f58_t ps).run fun q => altR (f58_e.res.map fun f => f ps ls) 0 q some := by kernel_rfl
theorem f58_ok : OkEnt Try.prog f58_e := ent_ok (c := f58_c) (g := 58) (body := f58_b) (us := f58_u) (n := 1) (t := f58_t) (good_envOf _ ⟨f65_ok, trivial⟩) Try.func58 rfl Try.call58 rfl ⟨f58_q60, trivial⟩ (by kernel_rfl) f58_x (fun _ => rfl)
/-! ### comprador/compradorref03.Kind -/
noncomputable def f59_t (ps : List P) : Tree (Nat × List P) :=
 .ite (decide ((lf ps 0).toInt ≥ (97 : Int))) (
  .ite (decide ((lf ps 0).toInt ≤ (122 : Int))) (
   .ret (0, [.int .i64 (0 : Int)])) (
   .ite (decide ((lf ps 0).toInt ≥ (945 : Int))) (
    .ite (decide ((lf ps 0).toInt ≤ (969 : Int))) (
     .ret (0, [.int .i64 (1 : Int)])) (
     .ite (decide ((lf ps 0).toInt ≥ (48 : Int))) (
      .ite (decide ((lf ps 0).toInt ≤ (57 : Int))) (
       .ret (0, [.int .i64 (2 : Int)])) (
       .ite (((lf ps 0).toInt) == (45 : Int)) (
        .ret (0, [.int .i64 (3 : Int)])) (
        .ret (0, [.int .i64 (4 : Int)])))) (
      .ite (((lf ps 0).toInt) == (45 : Int)) (
       .ret (0, [.int .i64 (3 : Int)])) (
       .ret (0, [.int .i64 (4 : Int)]))))) (
    .ite (decide ((lf ps 0).toInt ≥ (48 : Int))) (
     .ite (decide ((lf ps 0).toInt ≤ (57 : Int))) (
      .ret (0, [.int .i64 (2 : Int)])) (
      .ite (((lf ps 0).toInt) == (45 : Int)) (
       .ret (0, [.int .i64 (3 : Int)])) (
       .ret (0, [.int .i64 (4 : Int)])))) (
     .ite (((lf ps 0).toInt) == (45 : Int)) (
      .ret (0, [.int .i64 (3 : Int)])) (
      .ret (0, [.int .i64 (4 : Int)])))))) (
  .ite (decide ((lf ps 0).toInt ≥ (945 : Int))) (
   .ite (decide ((lf ps 0).toInt ≤ (969 : Int))) (
    .ret (0, [.int .i64 (1 : Int)])) (
    .ite (decide ((lf ps 0).toInt ≥ (48 : Int))) (
     .ite (decide ((lf ps 0).toInt ≤ (57 : Int))) (
      .ret (0, [.int .i64 (2 : Int)])) (
      .ite (((lf ps 0).toInt) == (45 : Int)) (
       .ret (0, [.int .i64 (3 : Int)])) (
       .ret (0, [.int .i64 (4 : Int)])))) (
     .ite (((lf ps 0).toInt) == (45 : Int)) (
      .ret (0, [.int .i64 (3 : Int)])) (
      .ret (0, [.int .i64 (4 : Int)]))))) (
   .ite (decide ((lf ps 0).toInt ≥ (48 : Int))) (
    .ite (decide ((lf ps 0).toInt ≤ (57 : Int))) (
     .ret (0, [.int .i64 (2 : Int)])) (
     .ite (((lf ps 0).toInt) == (45 : Int)) (
      .ret (0, [.int .i64 (3 : Int)])) (
      .ret (0, [.int .i64 (4 : Int)])))) (
    .ite (((lf ps 0).toInt) == (45 : Int)) (
     .ret (0, [.int .i64 (3 : Int)])) (
     .ret (0, [.int .i64 (4 : Int)])))))
noncomputable def f59_v (ps : List P) : Option (Nat × List P) := (f59_t ps).run some
noncomputable def f59_e : EntD := ⟨59, [.imm (.int .i64)], f59_v, [fun ps ls qs => ⟨[.imm (.int .i64) (lf qs 0)], [.imm (.int .i64) (lf ps 0)]⟩]⟩
noncomputable def f59_u : List Cu := []
noncomputable def f59_c : Cx := ⟨Try.prog, envOf [], 23, lOf f59_u⟩
noncomputable def f59_b : Code := match Try.f59.body with | some b => b | none => .skip
theorem f59_x (ps : List P) (ls : List Nat) : execFn f59_c 59 f59_e.tm (explF ps 1 0) ls = (f59_t ps).run fun q => altR (f59_e.res.map fun f => f ps ls) 0 q some := by kernel_rfl
theorem f59_ok : OkEnt Try.prog f59_e := ent_ok (c := f59_c) (g := 59) (body := f59_b) (us := f59_u) (n := 1) (t := f59_t) (good_envOf _ trivial) Try.func59 rfl Try.call59 rfl trivial (by kernel_rfl) f59_x (fun _ => rfl)
/-! ### comprador/compradorref03.Fit -/
noncomputable def f40_k122 : Sk := { t := [(3, .slf 5900 (.int .i64)), (4, .imm (.int .i64) .unit)], h := [(5900, .arr (.int .i64) true [])] }
noncomputable def f40_o122 : List (Out × Sk) := [(.ret, { t := [(2, .imm .bool .unit)], h := [] }), ((.exit 0), { t := [(3, .slf 5930 (.int .i64))], h := [(5930, .arr (.int .i64) true [])] })]
noncomputable def f40_s122 (ls : List P) : Tree Step :=
 .ite (decide ((lf ls 0).toInt < (((lf ls 1).xs).length : Int))) (
  .ite (inb ((lf ls 0).toInt) (((lf ls 1).xs).length)) (
   .loop (f59_v [rd ((lf ls 1).xs) (((lf ls 0).toInt).toNat)]) fun x2 =>
    .ite (Nat.beq x2.1 0) (
     .ite (((lf x2.2 0).toInt) == (4 : Int)) (
      .ret (.inr (0, [.bool false]))) (
      .ite (((lf ls 0).toInt) == (0 : Int)) (
       .ite (inb ((lf ls 0).toInt) (((lf ls 1).xs).length)) (
        .loop (f59_v [rd ((lf ls 1).xs) (((lf ls 0).toInt).toNat)]) fun x3 =>
         .ite (Nat.beq x3.1 0) (
          .ite (decide ((lf x3.2 0).toInt > (1 : Int))) (
           .ret (.inr (0, [.bool false]))) (
           .ret (.inl [.int .i64 (IntKind.i64.wrap (((lf ls 0).toInt) + (1 : Int))), .list ((lf ls 1).isNil) ((lf ls 1).xs)]))) (
          .fail)) (
        .fail)) (
       .ret (.inl [.int .i64 (IntKind.i64.wrap (((lf ls 0).toInt) + (1 : Int))), .list ((lf ls 1).isNil) ((lf ls 1).xs)])))) (
     .fail)) (
   .fail)) (
  .ret (.inr (1, [.list ((lf ls 1).isNil) ((lf ls 1).xs)])))
noncomputable def f40_t (ps : List P) : Tree (Nat × List P) :=
 .ite (decide ((((lf ps 0).toStr).size : Int) > (100 : Int))) (
  .ret (0, [.bool false])) (
  .loop (f58_v [lf ps 0]) fun x1 =>
   .ite (Nat.beq x1.1 0) (
    .loop (loopT f40_s122 FUEL [.int .i64 (0 : Int), .list ((lf x1.2 0).isNil) ((lf x1.2 0).xs)]) fun y4 =>
     .ite (Nat.beq y4.1 0) (
      .ret (0, [lf y4.2 0])) (
      .ite (Nat.beq y4.1 1) (
       .ite (decide ((((lf y4.2 0).xs).length : Int) ≥ (1 : Int))) (
        .ret (0, [.bool (decide ((((lf y4.2 0).xs).length : Int) ≤ (12 : Int)))])) (
        .ret (0, [.bool false]))) (
       .fail))) (
    .fail))
noncomputable def f40_v (ps : List P) : Option (Nat × List P) := (f40_t ps).run some
noncomputable def f40_e : EntD := ⟨40, [.imm .str], f40_v, [fun ps ls qs => ⟨[.imm .bool (lf qs 0)], [.imm .str (lf ps 0)]⟩]⟩
noncomputable def f40_u : List Cu := [.loop 122 f40_k122 f40_o122 f40_s122]
noncomputable def f40_c : Cx := ⟨Try.prog, envOf [f58_e, f59_e], 42, lOf f40_u⟩
noncomputable def f40_b : Code := match Try.f40.body with | some b => b | none => .skip
theorem f40_q122 : (Cu.loop 122 f40_k122 f40_o122 f40_s122).Ok f40_c f40_b := ⟨by kernel_rfl, fun ls Kr Kx => by kernel_rfl⟩
theorem f40_x (ps : List P) (ls : List Nat) : execFn f40_c 40 f40_e.tm (explF ps 1 0) ls = (f40_t ps).run fun q => altR (f40_e.res.map fun f => f ps ls) 0 q some := by kernel_rfl
theorem f40_ok : OkEnt Try.prog f40_e := ent_ok (c := f40_c) (g := 40) (body := f40_b) (us := f40_u) (n := 1) (t := f40_t) (good_envOf _ ⟨f58_ok, f59_ok, trivial⟩) Try.func40 rfl Try.call40 rfl ⟨f40_q122, trivial⟩ (by kernel_rfl) f40_x (fun _ => rfl)
/-! ### comprador/compradorref06.Check -/
noncomputable def f18_k26 : Sk := { t := [(0, .imm (.slice (.pair (.int .i64) (.pair (.int .i64) .unit))) .unit), (3, .imm (.int .i64) .unit)], h := [] }
noncomputable def f18_o26 : List (Out × Sk) := [(.ret, { t := [(2, .imm .bool .unit)], h := [] }), ((.exit 0), { t := [], h := [] })]
noncomputable def f18_s26 (ls : List P) : Tree Step :=
 .ite (decide ((lf ls 1).toInt < (((lf ls 0).xs).length : Int))) (
  .ite (inb ((lf ls 1).toInt) (((lf ls 0).xs).length)) (
   .ite (decide (((rd ((lf ls 0).xs) (((lf ls 1).toInt).toNat)).fst).toInt < (0 : Int))) (
    .ret (.inr (0, [.bool false]))) (
    .ite (inb ((lf ls 1).toInt) (((lf ls 0).xs).length)) (
     .ite (decide ((((rd ((lf ls 0).xs) (((lf ls 1).toInt).toNat)).snd).fst).toInt > (1000000000 : Int))) (
      .ret (.inr (0, [.bool false]))) (
      .ite (inb ((lf ls 1).toInt) (((lf ls 0).xs).length)) (
       .ite (inb ((lf ls 1).toInt) (((lf ls 0).xs).length)) (
        .ite (decide (((rd ((lf ls 0).xs) (((lf ls 1).toInt).toNat)).fst).toInt ≥ (((rd ((lf ls 0).xs) (((lf ls 1).toInt).toNat)).snd).fst).toInt)) (
         .ret (.inr (0, [.bool false]))) (
         .ite (decide ((lf ls 1).toInt > (0 : Int))) (
          .ite (inb ((lf ls 1).toInt) (((lf ls 0).xs).length)) (
           .ite (inb (IntKind.i64.wrap (((lf ls 1).toInt) - (1 : Int))) (((lf ls 0).xs).length)) (
            .ite (decide (((rd ((lf ls 0).xs) (((lf ls 1).toInt).toNat)).fst).toInt ≤ (((rd ((lf ls 0).xs) ((IntKind.i64.wrap (((lf ls 1).toInt) - (1 : Int))).toNat)).snd).fst).toInt)) (
             .ret (.inr (0, [.bool false]))) (
             .ret (.inl [lf ls 0, .int .i64 (IntKind.i64.wrap (((lf ls 1).toInt) + (1 : Int)))]))) (
            .fail)) (
           .fail)) (
          .ret (.inl [lf ls 0, .int .i64 (IntKind.i64.wrap (((lf ls 1).toInt) + (1 : Int)))])))) (
        .fail)) (
       .fail))) (
     .fail))) (
   .fail)) (
  .ret (.inr (1, [])))
noncomputable def f18_t (ps : List P) : Tree (Nat × List P) :=
 .loop (loopT f18_s26 FUEL [lf ps 0, .int .i64 (0 : Int)]) fun y1 =>
  .ite (Nat.beq y1.1 0) (
   .ret (0, [lf y1.2 0])) (
   .ite (Nat.beq y1.1 1) (
    .ret (0, [.bool true])) (
    .fail))
noncomputable def f18_v (ps : List P) : Option (Nat × List P) := (f18_t ps).run some
noncomputable def f18_e : EntD := ⟨18, [.imm (.slice (.pair (.int .i64) (.pair (.int .i64) .unit)))], f18_v, [fun ps ls qs => ⟨[.imm .bool (lf qs 0)], [.imm (.slice (.pair (.int .i64) (.pair (.int .i64) .unit))) (lf ps 0)]⟩]⟩
noncomputable def f18_u : List Cu := [.loop 26 f18_k26 f18_o26 f18_s26]
noncomputable def f18_c : Cx := ⟨Try.prog, envOf [], 55, lOf f18_u⟩
noncomputable def f18_b : Code := match Try.f18.body with | some b => b | none => .skip
theorem f18_q26 : (Cu.loop 26 f18_k26 f18_o26 f18_s26).Ok f18_c f18_b := ⟨by kernel_rfl, fun ls Kr Kx => by kernel_rfl⟩
theorem f18_x (ps : List P) (ls : List Nat) : execFn f18_c 18 f18_e.tm (explF ps 1 0) ls = (f18_t ps).run fun q => altR (f18_e.res.map fun f => f ps ls) 0 q some := by kernel_rfl
theorem f18_ok : OkEnt Try.prog f18_e := ent_ok (c := f18_c) (g := 18) (body := f18_b) (us := f18_u) (n := 1) (t := f18_t) (good_envOf _ trivial) Try.func18 rfl Try.call18 rfl ⟨f18_q26, trivial⟩ (by kernel_rfl) f18_x (fun _ => rfl)
/-! ### comprador/compradorref08.Check -/
noncomputable def f39_k26 : Sk := { t := [(0, .imm (.slice (.pair .str (.pair (.slice (.pair (.int .i64) (.pair (.int .i64) .unit))) .unit))) .unit), (3, .imm (.int .i64) .unit)], h := [] }
noncomputable def f39_o26 : List (Out × Sk) := [(.ret, { t := [(2, .imm .bool .unit)], h := [] }), ((.exit 0), { t := [(0, .imm (.slice (.pair .str (.pair (.slice (.pair (.int .i64) (.pair (.int .i64) .unit))) .unit))) .unit)], h := [] })]
noncomputable def f39_s26 (ls : List P) : Tree Step :=
 .ite (decide ((lf ls 1).toInt < (((lf ls 0).xs).length : Int))) (
  .ite (inb ((lf ls 1).toInt) (((lf ls 0).xs).length)) (
   .loop (f40_v [(rd ((lf ls 0).xs) (((lf ls 1).toInt).toNat)).fst]) fun x1 =>
    .ite (Nat.beq x1.1 0) (
     .ite (!((lf x1.2 0).toBool)) (
      .ret (.inr (0, [.bool false]))) (
      .ite (inb ((lf ls 1).toInt) (((lf ls 0).xs).length)) (
       .loop (f18_v [((rd ((lf ls 0).xs) (((lf ls 1).toInt).toNat)).snd).fst]) fun x2 =>
        .ite (Nat.beq x2.1 0) (
         .ite (!((lf x2.2 0).toBool)) (
          .ret (.inr (0, [.bool false]))) (
          .ite (inb ((lf ls 1).toInt) (((lf ls 0).xs).length)) (
           .ite (decide ((((((rd ((lf ls 0).xs) (((lf ls 1).toInt).toNat)).snd).fst).xs).length : Int) > (6 : Int))) (
            .ret (.inr (0, [.bool false]))) (
            .ite (decide ((lf ls 1).toInt > (0 : Int))) (
             .ite (inb ((lf ls 1).toInt) (((lf ls 0).xs).length)) (
              .ite (inb (IntKind.i64.wrap (((lf ls 1).toInt) - (1 : Int))) (((lf ls 0).xs).length)) (
               .ite (strLt (((rd ((lf ls 0).xs) (((lf ls 1).toInt).toNat)).fst).toStr) (((rd ((lf ls 0).xs) ((IntKind.i64.wrap (((lf ls 1).toInt) - (1 : Int))).toNat)).fst).toStr) || strEq (((rd ((lf ls 0).xs) (((lf ls 1).toInt).toNat)).fst).toStr) (((rd ((lf ls 0).xs) ((IntKind.i64.wrap (((lf ls 1).toInt) - (1 : Int))).toNat)).fst).toStr)) (
                .ret (.inr (0, [.bool false]))) (
                .ret (.inl [lf ls 0, .int .i64 (IntKind.i64.wrap (((lf ls 1).toInt) + (1 : Int)))]))) (
               .fail)) (
              .fail)) (
             .ret (.inl [lf ls 0, .int .i64 (IntKind.i64.wrap (((lf ls 1).toInt) + (1 : Int)))])))) (
           .fail))) (
         .fail)) (
       .fail))) (
     .fail)) (
   .fail)) (
  .ret (.inr (1, [lf ls 0])))
noncomputable def f39_t (ps : List P) : Tree (Nat × List P) :=
 .loop (loopT f39_s26 FUEL [lf ps 0, .int .i64 (0 : Int)]) fun y3 =>
  .ite (Nat.beq y3.1 0) (
   .ret (0, [lf y3.2 0])) (
   .ite (Nat.beq y3.1 1) (
    .ret (0, [.bool (decide ((((lf y3.2 0).xs).length : Int) ≤ (6 : Int)))])) (
    .fail))
noncomputable def f39_v (ps : List P) : Option (Nat × List P) := (f39_t ps).run some
noncomputable def f39_e : EntD := ⟨39, [.imm (.slice (.pair .str (.pair (.slice (.pair (.int .i64) (.pair (.int .i64) .unit))) .unit)))], f39_v, [fun ps ls qs => ⟨[.imm .bool (lf qs 0)], [.imm (.slice (.pair .str (.pair (.slice (.pair (.int .i64) (.pair (.int .i64) .unit))) .unit))) (lf ps 0)]⟩]⟩
noncomputable def f39_u : List Cu := [.loop 26 f39_k26 f39_o26 f39_s26]
noncomputable def f39_c : Cx := ⟨Try.prog, envOf [f18_e, f40_e], 56, lOf f39_u⟩
noncomputable def f39_b : Code := match Try.f39.body with | some b => b | none => .skip
theorem f39_q26 : (Cu.loop 26 f39_k26 f39_o26 f39_s26).Ok f39_c f39_b := ⟨by kernel_rfl, fun ls Kr Kx => by kernel_rfl⟩
theorem f39_x (ps : List P) (ls : List Nat) : execFn f39_c 39 f39_e.tm (explF ps 1 0) ls = (f39_t ps).run fun q => altR (f39_e.res.map fun f => f ps ls) 0 q some := by kernel_rfl
theorem f39_ok : OkEnt Try.prog f39_e := ent_ok (c := f39_c) (g := 39) (body := f39_b) (us := f39_u) (n := 1) (t := f39_t) (good_envOf _ ⟨f18_ok, f40_ok, trivial⟩) Try.func39 rfl Try.call39 rfl ⟨f39_q26, trivial⟩ (by kernel_rfl) f39_x (fun _ => rfl)
/-! ### comprador/compradorref09.Check -/
noncomputable def f17_k26 : Sk := { t := [(1, .ref 4900 [] (.pair .str (.pair (.slice (.pair (.int .i64) (.pair (.slice (.pair .str (.pair (.slice (.pair (.int .i64) (.pair (.int .i64) .unit))) .unit))) .unit))) .unit))), (3, .imm (.int .i64) .unit)], h := [(4900, .obj (.pair .str (.pair (.slice (.pair (.int .i64) (.pair (.slice (.pair .str (.pair (.slice (.pair (.int .i64) (.pair (.int .i64) .unit))) .unit))) .unit))) .unit)) (.imm (.pair .str (.pair (.slice (.pair (.int .i64) (.pair (.slice (.pair .str (.pair (.slice (.pair (.int .i64) (.pair (.int .i64) .unit))) .unit))) .unit))) .unit)) .unit))] }
noncomputable def f17_o26 : List (Out × Sk) := [(.ret, { t := [(2, .imm .bool .unit)], h := [] }), ((.exit 0), { t := [(1, .ref 4930 [] (.pair .str (.pair (.slice (.pair (.int .i64) (.pair (.slice (.pair .str (.pair (.slice (.pair (.int .i64) (.pair (.int .i64) .unit))) .unit))) .unit))) .unit)))], h := [(4930, .obj (.pair .str (.pair (.slice (.pair (.int .i64) (.pair (.slice (.pair .str (.pair (.slice (.pair (.int .i64) (.pair (.int .i64) .unit))) .unit))) .unit))) .unit)) (.imm (.pair .str (.pair (.slice (.pair (.int .i64) (.pair (.slice (.pair .str (.pair (.slice (.pair (.int .i64) (.pair (.int .i64) .unit))) .unit))) .unit))) .unit)) .unit))] })]
noncomputable def f17_s26 (ls : List P) : Tree Step :=
 .ite (decide ((lf ls 0).toInt < (((((lf ls 1).snd).fst).xs).length : Int))) (
  .ite (inb ((lf ls 0).toInt) (((((lf ls 1).snd).fst).xs).length)) (
   .loop (f38_v [(rd ((((lf ls 1).snd).fst).xs) (((lf ls 0).toInt).toNat)).fst]) fun x1 =>
    .ite (Nat.beq x1.1 0) (
     .ite (!((lf x1.2 0).toBool)) (
      .ret (.inr (0, [.bool false]))) (
      .loop (f39_v [((rd ((((lf ls 1).snd).fst).xs) (((lf ls 0).toInt).toNat)).snd).fst]) fun x2 =>
       .ite (Nat.beq x2.1 0) (
        .ite (!((lf x2.2 0).toBool)) (
         .ret (.inr (0, [.bool false]))) (
         .ite (decide ((lf ls 0).toInt > (0 : Int))) (
          .ite (inb (IntKind.i64.wrap (((lf ls 0).toInt) - (1 : Int))) (((((lf ls 1).snd).fst).xs).length)) (
           .ite (decide (((rd ((((lf ls 1).snd).fst).xs) (((lf ls 0).toInt).toNat)).fst).toInt ≤ ((rd ((((lf ls 1).snd).fst).xs) ((IntKind.i64.wrap (((lf ls 0).toInt) - (1 : Int))).toNat)).fst).toInt)) (
            .ret (.inr (0, [.bool false]))) (
            .ret (.inl [.int .i64 (IntKind.i64.wrap (((lf ls 0).toInt) + (1 : Int))), lf ls 1]))) (
           .fail)) (
          .ret (.inl [.int .i64 (IntKind.i64.wrap (((lf ls 0).toInt) + (1 : Int))), lf ls 1])))) (
        .fail))) (
     .fail)) (
   .fail)) (
  .ret (.inr (1, [lf ls 1])))
noncomputable def f17_t (ps : List P) : Tree (Nat × List P) :=
 .loop (loopT f17_s26 FUEL [.int .i64 (0 : Int), lf ps 0]) fun y3 =>
  .ite (Nat.beq y3.1 0) (
   .ret (0, [lf y3.2 0])) (
   .ite (Nat.beq y3.1 1) (
    .loop (f40_v [(lf y3.2 0).fst]) fun x4 =>
     .ite (Nat.beq x4.1 0) (
      .ite ((lf x4.2 0).toBool) (
       .ret (0, [.bool (decide ((((((lf y3.2 0).snd).fst).xs).length : Int) ≤ (8 : Int)))])) (
       .ret (0, [.bool false]))) (
      .fail)) (
    .fail))
noncomputable def f17_v (ps : List P) : Option (Nat × List P) := (f17_t ps).run some
noncomputable def f17_e : EntD := ⟨17, [.imm (.pair .str (.pair (.slice (.pair (.int .i64) (.pair (.slice (.pair .str (.pair (.slice (.pair (.int .i64) (.pair (.int .i64) .unit))) .unit))) .unit))) .unit))], f17_v, [fun ps ls qs => ⟨[.imm .bool (lf qs 0)], [.imm (.pair .str (.pair (.slice (.pair (.int .i64) (.pair (.slice (.pair .str (.pair (.slice (.pair (.int .i64) (.pair (.int .i64) .unit))) .unit))) .unit))) .unit)) (lf ps 0)]⟩]⟩
noncomputable def f17_u : List Cu := [.loop 26 f17_k26 f17_o26 f17_s26]
noncomputable def f17_c : Cx := ⟨Try.prog, envOf [f38_e, f39_e, f40_e], 52, lOf f17_u⟩
noncomputable def f17_b : Code := match Try.f17.body with | some b => b | none => .skip
theorem f17_q26 : (Cu.loop 26 f17_k26 f17_o26 f17_s26).Ok f17_c f17_b := ⟨by kernel_rfl, fun ls Kr Kx => by kernel_rfl⟩
theorem f17_x (ps : List P) (ls : List Nat) : execFn f17_c 17 f17_e.tm (explF ps 1 0) ls = (f17_t ps).run fun q => altR (f17_e.res.map fun f => f ps ls) 0 q some := by kernel_rfl
theorem f17_ok : OkEnt Try.prog f17_e := ent_ok (c := f17_c) (g := 17) (body := f17_b) (us := f17_u) (n := 1) (t := f17_t) (good_envOf _ ⟨f38_ok, f39_ok, f40_ok, trivial⟩) Try.func17 rfl Try.call17 rfl ⟨f17_q26, trivial⟩ (by kernel_rfl) f17_x (fun _ => rfl)
/-! ### comprador/mani.find$1 -/
noncomputable def f54_t (ps : List P) : Tree (Nat × List P) :=
 .ret (0, [.int .i64 (IntKind.i64.wrap ((((lf ps 0).fst).toInt) - ((lf ps 1).toInt)))])
noncomputable def f54_v (ps : List P) : Option (Nat × List P) := (f54_t ps).run some
noncomputable def f54_e : EntD := ⟨54, [.imm (.pair (.int .i64) (.pair (.slice (.pair .str (.pair (.slice (.pair (.int .i64) (.pair (.int .i64) .unit))) .unit))) .unit)), .imm (.int .i64)], f54_v, [fun ps ls qs => ⟨[.imm (.int .i64) (lf qs 0)], [.imm (.pair (.int .i64) (.pair (.slice (.pair .str (.pair (.slice (.pair (.int .i64) (.pair (.int .i64) .unit))) .unit))) .unit)) (lf ps 0), .imm (.int .i64) (lf ps 1)]⟩]⟩
noncomputable def f54_u : List Cu := []
noncomputable def f54_c : Cx := ⟨Try.prog, envOf [], 9, lOf f54_u⟩
noncomputable def f54_b : Code := match Try.f54.body with | some b => b | none => .skip
theorem f54_x (ps : List P) (ls : List Nat) : execFn f54_c 54 f54_e.tm (explF ps 2 0) ls = (f54_t ps).run fun q => altR (f54_e.res.map fun f => f ps ls) 0 q some := by kernel_rfl
theorem f54_ok : OkEnt Try.prog f54_e := ent_ok (c := f54_c) (g := 54) (body := f54_b) (us := f54_u) (n := 2) (t := f54_t) (good_envOf _ trivial) Try.func54 rfl Try.call54 rfl trivial (by kernel_rfl) f54_x (fun _ => rfl)
/-! ### slices.BinarySearchFunc[[]comprador/api.Release,comprador/api.Release,int] -/
noncomputable def f53_k60 : Sk := { t := [(0, .imm (.slice (.pair (.int .i64) (.pair (.slice (.pair .str (.pair (.slice (.pair (.int .i64) (.pair (.int .i64) .unit))) .unit))) .unit))) .unit), (1, .imm (.int .i64) .unit), (2, .fn 54 (.imm .unit .unit)), (8, .imm (.int .i64) .unit), (9, .imm (.int .i64) .unit), (10, .imm (.int .i64) .unit)], h := [] }
noncomputable def f53_o60 : List (Out × Sk) := [((.exit 0), { t := [(0, .imm (.slice (.pair (.int .i64) (.pair (.slice (.pair .str (.pair (.slice (.pair (.int .i64) (.pair (.int .i64) .unit))) .unit))) .unit))) .unit), (1, .imm (.int .i64) .unit), (2, .fn 54 (.imm .unit .unit)), (8, .imm (.int .i64) .unit), (9, .imm (.int .i64) .unit)], h := [] })]
noncomputable def f53_s60 (ls : List P) : Tree Step :=
 .ite (decide ((lf ls 4).toInt < (lf ls 5).toInt)) (
  .ite (inb (IntKind.i64.wrap ((IntKind.u64.wrap (IntKind.i64.wrap (((lf ls 4).toInt) + ((lf ls 5).toInt)))).fdiv (2 ^ (1)))) (((lf ls 0).xs).length)) (
   .loop (f54_v [rd ((lf ls 0).xs) ((IntKind.i64.wrap ((IntKind.u64.wrap (IntKind.i64.wrap (((lf ls 4).toInt) + ((lf ls 5).toInt)))).fdiv (2 ^ (1)))).toNat), lf ls 1]) fun x1 =>
    .ite (Nat.beq x1.1 0) (
     .ite (decide ((lf x1.2 0).toInt < (0 : Int))) (
      .ret (.inl [lf ls 0, lf ls 1, lf ls 2, lf ls 3, .int .i64 (IntKind.i64.wrap ((IntKind.i64.wrap ((IntKind.u64.wrap (IntKind.i64.wrap (((lf ls 4).toInt) + ((lf ls 5).toInt)))).fdiv (2 ^ (1)))) + (1 : Int))), lf ls 5])) (
      .ret (.inl [lf ls 0, lf ls 1, lf ls 2, lf ls 3, lf ls 4, .int .i64 (IntKind.i64.wrap ((IntKind.u64.wrap (IntKind.i64.wrap (((lf ls 4).toInt) + ((lf ls 5).toInt)))).fdiv (2 ^ (1))))]))) (
     .fail)) (
   .fail)) (
  .ret (.inr (0, [lf ls 0, lf ls 1, lf ls 2, lf ls 3, lf ls 4])))
noncomputable def f53_t (ps : List P) : Tree (Nat × List P) :=
 .loop (loopT f53_s60 FUEL [lf ps 0, lf ps 1, lf ps 2, .int .i64 (((lf ps 0).xs).length : Int), .int .i64 (0 : Int), .int .i64 (((lf ps 0).xs).length : Int)]) fun y2 =>
  .ite (Nat.beq y2.1 0) (
   .ite (decide ((lf y2.2 4).toInt < (lf y2.2 3).toInt)) (
    .ite (inb ((lf y2.2 4).toInt) (((lf y2.2 0).xs).length)) (
     .loop (f54_v [rd ((lf y2.2 0).xs) (((lf y2.2 4).toInt).toNat), lf y2.2 1]) fun x3 =>
      .ite (Nat.beq x3.1 0) (
       .ret (0, [lf y2.2 4, .bool (((lf x3.2 0).toInt) == (0 : Int))])) (
       .fail)) (
     .fail)) (
    .ret (0, [lf y2.2 4, .bool false]))) (
   .fail)
noncomputable def f53_v (ps : List P) : Option (Nat × List P) := (f53_t ps).run some
noncomputable def f53_e : EntD := ⟨53, [.imm (.slice (.pair (.int .i64) (.pair (.slice (.pair .str (.pair (.slice (.pair (.int .i64) (.pair (.int .i64) .unit))) .unit))) .unit))), .imm (.int .i64), .fn 54 (.imm .unit)], f53_v, [fun ps ls qs => ⟨[.imm (.int .i64) (lf qs 0), .imm .bool (lf qs 1)], [.imm (.slice (.pair (.int .i64) (.pair (.slice (.pair .str (.pair (.slice (.pair (.int .i64) (.pair (.int .i64) .unit))) .unit))) .unit))) (lf ps 0), .imm (.int .i64) (lf ps 1), .fn 54 (.imm .unit (lf ps 2))]⟩]⟩
noncomputable def f53_u : List Cu := [.loop 60 f53_k60 f53_o60 f53_s60]
noncomputable def f53_c : Cx := ⟨Try.prog, envOf [f54_e], 49, lOf f53_u⟩
noncomputable def f53_b : Code := match Try.f53.body with | some b => b | none => .skip
theorem f53_q60 : (Cu.loop 60 f53_k60 f53_o60 f53_s60).Ok f53_c f53_b := ⟨by kernel_rfl, fun ls Kr Kx => by kernel_rfl⟩
theorem f53_x (ps : List P) (ls : List Nat) : execFn f53_c 53 f53_e.tm (explF ps 3 0) ls = (f53_t ps).run fun q => altR (f53_e.res.map fun f => f ps ls) 0 q some := by kernel_rfl
theorem f53_ok : OkEnt Try.prog f53_e := ent_ok (c := f53_c) (g := 53) (body := f53_b) (us := f53_u) (n := 3) (t := f53_t) (good_envOf _ ⟨f54_ok, trivial⟩) Try.func53 rfl Try.call53 rfl ⟨f53_q60, trivial⟩ (by kernel_rfl) f53_x (fun _ => rfl)
/-! ### comprador/mani.find -/
noncomputable def f35_t (ps : List P) : Tree (Nat × List P) :=
 .loop (f53_v [((lf ps 0).snd).fst, lf ps 1, .unit]) fun x1 =>
  .ite (Nat.beq x1.1 0) (
   .ret (0, [lf x1.2 0, lf x1.2 1])) (
   .fail)
noncomputable def f35_v (ps : List P) : Option (Nat × List P) := (f35_t ps).run some
noncomputable def f35_e : EntD := ⟨35, [.imm (.pair .str (.pair (.slice (.pair (.int .i64) (.pair (.slice (.pair .str (.pair (.slice (.pair (.int .i64) (.pair (.int .i64) .unit))) .unit))) .unit))) .unit)), .imm (.int .i64)], f35_v, [fun ps ls qs => ⟨[.imm (.int .i64) (lf qs 0), .imm .bool (lf qs 1)], [.imm (.pair .str (.pair (.slice (.pair (.int .i64) (.pair (.slice (.pair .str (.pair (.slice (.pair (.int .i64) (.pair (.int .i64) .unit))) .unit))) .unit))) .unit)) (lf ps 0), .imm (.int .i64) (lf ps 1)]⟩]⟩
noncomputable def f35_u : List Cu := []
noncomputable def f35_c : Cx := ⟨Try.prog, envOf [f53_e], 12, lOf f35_u⟩
noncomputable def f35_b : Code := match Try.f35.body with | some b => b | none => .skip
theorem f35_x (ps : List P) (ls : List Nat) : execFn f35_c 35 f35_e.tm (explF ps 2 0) ls = (f35_t ps).run fun q => altR (f35_e.res.map fun f => f ps ls) 0 q some := by kernel_rfl
theorem f35_ok : OkEnt Try.prog f35_e := ent_ok (c := f35_c) (g := 35) (body := f35_b) (us := f35_u) (n := 2) (t := f35_t) (good_envOf _ ⟨f53_ok, trivial⟩) Try.func35 rfl Try.call35 rfl trivial (by kernel_rfl) f35_x (fun _ => rfl)
/-! ### slices.Clone[[]comprador/api.Span,comprador/api.Span] -/
noncomputable def f55_k1 : Sk := { t := [(0, .imm (.slice (.pair (.int .i64) (.pair (.int .i64) .unit))) .unit)], h := [] }
noncomputable def f55_o1 : List (Out × Sk) := [(.ret, { t := [(2, .slf 4030 (.pair (.int .i64) (.pair (.int .i64) .unit)))], h := [(4030, .arr (.pair (.int .i64) (.pair (.int .i64) .unit)) true [])] })]
noncomputable def f55_s1 (ls : List P) : Tree (Nat × List P) :=
 .ite ((lf ls 0).isNil) (
  .ret (0, [.list true []])) (
  .ite (decide ((0 + ((lf ls 0).xs).length) * 16 ≤ 140737488355328)) (
   .ret (0, [.list false ((lf ls 0).xs)])) (
   .fail))
noncomputable def f55_t (ps : List P) : Tree (Nat × List P) :=
 .loop ((f55_s1 [lf ps 0]).run some) fun y1 =>
  .ite (Nat.beq y1.1 0) (
   .ret (0, [.list ((lf y1.2 0).isNil) ((lf y1.2 0).xs)])) (
   .fail)
noncomputable def f55_v (ps : List P) : Option (Nat × List P) := (f55_t ps).run some
noncomputable def f55_e : EntD := ⟨55, [.imm (.slice (.pair (.int .i64) (.pair (.int .i64) .unit)))], f55_v, [fun ps ls qs => ⟨[.own (ls.getD 2029 0) (.pair (.int .i64) (.pair (.int .i64) .unit)) (lf qs 0).isNil (lf qs 0).xs], [.imm (.slice (.pair (.int .i64) (.pair (.int .i64) .unit))) (lf ps 0)]⟩]⟩
noncomputable def f55_u : List Cu := [.cut 1 f55_k1 f55_o1 f55_s1]
noncomputable def f55_c : Cx := ⟨Try.prog, envOf [], 8, lOf f55_u⟩
noncomputable def f55_b : Code := match Try.f55.body with | some b => b | none => .skip
theorem f55_q1 : (Cu.cut 1 f55_k1 f55_o1 f55_s1).Ok f55_c f55_b := ⟨by kernel_rfl, fun ls Kx => by kernel_rfl⟩
theorem f55_x (ps : List P) (ls : List Nat) : execFn f55_c 55 f55_e.tm (explF ps 1 0) ls = (f55_t ps).run fun q => altR (f55_e.res.map fun f => f ps ls) 0 q some := by kernel_rfl
theorem f55_ok : OkEnt Try.prog f55_e := ent_ok (c := f55_c) (g := 55) (body := f55_b) (us := f55_u) (n := 1) (t := f55_t) (good_envOf _ trivial) Try.func55 rfl Try.call55 rfl ⟨f55_q1, trivial⟩ (by kernel_rfl) f55_x (fun _ => rfl)
/-! ### comprador/mani.cloned -/
noncomputable def f36_k58 : Sk := { t := [(2, .ref 5100 [] (.pair (.int .i64) (.pair (.slice (.pair .str (.pair (.slice (.pair (.int .i64) (.pair (.int .i64) .unit))) .unit))) .unit))), (3, .ref 5101 [] (.pair (.int .i64) (.pair (.slice (.pair .str (.pair (.slice (.pair (.int .i64) (.pair (.int .i64) .unit))) .unit))) .unit))), (10, .imm (.slice (.pair .str (.pair (.slice (.pair (.int .i64) (.pair (.int .i64) .unit))) .unit))) .unit), (11, .imm (.int .i64) .unit), (12, .imm (.int .i64) .unit)], h := [(5100, .obj (.pair (.int .i64) (.pair (.slice (.pair .str (.pair (.slice (.pair (.int .i64) (.pair (.int .i64) .unit))) .unit))) .unit)) (.imm (.pair (.int .i64) (.pair (.slice (.pair .str (.pair (.slice (.pair (.int .i64) (.pair (.int .i64) .unit))) .unit))) .unit)) .unit)), (5101, .obj (.pair (.int .i64) (.pair (.slice (.pair .str (.pair (.slice (.pair (.int .i64) (.pair (.int .i64) .unit))) .unit))) .unit)) (.pair (.imm (.int .i64) .unit) (.pair (.slf 5102 (.pair .str (.pair (.slice (.pair (.int .i64) (.pair (.int .i64) .unit))) .unit))) (.imm .unit .unit)))), (5102, .arr (.pair .str (.pair (.slice (.pair (.int .i64) (.pair (.int .i64) .unit))) .unit)) true [])] }
noncomputable def f36_o58 : List (Out × Sk) := [((.exit 0), { t := [(2, .ref 5130 [] (.pair (.int .i64) (.pair (.slice (.pair .str (.pair (.slice (.pair (.int .i64) (.pair (.int .i64) .unit))) .unit))) .unit))), (3, .ref 5131 [] (.pair (.int .i64) (.pair (.slice (.pair .str (.pair (.slice (.pair (.int .i64) (.pair (.int .i64) .unit))) .unit))) .unit)))], h := [(5130, .obj (.pair (.int .i64) (.pair (.slice (.pair .str (.pair (.slice (.pair (.int .i64) (.pair (.int .i64) .unit))) .unit))) .unit)) (.imm (.pair (.int .i64) (.pair (.slice (.pair .str (.pair (.slice (.pair (.int .i64) (.pair (.int .i64) .unit))) .unit))) .unit)) .unit)), (5131, .obj (.pair (.int .i64) (.pair (.slice (.pair .str (.pair (.slice (.pair (.int .i64) (.pair (.int .i64) .unit))) .unit))) .unit)) (.pair (.imm (.int .i64) .unit) (.pair (.slf 5132 (.pair .str (.pair (.slice (.pair (.int .i64) (.pair (.int .i64) .unit))) .unit))) (.imm .unit .unit)))), (5132, .arr (.pair .str (.pair (.slice (.pair (.int .i64) (.pair (.int .i64) .unit))) .unit)) true [])] })]
noncomputable def f36_s58 (ls : List P) : Tree Step :=
 .ite (decide ((lf ls 2).toInt < (lf ls 1).toInt)) (
  .ite (inb ((lf ls 2).toInt) (((lf ls 0).xs).length)) (
   .loop (f55_v [((rd ((lf ls 0).xs) (((lf ls 2).toInt).toNat)).snd).fst]) fun x1 =>
    .ite (Nat.beq x1.1 0) (
     .ite (decide ((((lf ls 6).xs).length + 1) * 40 ≤ 140737488355328)) (
      .ret (.inl [lf ls 0, lf ls 1, .int .i64 (IntKind.i64.wrap (((lf ls 2).toInt) + (1 : Int))), lf ls 3, lf ls 4, lf ls 5, .list (((lf ls 6).isNil) && false) (((lf ls 6).xs) ++ [.pair ((rd ((lf ls 0).xs) (((lf ls 2).toInt).toNat)).fst) (.pair (.list ((lf x1.2 0).isNil) ((lf x1.2 0).xs)) .unit)])])) (
      .fail)) (
     .fail)) (
   .fail)) (
  .ret (.inr (0, [lf ls 3, lf ls 4, lf ls 5, .list ((lf ls 6).isNil) ((lf ls 6).xs)])))
noncomputable def f36_t (ps : List P) : Tree (Nat × List P) :=
 .loop (loopT f36_s58 FUEL [((lf ps 0).snd).fst, .int .i64 (((((lf ps 0).snd).fst).xs).length : Int), .int .i64 (0 : Int), .pair (.int .i64 (0 : Int)) (.pair (.list true []) .unit), (lf ps 0).fst, .unit, .list true []]) fun y2 =>
  .ite (Nat.beq y2.1 0) (
   .ret (0, [lf y2.2 1, .list ((lf y2.2 3).isNil) ((lf y2.2 3).xs), lf y2.2 2])) (
   .fail)
noncomputable def f36_v (ps : List P) : Option (Nat × List P) := (f36_t ps).run some
noncomputable def f36_e : EntD := ⟨36, [.imm (.pair (.int .i64) (.pair (.slice (.pair .str (.pair (.slice (.pair (.int .i64) (.pair (.int .i64) .unit))) .unit))) .unit))], f36_v, [fun ps ls qs => ⟨[.pair (.imm (.int .i64) (lf qs 0)) (.pair (.own (ls.getD 3131 0) (.pair .str (.pair (.slice (.pair (.int .i64) (.pair (.int .i64) .unit))) .unit)) (lf qs 1).isNil (lf qs 1).xs) (.imm .unit (lf qs 2)))], [.imm (.pair (.int .i64) (.pair (.slice (.pair .str (.pair (.slice (.pair (.int .i64) (.pair (.int .i64) .unit))) .unit))) .unit)) (lf ps 0)]⟩]⟩
noncomputable def f36_u : List Cu := [.loop 58 f36_k58 f36_o58 f36_s58]
noncomputable def f36_c : Cx := ⟨Try.prog, envOf [f55_e], 29, lOf f36_u⟩
noncomputable def f36_b : Code := match Try.f36.body with | some b => b | none => .skip
theorem f36_q58 : (Cu.loop 58 f36_k58 f36_o58 f36_s58).Ok f36_c f36_b := ⟨by kernel_rfl, fun ls Kr Kx => by kernel_rfl⟩
theorem f36_x (ps : List P) (ls : List Nat) : execFn f36_c 36 f36_e.tm (explF ps 1 0) ls = (f36_t ps).run fun q => altR (f36_e.res.map fun f => f ps ls) 0 q some := by kernel_rfl
theorem f36_ok : OkEnt Try.prog f36_e := ent_ok (c := f36_c) (g := 36) (body := f36_b) (us := f36_u) (n := 1) (t := f36_t) (good_envOf _ ⟨f55_ok, trivial⟩) Try.func36 rfl Try.call36 rfl ⟨f36_q58, trivial⟩ (by kernel_rfl) f36_x (fun _ => rfl)
/-! ### comprador/mani.Get -/
noncomputable def f14_k1 : Sk := { t := [(0, .imm (.pair .str (.pair (.slice (.pair (.int .i64) (.pair (.slice (.pair .str (.pair (.slice (.pair (.int .i64) (.pair (.int .i64) .unit))) .unit))) .unit))) .unit)) .unit), (1, .imm (.int .i64) .unit)], h := [] }
noncomputable def f14_o1 : List (Out × Sk) := [(.ret, { t := [(4, .ref 4030 [] (.pair (.int .i64) (.pair (.slice (.pair .str (.pair (.slice (.pair (.int .i64) (.pair (.int .i64) .unit))) .unit))) .unit))), (5, .imm .bool .unit)], h := [(4030, .obj (.pair (.int .i64) (.pair (.slice (.pair .str (.pair (.slice (.pair (.int .i64) (.pair (.int .i64) .unit))) .unit))) .unit)) (.pair (.imm (.int .i64) .unit) (.pair (.slf 4031 (.pair .str (.pair (.slice (.pair (.int .i64) (.pair (.int .i64) .unit))) .unit))) (.imm .unit .unit)))), (4031, .arr (.pair .str (.pair (.slice (.pair (.int .i64) (.pair (.int .i64) .unit))) .unit)) true [])] })]
noncomputable def f14_s1 (ls : List P) : Tree (Nat × List P) :=
 .ite (decide ((lf ls 1).toInt < (0 : Int))) (
  .ret (0, [.bool false, .int .i64 (0 : Int), .unit, .list true []])) (
  .ite (decide ((lf ls 1).toInt ≥ (1000000000 : Int))) (
   .ret (0, [.bool false, .int .i64 (0 : Int), .unit, .list true []])) (
   .loop (f35_v [lf ls 0, lf ls 1]) fun x1 =>
    .ite (Nat.beq x1.1 0) (
     .ite (!((lf x1.2 1).toBool)) (
      .ret (0, [.bool false, .int .i64 (0 : Int), .unit, .list true []])) (
      .ite (inb ((lf x1.2 0).toInt) (((((lf ls 0).snd).fst).xs).length)) (
       .loop (f36_v [rd ((((lf ls 0).snd).fst).xs) (((lf x1.2 0).toInt).toNat)]) fun x2 =>
        .ite (Nat.beq x2.1 0) (
         .ret (0, [.bool true, lf x2.2 0, lf x2.2 2, .list ((lf x2.2 1).isNil) ((lf x2.2 1).xs)])) (
         .fail)) (
       .fail))) (
     .fail)))
noncomputable def f14_t (ps : List P) : Tree (Nat × List P) :=
 .loop ((f14_s1 [lf ps 0, lf ps 1]).run some) fun y3 =>
  .ite (Nat.beq y3.1 0) (
   .ret (0, [lf y3.2 1, .list ((lf y3.2 3).isNil) ((lf y3.2 3).xs), lf y3.2 2, lf y3.2 0])) (
   .fail)
noncomputable def f14_v (ps : List P) : Option (Nat × List P) := (f14_t ps).run some
noncomputable def f14_e : EntD := ⟨14, [.imm (.pair .str (.pair (.slice (.pair (.int .i64) (.pair (.slice (.pair .str (.pair (.slice (.pair (.int .i64) (.pair (.int .i64) .unit))) .unit))) .unit))) .unit)), .imm (.int .i64)], f14_v, [fun ps ls qs => ⟨[.pair (.imm (.int .i64) (lf qs 0)) (.pair (.own (ls.getD 2030 0) (.pair .str (.pair (.slice (.pair (.int .i64) (.pair (.int .i64) .unit))) .unit)) (lf qs 1).isNil (lf qs 1).xs) (.imm .unit (lf qs 2))), .imm .bool (lf qs 3)], [.imm (.pair .str (.pair (.slice (.pair (.int .i64) (.pair (.slice (.pair .str (.pair (.slice (.pair (.int .i64) (.pair (.int .i64) .unit))) .unit))) .unit))) .unit)) (lf ps 0), .imm (.int .i64) (lf ps 1)]⟩]⟩
noncomputable def f14_u : List Cu := [.cut 1 f14_k1 f14_o1 f14_s1]
noncomputable def f14_c : Cx := ⟨Try.prog, envOf [f35_e, f36_e], 30, lOf f14_u⟩
noncomputable def f14_b : Code := match Try.f14.body with | some b => b | none => .skip
theorem f14_q1 : (Cu.cut 1 f14_k1 f14_o1 f14_s1).Ok f14_c f14_b := ⟨by kernel_rfl, fun ls Kx => by kernel_rfl⟩
theorem f14_x (ps : List P) (ls : List Nat) : execFn f14_c 14 f14_e.tm (explF ps 2 0) ls = (f14_t ps).run fun q => altR (f14_e.res.map fun f => f ps ls) 0 q some := by kernel_rfl
theorem f14_ok : OkEnt Try.prog f14_e := ent_ok (c := f14_c) (g := 14) (body := f14_b) (us := f14_u) (n := 2) (t := f14_t) (good_envOf _ ⟨f35_ok, f36_ok, trivial⟩) Try.func14 rfl Try.call14 rfl ⟨f14_q1, trivial⟩ (by kernel_rfl) f14_x (fun _ => rfl)
/-! ### comprador/compradorref09.Get -/
noncomputable def f19_k26 : Sk := { t := [(1, .imm (.int .i64) .unit), (2, .ref 4900 [] (.pair .str (.pair (.slice (.pair (.int .i64) (.pair (.slice (.pair .str (.pair (.slice (.pair (.int .i64) (.pair (.int .i64) .unit))) .unit))) .unit))) .unit))), (4, .ref 4901 [] (.pair (.int .i64) (.pair (.slice (.pair .str (.pair (.slice (.pair (.int .i64) (.pair (.int .i64) .unit))) .unit))) .unit))), (6, .imm (.int .i64) .unit)], h := [(4900, .obj (.pair .str (.pair (.slice (.pair (.int .i64) (.pair (.slice (.pair .str (.pair (.slice (.pair (.int .i64) (.pair (.int .i64) .unit))) .unit))) .unit))) .unit)) (.imm (.pair .str (.pair (.slice (.pair (.int .i64) (.pair (.slice (.pair .str (.pair (.slice (.pair (.int .i64) (.pair (.int .i64) .unit))) .unit))) .unit))) .unit)) .unit)), (4901, .obj (.pair (.int .i64) (.pair (.slice (.pair .str (.pair (.slice (.pair (.int .i64) (.pair (.int .i64) .unit))) .unit))) .unit)) (.imm (.pair (.int .i64) (.pair (.slice (.pair .str (.pair (.slice (.pair (.int .i64) (.pair (.int .i64) .unit))) .unit))) .unit)) .unit))] }
noncomputable def f19_o26 : List (Out × Sk) := [(.ret, { t := [(4, .ref 4930 [] (.pair (.int .i64) (.pair (.slice (.pair .str (.pair (.slice (.pair (.int .i64) (.pair (.int .i64) .unit))) .unit))) .unit))), (5, .imm .bool .unit)], h := [(4930, .obj (.pair (.int .i64) (.pair (.slice (.pair .str (.pair (.slice (.pair (.int .i64) (.pair (.int .i64) .unit))) .unit))) .unit)) (.imm (.pair (.int .i64) (.pair (.slice (.pair .str (.pair (.slice (.pair (.int .i64) (.pair (.int .i64) .unit))) .unit))) .unit)) .unit))] }), ((.exit 0), { t := [(4, .ref 4930 [] (.pair (.int .i64) (.pair (.slice (.pair .str (.pair (.slice (.pair (.int .i64) (.pair (.int .i64) .unit))) .unit))) .unit)))], h := [(4930, .obj (.pair (.int .i64) (.pair (.slice (.pair .str (.pair (.slice (.pair (.int .i64) (.pair (.int .i64) .unit))) .unit))) .unit)) (.imm (.pair (.int .i64) (.pair (.slice (.pair .str (.pair (.slice (.pair (.int .i64) (.pair (.int .i64) .unit))) .unit))) .unit)) .unit))] })]
noncomputable def f19_s26 (ls : List P) : Tree Step :=
 .ite (decide ((lf ls 1).toInt < (((((lf ls 2).snd).fst).xs).length : Int))) (
  .ite (inb ((lf ls 1).toInt) (((((lf ls 2).snd).fst).xs).length)) (
   .ite ((((rd ((((lf ls 2).snd).fst).xs) (((lf ls 1).toInt).toNat)).fst).toInt) == ((lf ls 0).toInt)) (
    .ite (inb ((lf ls 1).toInt) (((((lf ls 2).snd).fst).xs).length)) (
     .ret (.inr (0, [.bool true, rd ((((lf ls 2).snd).fst).xs) (((lf ls 1).toInt).toNat)]))) (
     .fail)) (
    .ret (.inl [lf ls 0, .int .i64 (IntKind.i64.wrap (((lf ls 1).toInt) + (1 : Int))), lf ls 2, lf ls 3]))) (
   .fail)) (
  .ret (.inr (1, [lf ls 3])))
noncomputable def f19_t (ps : List P) : Tree (Nat × List P) :=
 .loop (loopT f19_s26 FUEL [lf ps 1, .int .i64 (0 : Int), lf ps 0, .pair (.int .i64 (0 : Int)) (.pair (.list true []) .unit)]) fun y1 =>
  .ite (Nat.beq y1.1 0) (
   .ret (0, [lf y1.2 1, lf y1.2 0])) (
   .ite (Nat.beq y1.1 1) (
    .ret (0, [.pair (.int .i64 (0 : Int)) (.pair (.list true []) .unit), .bool false])) (
    .fail))
noncomputable def f19_v (ps : List P) : Option (Nat × List P) := (f19_t ps).run some
noncomputable def f19_e : EntD := ⟨19, [.imm (.pair .str (.pair (.slice (.pair (.int .i64) (.pair (.slice (.pair .str (.pair (.slice (.pair (.int .i64) (.pair (.int .i64) .unit))) .unit))) .unit))) .unit)), .imm (.int .i64)], f19_v, [fun ps ls qs => ⟨[.imm (.pair (.int .i64) (.pair (.slice (.pair .str (.pair (.slice (.pair (.int .i64) (.pair (.int .i64) .unit))) .unit))) .unit)) (lf qs 0), .imm .bool (lf qs 1)], [.imm (.pair .str (.pair (.slice (.pair (.int .i64) (.pair (.slice (.pair .str (.pair (.slice (.pair (.int .i64) (.pair (.int .i64) .unit))) .unit))) .unit))) .unit)) (lf ps 0), .imm (.int .i64) (lf ps 1)]⟩]⟩
noncomputable def f19_u : List Cu := [.loop 26 f19_k26 f19_o26 f19_s26]
noncomputable def f19_c : Cx := ⟨Try.prog, envOf [], 28, lOf f19_u⟩
noncomputable def f19_b : Code := match Try.f19.body with | some b => b | none => .skip
theorem f19_q26 : (Cu.loop 26 f19_k26 f19_o26 f19_s26).Ok f19_c f19_b := ⟨by kernel_rfl, fun ls Kr Kx => by kernel_rfl⟩
theorem f19_x (ps : List P) (ls : List Nat) : execFn f19_c 19 f19_e.tm (explF ps 2 0) ls = (f19_t ps).run fun q => altR (f19_e.res.map fun f => f ps ls) 0 q some := by kernel_rfl
theorem f19_ok : OkEnt Try.prog f19_e := ent_ok (c := f19_c) (g := 19) (body := f19_b) (us := f19_u) (n := 2) (t := f19_t) (good_envOf _ trivial) Try.func19 rfl Try.call19 rfl ⟨f19_q26, trivial⟩ (by kernel_rfl) f19_x (fun _ => rfl)
/-! ### comprador/compradorref06.Same -/
noncomputable def f21_k58 : Sk := { t := [(0, .imm (.slice (.pair (.int .i64) (.pair (.int .i64) .unit))) .unit), (1, .imm (.slice (.pair (.int .i64) (.pair (.int .i64) .unit))) .unit), (5, .imm (.int .i64) .unit)], h := [] }
noncomputable def f21_o58 : List (Out × Sk) := [(.ret, { t := [(4, .imm .bool .unit)], h := [] }), ((.exit 0), { t := [], h := [] })]
noncomputable def f21_s58 (ls : List P) : Tree Step :=
 .ite (decide ((lf ls 2).toInt < (((lf ls 0).xs).length : Int))) (
  .ite (inb ((lf ls 2).toInt) (((lf ls 0).xs).length)) (
   .ite (inb ((lf ls 2).toInt) (((lf ls 1).xs).length)) (
    .ite (!(eqP (.pair (.int .i64) (.pair (.int .i64) .unit)) (rd ((lf ls 0).xs) (((lf ls 2).toInt).toNat)) (rd ((lf ls 1).xs) (((lf ls 2).toInt).toNat)))) (
     .ret (.inr (0, [.bool false]))) (
     .ret (.inl [lf ls 0, lf ls 1, .int .i64 (IntKind.i64.wrap (((lf ls 2).toInt) + (1 : Int)))]))) (
    .fail)) (
   .fail)) (
  .ret (.inr (1, [])))
noncomputable def f21_t (ps : List P) : Tree (Nat × List P) :=
 .ite ((((lf ps 0).xs).length : Int) != (((lf ps 1).xs).length : Int)) (
  .ret (0, [.bool false])) (
  .loop (loopT f21_s58 FUEL [lf ps 0, lf ps 1, .int .i64 (0 : Int)]) fun y1 =>
   .ite (Nat.beq y1.1 0) (
    .ret (0, [lf y1.2 0])) (
    .ite (Nat.beq y1.1 1) (
     .ret (0, [.bool true])) (
     .fail)))
noncomputable def f21_v (ps : List P) : Option (Nat × List P) := (f21_t ps).run some
noncomputable def f21_e : EntD := ⟨21, [.imm (.slice (.pair (.int .i64) (.pair (.int .i64) .unit))), .imm (.slice (.pair (.int .i64) (.pair (.int .i64) .unit)))], f21_v, [fun ps ls qs => ⟨[.imm .bool (lf qs 0)], [.imm (.slice (.pair (.int .i64) (.pair (.int .i64) .unit))) (lf ps 0), .imm (.slice (.pair (.int .i64) (.pair (.int .i64) .unit))) (lf ps 1)]⟩]⟩
noncomputable def f21_u : List Cu := [.loop 58 f21_k58 f21_o58 f21_s58]
noncomputable def f21_c : Cx := ⟨Try.prog, envOf [], 26, lOf f21_u⟩
noncomputable def f21_b : Code := match Try.f21.body with | some b => b | none => .skip
theorem f21_q58 : (Cu.loop 58 f21_k58 f21_o58 f21_s58).Ok f21_c f21_b := ⟨by kernel_rfl, fun ls Kr Kx => by kernel_rfl⟩
theorem f21_x (ps : List P) (ls : List Nat) : execFn f21_c 21 f21_e.tm (explF ps 2 0) ls = (f21_t ps).run fun q => altR (f21_e.res.map fun f => f ps ls) 0 q some := by kernel_rfl
theorem f21_ok : OkEnt Try.prog f21_e := ent_ok (c := f21_c) (g := 21) (body := f21_b) (us := f21_u) (n := 2) (t := f21_t) (good_envOf _ trivial) Try.func21 rfl Try.call21 rfl ⟨f21_q58, trivial⟩ (by kernel_rfl) f21_x (fun _ => rfl)
/-! ### comprador/compradorref08.Same -/
noncomputable def f20_k58 : Sk := { t := [(0, .imm (.slice (.pair .str (.pair (.slice (.pair (.int .i64) (.pair (.int .i64) .unit))) .unit))) .unit), (1, .imm (.slice (.pair .str (.pair (.slice (.pair (.int .i64) (.pair (.int .i64) .unit))) .unit))) .unit), (5, .imm (.int .i64) .unit)], h := [] }
noncomputable def f20_o58 : List (Out × Sk) := [(.ret, { t := [(4, .imm .bool .unit)], h := [] }), ((.exit 0), { t := [], h := [] })]
noncomputable def f20_s58 (ls : List P) : Tree Step :=
 .ite (decide ((lf ls 2).toInt < (((lf ls 0).xs).length : Int))) (
  .ite (inb ((lf ls 2).toInt) (((lf ls 0).xs).length)) (
   .ite (inb ((lf ls 2).toInt) (((lf ls 1).xs).length)) (
    .ite (!(strEq (((rd ((lf ls 0).xs) (((lf ls 2).toInt).toNat)).fst).toStr) (((rd ((lf ls 1).xs) (((lf ls 2).toInt).toNat)).fst).toStr))) (
     .ret (.inr (0, [.bool false]))) (
     .ite (inb ((lf ls 2).toInt) (((lf ls 0).xs).length)) (
      .ite (inb ((lf ls 2).toInt) (((lf ls 1).xs).length)) (
       .loop (f21_v [((rd ((lf ls 0).xs) (((lf ls 2).toInt).toNat)).snd).fst, ((rd ((lf ls 1).xs) (((lf ls 2).toInt).toNat)).snd).fst]) fun x1 =>
        .ite (Nat.beq x1.1 0) (
         .ite (!((lf x1.2 0).toBool)) (
          .ret (.inr (0, [.bool false]))) (
          .ret (.inl [lf ls 0, lf ls 1, .int .i64 (IntKind.i64.wrap (((lf ls 2).toInt) + (1 : Int)))]))) (
         .fail)) (
       .fail)) (
      .fail))) (
    .fail)) (
   .fail)) (
  .ret (.inr (1, [])))
noncomputable def f20_t (ps : List P) : Tree (Nat × List P) :=
 .ite ((((lf ps 0).xs).length : Int) != (((lf ps 1).xs).length : Int)) (
  .ret (0, [.bool false])) (
  .loop (loopT f20_s58 FUEL [lf ps 0, lf ps 1, .int .i64 (0 : Int)]) fun y2 =>
   .ite (Nat.beq y2.1 0) (
    .ret (0, [lf y2.2 0])) (
    .ite (Nat.beq y2.1 1) (
     .ret (0, [.bool true])) (
     .fail)))
noncomputable def f20_v (ps : List P) : Option (Nat × List P) := (f20_t ps).run some
noncomputable def f20_e : EntD := ⟨20, [.imm (.slice (.pair .str (.pair (.slice (.pair (.int .i64) (.pair (.int .i64) .unit))) .unit))), .imm (.slice (.pair .str (.pair (.slice (.pair (.int .i64) (.pair (.int .i64) .unit))) .unit)))], f20_v, [fun ps ls qs => ⟨[.imm .bool (lf qs 0)], [.imm (.slice (.pair .str (.pair (.slice (.pair (.int .i64) (.pair (.int .i64) .unit))) .unit))) (lf ps 0), .imm (.slice (.pair .str (.pair (.slice (.pair (.int .i64) (.pair (.int .i64) .unit))) .unit))) (lf ps 1)]⟩]⟩
noncomputable def f20_u : List Cu := [.loop 58 f20_k58 f20_o58 f20_s58]
noncomputable def f20_c : Cx := ⟨Try.prog, envOf [f21_e], 42, lOf f20_u⟩
noncomputable def f20_b : Code := match Try.f20.body with | some b => b | none => .skip
theorem f20_q58 : (Cu.loop 58 f20_k58 f20_o58 f20_s58).Ok f20_c f20_b := ⟨by kernel_rfl, fun ls Kr Kx => by kernel_rfl⟩
theorem f20_x (ps : List P) (ls : List Nat) : execFn f20_c 20 f20_e.tm (explF ps 2 0) ls = (f20_t ps).run fun q => altR (f20_e.res.map fun f => f ps ls) 0 q some := by kernel_rfl
theorem f20_ok : OkEnt Try.prog f20_e := ent_ok (c := f20_c) (g := 20) (body := f20_b) (us := f20_u) (n := 2) (t := f20_t) (good_envOf _ ⟨f21_ok, trivial⟩) Try.func20 rfl Try.call20 rfl ⟨f20_q58, trivial⟩ (by kernel_rfl) f20_x (fun _ => rfl)
/-! ### comprador/span.add -/
noncomputable def f48_k1 : Sk := { t := [(0, .slf 2001 (.pair (.int .i64) (.pair (.int .i64) .unit))), (1, .imm (.pair (.int .i64) (.pair (.int .i64) .unit)) .unit)], h := [(2001, .arr (.pair (.int .i64) (.pair (.int .i64) .unit)) true [])] }
noncomputable def f48_o1 : List (Out × Sk) := [(.ret, { t := [(4, .slf 4030 (.pair (.int .i64) (.pair (.int .i64) .unit)))], h := [(4030, .arr (.pair (.int .i64) (.pair (.int .i64) .unit)) true [])] })]
noncomputable def f48_s1 (ls : List P) : Tree (Nat × List P) :=
 .ite (decide (IntKind.i64.wrap ((((lf ls 1).xs).length : Int) - (1 : Int)) ≥ (0 : Int))) (
  .ite (inb (IntKind.i64.wrap ((((lf ls 1).xs).length : Int) - (1 : Int))) (((lf ls 1).xs).length)) (
   .ite (decide (((lf ls 0).fst).toInt ≤ (((rd ((lf ls 1).xs) ((IntKind.i64.wrap ((((lf ls 1).xs).length : Int) - (1 : Int))).toNat)).snd).fst).toInt)) (
    .ite (inb (IntKind.i64.wrap ((((lf ls 1).xs).length : Int) - (1 : Int))) (((lf ls 1).xs).length)) (
     .ite (inb (IntKind.i64.wrap ((((lf ls 1).xs).length : Int) - (1 : Int))) (((lf ls 1).xs).length)) (
      .ret (0, [.list ((lf ls 1).isNil) (((lf ls 1).xs).set ((IntKind.i64.wrap ((((lf ls 1).xs).length : Int) - (1 : Int))).toNat) (.pair ((rd ((lf ls 1).xs) ((IntKind.i64.wrap ((((lf ls 1).xs).length : Int) - (1 : Int))).toNat)).fst) (.pair (.int .i64 (mmx true ((((rd ((lf ls 1).xs) ((IntKind.i64.wrap ((((lf ls 1).xs).length : Int) - (1 : Int))).toNat)).snd).fst).toInt) ((((lf ls 0).snd).fst).toInt))) (((rd ((lf ls 1).xs) ((IntKind.i64.wrap ((((lf ls 1).xs).length : Int) - (1 : Int))).toNat)).snd).snd))))])) (
      .fail)) (
     .fail)) (
    .ite (decide ((((lf ls 1).xs).length + 1) * 16 ≤ 140737488355328)) (
     .ret (0, [.list (((lf ls 1).isNil) && false) (((lf ls 1).xs) ++ [lf ls 0])])) (
     .fail))) (
   .fail)) (
  .ite (decide ((((lf ls 1).xs).length + 1) * 16 ≤ 140737488355328)) (
   .ret (0, [.list (((lf ls 1).isNil) && false) (((lf ls 1).xs) ++ [lf ls 0])])) (
   .fail))
noncomputable def f48_t (ps : List P) : Tree (Nat × List P) :=
 .loop ((f48_s1 [lf ps 1, .list ((lf ps 0).isNil) ((lf ps 0).xs)]).run some) fun y1 =>
  .ite (Nat.beq y1.1 0) (
   .ret (0, [.list ((lf y1.2 0).isNil) ((lf y1.2 0).xs)])) (
   .fail)
noncomputable def f48_v (ps : List P) : Option (Nat × List P) := (f48_t ps).run some
noncomputable def f48_e : EntD := ⟨48, [.own (.pair (.int .i64) (.pair (.int .i64) .unit)), .imm (.pair (.int .i64) (.pair (.int .i64) .unit))], f48_v, [fun ps ls qs => ⟨[.own (ls.getD 2029 0) (.pair (.int .i64) (.pair (.int .i64) .unit)) (lf qs 0).isNil (lf qs 0).xs], [.u, .imm (.pair (.int .i64) (.pair (.int .i64) .unit)) (lf ps 1)]⟩]⟩
noncomputable def f48_u : List Cu := [.cut 1 f48_k1 f48_o1 f48_s1]
noncomputable def f48_c : Cx := ⟨Try.prog, envOf [], 38, lOf f48_u⟩
noncomputable def f48_b : Code := match Try.f48.body with | some b => b | none => .skip
theorem f48_q1 : (Cu.cut 1 f48_k1 f48_o1 f48_s1).Ok f48_c f48_b := ⟨by kernel_rfl, fun ls Kx => by kernel_rfl⟩
theorem f48_x (ps : List P) (ls : List Nat) : execFn f48_c 48 f48_e.tm (explF ps 2 0) ls = (f48_t ps).run fun q => altR (f48_e.res.map fun f => f ps ls) 0 q some := by kernel_rfl
theorem f48_ok : OkEnt Try.prog f48_e := ent_ok (c := f48_c) (g := 48) (body := f48_b) (us := f48_u) (n := 2) (t := f48_t) (good_envOf _ trivial) Try.func48 rfl Try.call48 rfl ⟨f48_q1, trivial⟩ (by kernel_rfl) f48_x (fun _ => rfl)
/-! ### comprador/span.Of -/
noncomputable def f33_k506 : Sk := { t := [(6, .slf 6500 (.pair (.int .i64) (.pair (.int .i64) .unit))), (34, .slf 6501 (.pair (.int .i64) (.pair (.int .i64) .unit))), (35, .imm (.int .i64) .unit), (36, .imm (.int .i64) .unit)], h := [(6500, .arr (.pair (.int .i64) (.pair (.int .i64) .unit)) true []), (6501, .arr (.pair (.int .i64) (.pair (.int .i64) .unit)) true [])] }
noncomputable def f33_o506 : List (Out × Sk) := [((.exit 2), { t := [(6, .slf 6530 (.pair (.int .i64) (.pair (.int .i64) .unit)))], h := [(6530, .arr (.pair (.int .i64) (.pair (.int .i64) .unit)) true [])] })]
noncomputable def f33_s506 (ls : List P) : Tree Step :=
 .ite (decide ((lf ls 1).toInt < (lf ls 0).toInt)) (
  .ite (inb ((lf ls 1).toInt) (((lf ls 3).xs).length)) (
   .loop (f48_v [.list ((lf ls 2).isNil) ((lf ls 2).xs), rd ((lf ls 3).xs) (((lf ls 1).toInt).toNat)]) fun x3 =>
    .ite (Nat.beq x3.1 0) (
     .ret (.inl [lf ls 0, .int .i64 (IntKind.i64.wrap (((lf ls 1).toInt) + (1 : Int))), .list ((lf x3.2 0).isNil) ((lf x3.2 0).xs), .list ((lf ls 3).isNil) ((lf ls 3).xs)])) (
     .fail)) (
   .fail)) (
  .ret (.inr (0, [.list ((lf ls 2).isNil) ((lf ls 2).xs)])))
noncomputable def f33_k58 : Sk := { t := [(3, .slf 5100 (.pair (.int .i64) (.pair (.int .i64) .unit))), (9, .imm (.slice (.pair (.int .i64) (.pair (.int .i64) .unit))) .unit), (10, .imm (.int .i64) .unit), (11, .imm (.int .i64) .unit)], h := [(5100, .arr (.pair (.int .i64) (.pair (.int .i64) .unit)) true [])] }
noncomputable def f33_o58 : List (Out × Sk) := [((.exit 0), { t := [(3, .slf 5130 (.pair (.int .i64) (.pair (.int .i64) .unit)))], h := [(5130, .arr (.pair (.int .i64) (.pair (.int .i64) .unit)) true [])] })]
noncomputable def f33_s58 (ls : List P) : Tree Step :=
 .ite (decide ((lf ls 2).toInt < (lf ls 1).toInt)) (
  .ite (inb ((lf ls 2).toInt) (((lf ls 0).xs).length)) (
   .ite (decide (mmx true (((rd ((lf ls 0).xs) (((lf ls 2).toInt).toNat)).fst).toInt) (0 : Int) < mmx false ((((rd ((lf ls 0).xs) (((lf ls 2).toInt).toNat)).snd).fst).toInt) (1000000000 : Int))) (
    .ite (decide ((((lf ls 3).xs).length + 1) * 16 ≤ 140737488355328)) (
     .ret (.inl [lf ls 0, lf ls 1, .int .i64 (IntKind.i64.wrap (((lf ls 2).toInt) + (1 : Int))), .list (((lf ls 3).isNil) && false) (((lf ls 3).xs) ++ [.pair (.int .i64 (mmx true (((rd ((lf ls 0).xs) (((lf ls 2).toInt).toNat)).fst).toInt) (0 : Int))) (.pair (.int .i64 (mmx false ((((rd ((lf ls 0).xs) (((lf ls 2).toInt).toNat)).snd).fst).toInt) (1000000000 : Int))) .unit)])])) (
     .fail)) (
    .ret (.inl [lf ls 0, lf ls 1, .int .i64 (IntKind.i64.wrap (((lf ls 2).toInt) + (1 : Int))), .list ((lf ls 3).isNil) ((lf ls 3).xs)]))) (
   .fail)) (
  .ret (.inr (0, [.list ((lf ls 3).isNil) ((lf ls 3).xs)])))
noncomputable def f33_t (ps : List P) : Tree (Nat × List P) :=
 .loop (loopT f33_s58 FUEL [lf ps 0, .int .i64 (((lf ps 0).xs).length : Int), .int .i64 (0 : Int), .list true []]) fun y1 =>
  .ite (Nat.beq y1.1 0) (
   .loop (sort49_50_v [.list ((lf y1.2 0).isNil) ((lf y1.2 0).xs), .unit]) fun x2 =>
    .ite (Nat.beq x2.1 0) (
     .loop (loopT f33_s506 FUEL [.int .i64 (((lf x2.2 0).xs).length : Int), .int .i64 (0 : Int), .list true [], .list ((lf x2.2 0).isNil) ((lf x2.2 0).xs)]) fun y4 =>
      .ite (Nat.beq y4.1 0) (
       .ret (0, [.list ((lf y4.2 0).isNil) ((lf y4.2 0).xs)])) (
       .fail)) (
     .fail)) (
   .fail)
noncomputable def f33_v (ps : List P) : Option (Nat × List P) := (f33_t ps).run some
noncomputable def f33_e : EntD := ⟨33, [.imm (.slice (.pair (.int .i64) (.pair (.int .i64) .unit)))], f33_v, [fun ps ls qs => ⟨[.own (ls.getD 4529 0) (.pair (.int .i64) (.pair (.int .i64) .unit)) (lf qs 0).isNil (lf qs 0).xs], [.imm (.slice (.pair (.int .i64) (.pair (.int .i64) .unit))) (lf ps 0)]⟩]⟩
noncomputable def f33_u : List Cu := [.loop 506 f33_k506 f33_o506 f33_s506, .loop 58 f33_k58 f33_o58 f33_s58]
noncomputable def f33_c : Cx := ⟨Try.prog, envOf [f48_e, sort49_50_e], 45, lOf f33_u⟩
noncomputable def f33_b : Code := match Try.f33.body with | some b => b | none => .skip
theorem f33_q506 : (Cu.loop 506 f33_k506 f33_o506 f33_s506).Ok f33_c f33_b := ⟨by kernel_rfl, fun ls Kr Kx => by kernel_rfl⟩
theorem f33_q58 : (Cu.loop 58 f33_k58 f33_o58 f33_s58).Ok f33_c f33_b := ⟨by kernel_rfl, fun ls Kr Kx => by kernel_rfl⟩
theorem f33_x (ps : List P) (ls : List Nat) : execFn f33_c 33 f33_e.tm (explF ps 1 0) ls = (f33_t ps).run fun q => altR (f33_e.res.map fun f => f ps ls) 0 q some := by kernel_rfl
theorem f33_ok : OkEnt Try.prog f33_e := ent_ok (c := f33_c) (g := 33) (body := f33_b) (us := f33_u) (n := 1) (t := f33_t) (good_envOf _ ⟨f48_ok, sort49_50_ok, trivial⟩) Try.func33 rfl Try.call33 rfl ⟨f33_q506, f33_q58, trivial⟩ (by kernel_rfl) f33_x (fun _ => rfl)
/-! ### comprador/mani.Vers -/
noncomputable def f10_k58 : Sk := { t := [(3, .slf 5100 (.pair (.int .i64) (.pair (.int .i64) .unit))), (7, .imm (.slice (.pair (.int .i64) (.pair (.slice (.pair .str (.pair (.slice (.pair (.int .i64) (.pair (.int .i64) .unit))) .unit))) .unit))) .unit), (8, .imm (.int .i64) .unit), (9, .imm (.int .i64) .unit)], h := [(5100, .arr (.pair (.int .i64) (.pair (.int .i64) .unit)) true [])] }
noncomputable def f10_o58 : List (Out × Sk) := [((.exit 0), { t := [(3, .slf 5130 (.pair (.int .i64) (.pair (.int .i64) .unit)))], h := [(5130, .arr (.pair (.int .i64) (.pair (.int .i64) .unit)) true [])] })]
noncomputable def f10_s58 (ls : List P) : Tree Step :=
 .ite (decide ((lf ls 2).toInt < (lf ls 1).toInt)) (
  .ite (inb ((lf ls 2).toInt) (((lf ls 0).xs).length)) (
   .ite (decide ((((lf ls 3).xs).length + 1) * 16 ≤ 140737488355328)) (
    .ret (.inl [lf ls 0, lf ls 1, .int .i64 (IntKind.i64.wrap (((lf ls 2).toInt) + (1 : Int))), .list (((lf ls 3).isNil) && false) (((lf ls 3).xs) ++ [.pair ((rd ((lf ls 0).xs) (((lf ls 2).toInt).toNat)).fst) (.pair (.int .i64 (IntKind.i64.wrap ((((rd ((lf ls 0).xs) (((lf ls 2).toInt).toNat)).fst).toInt) + (1 : Int)))) .unit)])])) (
    .fail)) (
   .fail)) (
  .ret (.inr (0, [.list ((lf ls 3).isNil) ((lf ls 3).xs)])))
noncomputable def f10_t (ps : List P) : Tree (Nat × List P) :=
 .loop (loopT f10_s58 FUEL [((lf ps 0).snd).fst, .int .i64 (((((lf ps 0).snd).fst).xs).length : Int), .int .i64 (0 : Int), .list true []]) fun y1 =>
  .ite (Nat.beq y1.1 0) (
   .loop (f33_v [.list ((lf y1.2 0).isNil) ((lf y1.2 0).xs)]) fun x2 =>
    .ite (Nat.beq x2.1 0) (
     .ret (0, [.list ((lf x2.2 0).isNil) ((lf x2.2 0).xs)])) (
     .fail)) (
   .fail)
noncomputable def f10_v (ps : List P) : Option (Nat × List P) := (f10_t ps).run some
noncomputable def f10_e : EntD := ⟨10, [.imm (.pair .str (.pair (.slice (.pair (.int .i64) (.pair (.slice (.pair .str (.pair (.slice (.pair (.int .i64) (.pair (.int .i64) .unit))) .unit))) .unit))) .unit))], f10_v, [fun ps ls qs => ⟨[.own (ls.getD 100399 0) (.pair (.int .i64) (.pair (.int .i64) .unit)) (lf qs 0).isNil (lf qs 0).xs], [.imm (.pair .str (.pair (.slice (.pair (.int .i64) (.pair (.slice (.pair .str (.pair (.slice (.pair (.int .i64) (.pair (.int .i64) .unit))) .unit))) .unit))) .unit)) (lf ps 0)]⟩]⟩
noncomputable def f10_u : List Cu := [.loop 58 f10_k58 f10_o58 f10_s58]
noncomputable def f10_c : Cx := ⟨Try.prog, envOf [f33_e], 25, lOf f10_u⟩
noncomputable def f10_b : Code := match Try.f10.body with | some b => b | none => .skip
theorem f10_q58 : (Cu.loop 58 f10_k58 f10_o58 f10_s58).Ok f10_c f10_b := ⟨by kernel_rfl, fun ls Kr Kx => by kernel_rfl⟩
theorem f10_x (ps : List P) (ls : List Nat) : execFn f10_c 10 f10_e.tm (explF ps 1 0) ls = (f10_t ps).run fun q => altR (f10_e.res.map fun f => f ps ls) 0 q some := by kernel_rfl
theorem f10_ok : OkEnt Try.prog f10_e := ent_ok (c := f10_c) (g := 10) (body := f10_b) (us := f10_u) (n := 1) (t := f10_t) (good_envOf _ ⟨f33_ok, trivial⟩) Try.func10 rfl Try.call10 rfl ⟨f10_q58, trivial⟩ (by kernel_rfl) f10_x (fun _ => rfl)
end Go.Proofs.Ytihenfpnilliiaa
