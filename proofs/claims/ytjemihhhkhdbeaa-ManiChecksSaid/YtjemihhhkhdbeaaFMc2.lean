/- Functions: what each tells. Conditions: none. -/
import Derived.Test.YtjemihhhkhdbeaaFMc1
open Go Go.Eng Go.Proofs
set_option pp.deepTerms true
set_option linter.unusedVariables false
namespace Go.Proofs.Ytjemihhhkhdbeaa
/-! ### comprador/compradorref03.Runes -/
noncomputable def f174_k60 : Sk := { t := [(0, .imm .str .unit), (3, .slf 4900 (.int .i64)), (4, .imm (.int .i64) .unit)], h := [(4900, .arr (.int .i64) true [])] }
noncomputable def f174_o60 : List (Out × Sk) := [((.exit 0), { t := [(3, .slf 4930 (.int .i64))], h := [(4930, .arr (.int .i64) true [])] })]
noncomputable def f174_s60 (ls : List P) : Tree Step :=
 .ite (decide ((lf ls 1).toInt < (((lf ls 0).toStr).size : Int))) (
  .loop (f194_v [lf ls 0, lf ls 1]) fun x1 =>
   .ite (Nat.beq x1.1 0) (
    .ite (decide ((((lf ls 2).xs).length + 1) * 8 ≤ 140737488355328)) (
     .ret (.inl [lf ls 0, .int .i64 (IntKind.i64.wrap (((lf ls 1).toInt) + ((lf x1.2 1).toInt))), .list (((lf ls 2).isNil) && false) (((lf ls 2).xs) ++ [lf x1.2 0])])) (
     .fail)) (
    .fail)) (
  .ret (.inr (0, [.list ((lf ls 2).isNil) ((lf ls 2).xs)])))
noncomputable def f174_t (ps : List P) : Tree (Nat × List P) :=
 .loop (loopT f174_s60 FUEL [lf ps 0, .int .i64 (0 : Int), .list true []]) fun y2 =>
  .ite (Nat.beq y2.1 0) (
   .ret (0, [.list ((lf y2.2 0).isNil) ((lf y2.2 0).xs)])) (
   .fail)
noncomputable def f174_v (ps : List P) : Option (Nat × List P) := (f174_t ps).run some
noncomputable def f174_e : EntD := ⟨174, [.imm .str], f174_v, [fun ps ls qs => ⟨[.own (ls.getD 2929 0) (.int .i64) (lf qs 0).isNil (lf qs 0).xs], [.imm .str (lf ps 0)]⟩]⟩
noncomputable def f174_u : List Cu := [.loop 60 f174_k60 f174_o60 f174_s60]
noncomputable def f174_c : Cx := ⟨Try.prog, envOf [f194_e], 25, lOf f174_u⟩
noncomputable def f174_b : Code := match Try.f174.body with | some b => b | none => .skip
theorem f174_q60 : (Cu.loop 60 f174_k60 f174_o60 f174_s60).Ok f174_c f174_b := ⟨by kernel_rfl, fun ls Kr Kx => by kernel_rfl⟩
theorem f174_x (ps : List P) (ls : List Nat) : execFn f174_c 174 f174_e.tm (explF ps 1 0) ls = (f174_t ps).run fun q => altR (f174_e.res.map fun f => f ps ls) 0 q some := by kernel_rfl
theorem f174_ok : OkEnt Try.prog f174_e := ent_ok (c := f174_c) (g := 174) (body := f174_b) (us := f174_u) (n := 1) (t := f174_t) (good_envOf _ ⟨f194_ok, trivial⟩) Try.func174 rfl Try.call174 rfl ⟨f174_q60, trivial⟩ (by kernel_rfl) f174_x (fun _ => rfl)
/-! ### comprador/compradorref03.Kind -/
noncomputable def f175_t (ps : List P) : Tree (Nat × List P) :=
 .ite (decide ((lf ps 0).toInt ≥ (97 : Int))) (
  .ite (decide ((lf ps 0).toInt ≤ (122 : Int))) (
   .ret (0, [.int .i64 (0 : Int)])) (
   .ite (decide ((lf ps 0).toInt ≥ (945 : Int))) (
    .ite (decide ((lf ps 0).toInt ≤ (969 : Int))) (
     .ret (0, [.int .i64 (1 : Int)])) (
     .ite (decide ((lf ps 0).toInt ≥ (48 : Int))) (
      .ite (decide ((lf ps 0).toInt ≤ (57 : Int))) (
       .ret (0, [.int .i64 (2 : Int)])) (
       .ite (((lf ps 0).toInt) == (45 : Int)) (
        .ret (0, [.int .i64 (3 : Int)])) (
        .ret (0, [.int .i64 (4 : Int)])))) (
      .ite (((lf ps 0).toInt) == (45 : Int)) (
       .ret (0, [.int .i64 (3 : Int)])) (
       .ret (0, [.int .i64 (4 : Int)]))))) (
    .ite (decide ((lf ps 0).toInt ≥ (48 : Int))) (
     .ite (decide ((lf ps 0).toInt ≤ (57 : Int))) (
      .ret (0, [.int .i64 (2 : Int)])) (
      .ite (((lf ps 0).toInt) == (45 : Int)) (
       .ret (0, [.int .i64 (3 : Int)])) (
       .ret (0, [.int .i64 (4 : Int)])))) (
     .ite (((lf ps 0).toInt) == (45 : Int)) (
      .ret (0, [.int .i64 (3 : Int)])) (
      .ret (0, [.int .i64 (4 : Int)])))))) (
  .ite (decide ((lf ps 0).toInt ≥ (945 : Int))) (
   .ite (decide ((lf ps 0).toInt ≤ (969 : Int))) (
    .ret (0, [.int .i64 (1 : Int)])) (
    .ite (decide ((lf ps 0).toInt ≥ (48 : Int))) (
     .ite (decide ((lf ps 0).toInt ≤ (57 : Int))) (
      .ret (0, [.int .i64 (2 : Int)])) (
      .ite (((lf ps 0).toInt) == (45 : Int)) (
       .ret (0, [.int .i64 (3 : Int)])) (
       .ret (0, [.int .i64 (4 : Int)])))) (
     .ite (((lf ps 0).toInt) == (45 : Int)) (
      .ret (0, [.int .i64 (3 : Int)])) (
      .ret (0, [.int .i64 (4 : Int)]))))) (
   .ite (decide ((lf ps 0).toInt ≥ (48 : Int))) (
    .ite (decide ((lf ps 0).toInt ≤ (57 : Int))) (
     .ret (0, [.int .i64 (2 : Int)])) (
     .ite (((lf ps 0).toInt) == (45 : Int)) (
      .ret (0, [.int .i64 (3 : Int)])) (
      .ret (0, [.int .i64 (4 : Int)])))) (
    .ite (((lf ps 0).toInt) == (45 : Int)) (
     .ret (0, [.int .i64 (3 : Int)])) (
     .ret (0, [.int .i64 (4 : Int)])))))
noncomputable def f175_v (ps : List P) : Option (Nat × List P) := (f175_t ps).run some
noncomputable def f175_e : EntD := ⟨175, [.imm (.int .i64)], f175_v, [fun ps ls qs => ⟨[.imm (.int .i64) (lf qs 0)], [.imm (.int .i64) (lf ps 0)]⟩]⟩
noncomputable def f175_u : List Cu := []
noncomputable def f175_c : Cx := ⟨Try.prog, envOf [], 23, lOf f175_u⟩
noncomputable def f175_b : Code := match Try.f175.body with | some b => b | none => .skip
theorem f175_x (ps : List P) (ls : List Nat) : execFn f175_c 175 f175_e.tm (explF ps 1 0) ls = (f175_t ps).run fun q => altR (f175_e.res.map fun f => f ps ls) 0 q some := by kernel_rfl
theorem f175_ok : OkEnt Try.prog f175_e := ent_ok (c := f175_c) (g := 175) (body := f175_b) (us := f175_u) (n := 1) (t := f175_t) (good_envOf _ trivial) Try.func175 rfl Try.call175 rfl trivial (by kernel_rfl) f175_x (fun _ => rfl)
/-! ### comprador/compradorref03.Fit -/
noncomputable def f130_k122 : Sk := { t := [(3, .slf 5900 (.int .i64)), (4, .imm (.int .i64) .unit)], h := [(5900, .arr (.int .i64) true [])] }
noncomputable def f130_o122 : List (Out × Sk) := [(.ret, { t := [(2, .imm .bool .unit)], h := [] }), ((.exit 0), { t := [(3, .slf 5930 (.int .i64))], h := [(5930, .arr (.int .i64) true [])] })]
noncomputable def f130_s122 (ls : List P) : Tree Step :=
 .ite (decide ((lf ls 0).toInt < (((lf ls 1).xs).length : Int))) (
  .ite (inb ((lf ls 0).toInt) (((lf ls 1).xs).length)) (
   .loop (f175_v [rd ((lf ls 1).xs) (((lf ls 0).toInt).toNat)]) fun x2 =>
    .ite (Nat.beq x2.1 0) (
     .ite (((lf x2.2 0).toInt) == (4 : Int)) (
      .ret (.inr (0, [.bool false]))) (
      .ite (((lf ls 0).toInt) == (0 : Int)) (
       .ite (inb ((lf ls 0).toInt) (((lf ls 1).xs).length)) (
        .loop (f175_v [rd ((lf ls 1).xs) (((lf ls 0).toInt).toNat)]) fun x3 =>
         .ite (Nat.beq x3.1 0) (
          .ite (decide ((lf x3.2 0).toInt > (1 : Int))) (
           .ret (.inr (0, [.bool false]))) (
           .ret (.inl [.int .i64 (IntKind.i64.wrap (((lf ls 0).toInt) + (1 : Int))), .list ((lf ls 1).isNil) ((lf ls 1).xs)]))) (
          .fail)) (
        .fail)) (
       .ret (.inl [.int .i64 (IntKind.i64.wrap (((lf ls 0).toInt) + (1 : Int))), .list ((lf ls 1).isNil) ((lf ls 1).xs)])))) (
     .fail)) (
   .fail)) (
  .ret (.inr (1, [.list ((lf ls 1).isNil) ((lf ls 1).xs)])))
noncomputable def f130_t (ps : List P) : Tree (Nat × List P) :=
 .ite (decide ((((lf ps 0).toStr).size : Int) > (100 : Int))) (
  .ret (0, [.bool false])) (
  .loop (f174_v [lf ps 0]) fun x1 =>
   .ite (Nat.beq x1.1 0) (
    .loop (loopT f130_s122 FUEL [.int .i64 (0 : Int), .list ((lf x1.2 0).isNil) ((lf x1.2 0).xs)]) fun y4 =>
     .ite (Nat.beq y4.1 0) (
      .ret (0, [lf y4.2 0])) (
      .ite (Nat.beq y4.1 1) (
       .ite (decide ((((lf y4.2 0).xs).length : Int) ≥ (1 : Int))) (
        .ret (0, [.bool (decide ((((lf y4.2 0).xs).length : Int) ≤ (12 : Int)))])) (
        .ret (0, [.bool false]))) (
       .fail))) (
    .fail))
noncomputable def f130_v (ps : List P) : Option (Nat × List P) := (f130_t ps).run some
noncomputable def f130_e : EntD := ⟨130, [.imm .str], f130_v, [fun ps ls qs => ⟨[.imm .bool (lf qs 0)], [.imm .str (lf ps 0)]⟩]⟩
noncomputable def f130_u : List Cu := [.loop 122 f130_k122 f130_o122 f130_s122]
noncomputable def f130_c : Cx := ⟨Try.prog, envOf [f174_e, f175_e], 42, lOf f130_u⟩
noncomputable def f130_b : Code := match Try.f130.body with | some b => b | none => .skip
theorem f130_q122 : (Cu.loop 122 f130_k122 f130_o122 f130_s122).Ok f130_c f130_b := ⟨by kernel_rfl, fun ls Kr Kx => by kernel_rfl⟩
theorem f130_x (ps : List P) (ls : List Nat) : execFn f130_c 130 f130_e.tm (explF ps 1 0) ls = (f130_t ps).run fun q => altR (f130_e.res.map fun f => f ps ls) 0 q some := by kernel_rfl
theorem f130_ok : OkEnt Try.prog f130_e := ent_ok (c := f130_c) (g := 130) (body := f130_b) (us := f130_u) (n := 1) (t := f130_t) (good_envOf _ ⟨f174_ok, f175_ok, trivial⟩) Try.func130 rfl Try.call130 rfl ⟨f130_q122, trivial⟩ (by kernel_rfl) f130_x (fun _ => rfl)
/-! ### comprador/compradorref06.Check -/
noncomputable def f81_k26 : Sk := { t := [(0, .imm (.slice (.pair (.int .i64) (.pair (.int .i64) .unit))) .unit), (3, .imm (.int .i64) .unit)], h := [] }
noncomputable def f81_o26 : List (Out × Sk) := [(.ret, { t := [(2, .imm .bool .unit)], h := [] }), ((.exit 0), { t := [], h := [] })]
noncomputable def f81_s26 (ls : List P) : Tree Step :=
 .ite (decide ((lf ls 1).toInt < (((lf ls 0).xs).length : Int))) (
  .ite (inb ((lf ls 1).toInt) (((lf ls 0).xs).length)) (
   .ite (decide (((rd ((lf ls 0).xs) (((lf ls 1).toInt).toNat)).fst).toInt < (0 : Int))) (
    .ret (.inr (0, [.bool false]))) (
    .ite (inb ((lf ls 1).toInt) (((lf ls 0).xs).length)) (
     .ite (decide ((((rd ((lf ls 0).xs) (((lf ls 1).toInt).toNat)).snd).fst).toInt > (1000000000 : Int))) (
      .ret (.inr (0, [.bool false]))) (
      .ite (inb ((lf ls 1).toInt) (((lf ls 0).xs).length)) (
       .ite (inb ((lf ls 1).toInt) (((lf ls 0).xs).length)) (
        .ite (decide (((rd ((lf ls 0).xs) (((lf ls 1).toInt).toNat)).fst).toInt ≥ (((rd ((lf ls 0).xs) (((lf ls 1).toInt).toNat)).snd).fst).toInt)) (
         .ret (.inr (0, [.bool false]))) (
         .ite (decide ((lf ls 1).toInt > (0 : Int))) (
          .ite (inb ((lf ls 1).toInt) (((lf ls 0).xs).length)) (
           .ite (inb (IntKind.i64.wrap (((lf ls 1).toInt) - (1 : Int))) (((lf ls 0).xs).length)) (
            .ite (decide (((rd ((lf ls 0).xs) (((lf ls 1).toInt).toNat)).fst).toInt ≤ (((rd ((lf ls 0).xs) ((IntKind.i64.wrap (((lf ls 1).toInt) - (1 : Int))).toNat)).snd).fst).toInt)) (
             .ret (.inr (0, [.bool false]))) (
             .ret (.inl [lf ls 0, .int .i64 (IntKind.i64.wrap (((lf ls 1).toInt) + (1 : Int)))]))) (
            .fail)) (
           .fail)) (
          .ret (.inl [lf ls 0, .int .i64 (IntKind.i64.wrap (((lf ls 1).toInt) + (1 : Int)))])))) (
        .fail)) (
       .fail))) (
     .fail))) (
   .fail)) (
  .ret (.inr (1, [])))
noncomputable def f81_t (ps : List P) : Tree (Nat × List P) :=
 .loop (loopT f81_s26 FUEL [lf ps 0, .int .i64 (0 : Int)]) fun y1 =>
  .ite (Nat.beq y1.1 0) (
   .ret (0, [lf y1.2 0])) (
   .ite (Nat.beq y1.1 1) (
    .ret (0, [.bool true])) (
    .fail))
noncomputable def f81_v (ps : List P) : Option (Nat × List P) := (f81_t ps).run some
noncomputable def f81_e : EntD := ⟨81, [.imm (.slice (.pair (.int .i64) (.pair (.int .i64) .unit)))], f81_v, [fun ps ls qs => ⟨[.imm .bool (lf qs 0)], [.imm (.slice (.pair (.int .i64) (.pair (.int .i64) .unit))) (lf ps 0)]⟩]⟩
noncomputable def f81_u : List Cu := [.loop 26 f81_k26 f81_o26 f81_s26]
noncomputable def f81_c : Cx := ⟨Try.prog, envOf [], 55, lOf f81_u⟩
noncomputable def f81_b : Code := match Try.f81.body with | some b => b | none => .skip
theorem f81_q26 : (Cu.loop 26 f81_k26 f81_o26 f81_s26).Ok f81_c f81_b := ⟨by kernel_rfl, fun ls Kr Kx => by kernel_rfl⟩
theorem f81_x (ps : List P) (ls : List Nat) : execFn f81_c 81 f81_e.tm (explF ps 1 0) ls = (f81_t ps).run fun q => altR (f81_e.res.map fun f => f ps ls) 0 q some := by kernel_rfl
theorem f81_ok : OkEnt Try.prog f81_e := ent_ok (c := f81_c) (g := 81) (body := f81_b) (us := f81_u) (n := 1) (t := f81_t) (good_envOf _ trivial) Try.func81 rfl Try.call81 rfl ⟨f81_q26, trivial⟩ (by kernel_rfl) f81_x (fun _ => rfl)
/-! ### comprador/compradorref08.Check -/
noncomputable def f129_k26 : Sk := { t := [(0, .imm (.slice (.pair .str (.pair (.slice (.pair (.int .i64) (.pair (.int .i64) .unit))) .unit))) .unit), (3, .imm (.int .i64) .unit)], h := [] }
noncomputable def f129_o26 : List (Out × Sk) := [(.ret, { t := [(2, .imm .bool .unit)], h := [] }), ((.exit 0), { t := [(0, .imm (.slice (.pair .str (.pair (.slice (.pair (.int .i64) (.pair (.int .i64) .unit))) .unit))) .unit)], h := [] })]
noncomputable def f129_s26 (ls : List P) : Tree Step :=
 .ite (decide ((lf ls 1).toInt < (((lf ls 0).xs).length : Int))) (
  .ite (inb ((lf ls 1).toInt) (((lf ls 0).xs).length)) (
   .loop (f130_v [(rd ((lf ls 0).xs) (((lf ls 1).toInt).toNat)).fst]) fun x1 =>
    .ite (Nat.beq x1.1 0) (
     .ite (!((lf x1.2 0).toBool)) (
      .ret (.inr (0, [.bool false]))) (
      .ite (inb ((lf ls 1).toInt) (((lf ls 0).xs).length)) (
       .loop (f81_v [((rd ((lf ls 0).xs) (((lf ls 1).toInt).toNat)).snd).fst]) fun x2 =>
        .ite (Nat.beq x2.1 0) (
         .ite (!((lf x2.2 0).toBool)) (
          .ret (.inr (0, [.bool false]))) (
          .ite (inb ((lf ls 1).toInt) (((lf ls 0).xs).length)) (
           .ite (decide ((((((rd ((lf ls 0).xs) (((lf ls 1).toInt).toNat)).snd).fst).xs).length : Int) > (6 : Int))) (
            .ret (.inr (0, [.bool false]))) (
            .ite (decide ((lf ls 1).toInt > (0 : Int))) (
             .ite (inb ((lf ls 1).toInt) (((lf ls 0).xs).length)) (
              .ite (inb (IntKind.i64.wrap (((lf ls 1).toInt) - (1 : Int))) (((lf ls 0).xs).length)) (
               .ite (strLt (((rd ((lf ls 0).xs) (((lf ls 1).toInt).toNat)).fst).toStr) (((rd ((lf ls 0).xs) ((IntKind.i64.wrap (((lf ls 1).toInt) - (1 : Int))).toNat)).fst).toStr) || strEq (((rd ((lf ls 0).xs) (((lf ls 1).toInt).toNat)).fst).toStr) (((rd ((lf ls 0).xs) ((IntKind.i64.wrap (((lf ls 1).toInt) - (1 : Int))).toNat)).fst).toStr)) (
                .ret (.inr (0, [.bool false]))) (
                .ret (.inl [lf ls 0, .int .i64 (IntKind.i64.wrap (((lf ls 1).toInt) + (1 : Int)))]))) (
               .fail)) (
              .fail)) (
             .ret (.inl [lf ls 0, .int .i64 (IntKind.i64.wrap (((lf ls 1).toInt) + (1 : Int)))])))) (
           .fail))) (
         .fail)) (
       .fail))) (
     .fail)) (
   .fail)) (
  .ret (.inr (1, [lf ls 0])))
noncomputable def f129_t (ps : List P) : Tree (Nat × List P) :=
 .loop (loopT f129_s26 FUEL [lf ps 0, .int .i64 (0 : Int)]) fun y3 =>
  .ite (Nat.beq y3.1 0) (
   .ret (0, [lf y3.2 0])) (
   .ite (Nat.beq y3.1 1) (
    .ret (0, [.bool (decide ((((lf y3.2 0).xs).length : Int) ≤ (6 : Int)))])) (
    .fail))
noncomputable def f129_v (ps : List P) : Option (Nat × List P) := (f129_t ps).run some
noncomputable def f129_e : EntD := ⟨129, [.imm (.slice (.pair .str (.pair (.slice (.pair (.int .i64) (.pair (.int .i64) .unit))) .unit)))], f129_v, [fun ps ls qs => ⟨[.imm .bool (lf qs 0)], [.imm (.slice (.pair .str (.pair (.slice (.pair (.int .i64) (.pair (.int .i64) .unit))) .unit))) (lf ps 0)]⟩]⟩
noncomputable def f129_u : List Cu := [.loop 26 f129_k26 f129_o26 f129_s26]
noncomputable def f129_c : Cx := ⟨Try.prog, envOf [f81_e, f130_e], 56, lOf f129_u⟩
noncomputable def f129_b : Code := match Try.f129.body with | some b => b | none => .skip
theorem f129_q26 : (Cu.loop 26 f129_k26 f129_o26 f129_s26).Ok f129_c f129_b := ⟨by kernel_rfl, fun ls Kr Kx => by kernel_rfl⟩
theorem f129_x (ps : List P) (ls : List Nat) : execFn f129_c 129 f129_e.tm (explF ps 1 0) ls = (f129_t ps).run fun q => altR (f129_e.res.map fun f => f ps ls) 0 q some := by kernel_rfl
theorem f129_ok : OkEnt Try.prog f129_e := ent_ok (c := f129_c) (g := 129) (body := f129_b) (us := f129_u) (n := 1) (t := f129_t) (good_envOf _ ⟨f81_ok, f130_ok, trivial⟩) Try.func129 rfl Try.call129 rfl ⟨f129_q26, trivial⟩ (by kernel_rfl) f129_x (fun _ => rfl)
/-! ### comprador/compradorref09.Check -/
noncomputable def f54_k26 : Sk := { t := [(1, .ref 4900 [] (.pair .str (.pair (.slice (.pair (.int .i64) (.pair (.slice (.pair .str (.pair (.slice (.pair (.int .i64) (.pair (.int .i64) .unit))) .unit))) .unit))) .unit))), (3, .imm (.int .i64) .unit)], h := [(4900, .obj (.pair .str (.pair (.slice (.pair (.int .i64) (.pair (.slice (.pair .str (.pair (.slice (.pair (.int .i64) (.pair (.int .i64) .unit))) .unit))) .unit))) .unit)) (.imm (.pair .str (.pair (.slice (.pair (.int .i64) (.pair (.slice (.pair .str (.pair (.slice (.pair (.int .i64) (.pair (.int .i64) .unit))) .unit))) .unit))) .unit)) .unit))] }
noncomputable def f54_o26 : List (Out × Sk) := [(.ret, { t := [(2, .imm .bool .unit)], h := [] }), ((.exit 0), { t := [(1, .ref 4930 [] (.pair .str (.pair (.slice (.pair (.int .i64) (.pair (.slice (.pair .str (.pair (.slice (.pair (.int .i64) (.pair (.int .i64) .unit))) .unit))) .unit))) .unit)))], h := [(4930, .obj (.pair .str (.pair (.slice (.pair (.int .i64) (.pair (.slice (.pair .str (.pair (.slice (.pair (.int .i64) (.pair (.int .i64) .unit))) .unit))) .unit))) .unit)) (.imm (.pair .str (.pair (.slice (.pair (.int .i64) (.pair (.slice (.pair .str (.pair (.slice (.pair (.int .i64) (.pair (.int .i64) .unit))) .unit))) .unit))) .unit)) .unit))] })]
noncomputable def f54_s26 (ls : List P) : Tree Step :=
 .ite (decide ((lf ls 0).toInt < (((((lf ls 1).snd).fst).xs).length : Int))) (
  .ite (inb ((lf ls 0).toInt) (((((lf ls 1).snd).fst).xs).length)) (
   .loop (f128_v [(rd ((((lf ls 1).snd).fst).xs) (((lf ls 0).toInt).toNat)).fst]) fun x1 =>
    .ite (Nat.beq x1.1 0) (
     .ite (!((lf x1.2 0).toBool)) (
      .ret (.inr (0, [.bool false]))) (
      .loop (f129_v [((rd ((((lf ls 1).snd).fst).xs) (((lf ls 0).toInt).toNat)).snd).fst]) fun x2 =>
       .ite (Nat.beq x2.1 0) (
        .ite (!((lf x2.2 0).toBool)) (
         .ret (.inr (0, [.bool false]))) (
         .ite (decide ((lf ls 0).toInt > (0 : Int))) (
          .ite (inb (IntKind.i64.wrap (((lf ls 0).toInt) - (1 : Int))) (((((lf ls 1).snd).fst).xs).length)) (
           .ite (decide (((rd ((((lf ls 1).snd).fst).xs) (((lf ls 0).toInt).toNat)).fst).toInt ≤ ((rd ((((lf ls 1).snd).fst).xs) ((IntKind.i64.wrap (((lf ls 0).toInt) - (1 : Int))).toNat)).fst).toInt)) (
            .ret (.inr (0, [.bool false]))) (
            .ret (.inl [.int .i64 (IntKind.i64.wrap (((lf ls 0).toInt) + (1 : Int))), lf ls 1]))) (
           .fail)) (
          .ret (.inl [.int .i64 (IntKind.i64.wrap (((lf ls 0).toInt) + (1 : Int))), lf ls 1])))) (
        .fail))) (
     .fail)) (
   .fail)) (
  .ret (.inr (1, [lf ls 1])))
noncomputable def f54_t (ps : List P) : Tree (Nat × List P) :=
 .loop (loopT f54_s26 FUEL [.int .i64 (0 : Int), lf ps 0]) fun y3 =>
  .ite (Nat.beq y3.1 0) (
   .ret (0, [lf y3.2 0])) (
   .ite (Nat.beq y3.1 1) (
    .loop (f130_v [(lf y3.2 0).fst]) fun x4 =>
     .ite (Nat.beq x4.1 0) (
      .ite ((lf x4.2 0).toBool) (
       .ret (0, [.bool (decide ((((((lf y3.2 0).snd).fst).xs).length : Int) ≤ (8 : Int)))])) (
       .ret (0, [.bool false]))) (
      .fail)) (
    .fail))
noncomputable def f54_v (ps : List P) : Option (Nat × List P) := (f54_t ps).run some
noncomputable def f54_e : EntD := ⟨54, [.imm (.pair .str (.pair (.slice (.pair (.int .i64) (.pair (.slice (.pair .str (.pair (.slice (.pair (.int .i64) (.pair (.int .i64) .unit))) .unit))) .unit))) .unit))], f54_v, [fun ps ls qs => ⟨[.imm .bool (lf qs 0)], [.imm (.pair .str (.pair (.slice (.pair (.int .i64) (.pair (.slice (.pair .str (.pair (.slice (.pair (.int .i64) (.pair (.int .i64) .unit))) .unit))) .unit))) .unit)) (lf ps 0)]⟩]⟩
noncomputable def f54_u : List Cu := [.loop 26 f54_k26 f54_o26 f54_s26]
noncomputable def f54_c : Cx := ⟨Try.prog, envOf [f128_e, f129_e, f130_e], 52, lOf f54_u⟩
noncomputable def f54_b : Code := match Try.f54.body with | some b => b | none => .skip
theorem f54_q26 : (Cu.loop 26 f54_k26 f54_o26 f54_s26).Ok f54_c f54_b := ⟨by kernel_rfl, fun ls Kr Kx => by kernel_rfl⟩
theorem f54_x (ps : List P) (ls : List Nat) : execFn f54_c 54 f54_e.tm (explF ps 1 0) ls = (f54_t ps).run fun q => altR (f54_e.res.map fun f => f ps ls) 0 q some := by kernel_rfl
theorem f54_ok : OkEnt Try.prog f54_e := ent_ok (c := f54_c) (g := 54) (body := f54_b) (us := f54_u) (n := 1) (t := f54_t) (good_envOf _ ⟨f128_ok, f129_ok, f130_ok, trivial⟩) Try.func54 rfl Try.call54 rfl ⟨f54_q26, trivial⟩ (by kernel_rfl) f54_x (fun _ => rfl)
/-! ### slices.Equal[[]comprador/api.Span,comprador/api.Span] -/
noncomputable def f159_k58 : Sk := { t := [(0, .imm (.slice (.pair (.int .i64) (.pair (.int .i64) .unit))) .unit), (1, .imm (.slice (.pair (.int .i64) (.pair (.int .i64) .unit))) .unit), (12, .imm (.int .i64) .unit), (13, .imm (.int .i64) .unit)], h := [] }
noncomputable def f159_o58 : List (Out × Sk) := [(.ret, { t := [(4, .imm .bool .unit)], h := [] }), ((.exit 0), { t := [], h := [] })]
noncomputable def f159_s58 (ls : List P) : Tree Step :=
 .ite (decide ((lf ls 3).toInt < (lf ls 2).toInt)) (
  .ite (inb ((lf ls 3).toInt) (((lf ls 0).xs).length)) (
   .ite (inb ((lf ls 3).toInt) (((lf ls 1).xs).length)) (
    .ite (!(eqP (.pair (.int .i64) (.pair (.int .i64) .unit)) (rd ((lf ls 0).xs) (((lf ls 3).toInt).toNat)) (rd ((lf ls 1).xs) (((lf ls 3).toInt).toNat)))) (
     .ret (.inr (0, [.bool false]))) (
     .ret (.inl [lf ls 0, lf ls 1, lf ls 2, .int .i64 (IntKind.i64.wrap (((lf ls 3).toInt) + (1 : Int)))]))) (
    .fail)) (
   .fail)) (
  .ret (.inr (1, [])))
noncomputable def f159_t (ps : List P) : Tree (Nat × List P) :=
 .ite ((((lf ps 0).xs).length : Int) != (((lf ps 1).xs).length : Int)) (
  .ret (0, [.bool false])) (
  .loop (loopT f159_s58 FUEL [lf ps 0, lf ps 1, .int .i64 (((lf ps 0).xs).length : Int), .int .i64 (0 : Int)]) fun y1 =>
   .ite (Nat.beq y1.1 0) (
    .ret (0, [lf y1.2 0])) (
    .ite (Nat.beq y1.1 1) (
     .ret (0, [.bool true])) (
     .fail)))
noncomputable def f159_v (ps : List P) : Option (Nat × List P) := (f159_t ps).run some
noncomputable def f159_e : EntD := ⟨159, [.imm (.slice (.pair (.int .i64) (.pair (.int .i64) .unit))), .imm (.slice (.pair (.int .i64) (.pair (.int .i64) .unit)))], f159_v, [fun ps ls qs => ⟨[.imm .bool (lf qs 0)], [.imm (.slice (.pair (.int .i64) (.pair (.int .i64) .unit))) (lf ps 0), .imm (.slice (.pair (.int .i64) (.pair (.int .i64) .unit))) (lf ps 1)]⟩]⟩
noncomputable def f159_u : List Cu := [.loop 58 f159_k58 f159_o58 f159_s58]
noncomputable def f159_c : Cx := ⟨Try.prog, envOf [], 26, lOf f159_u⟩
noncomputable def f159_b : Code := match Try.f159.body with | some b => b | none => .skip
theorem f159_q58 : (Cu.loop 58 f159_k58 f159_o58 f159_s58).Ok f159_c f159_b := ⟨by kernel_rfl, fun ls Kr Kx => by kernel_rfl⟩
theorem f159_x (ps : List P) (ls : List Nat) : execFn f159_c 159 f159_e.tm (explF ps 2 0) ls = (f159_t ps).run fun q => altR (f159_e.res.map fun f => f ps ls) 0 q some := by kernel_rfl
theorem f159_ok : OkEnt Try.prog f159_e := ent_ok (c := f159_c) (g := 159) (body := f159_b) (us := f159_u) (n := 2) (t := f159_t) (good_envOf _ trivial) Try.func159 rfl Try.call159 rfl ⟨f159_q58, trivial⟩ (by kernel_rfl) f159_x (fun _ => rfl)
/-! ### comprador/span.Same -/
noncomputable def f85_t (ps : List P) : Tree (Nat × List P) :=
 .loop (f159_v [lf ps 0, lf ps 1]) fun x1 =>
  .ite (Nat.beq x1.1 0) (
   .ret (0, [lf x1.2 0])) (
   .fail)
noncomputable def f85_v (ps : List P) : Option (Nat × List P) := (f85_t ps).run some
noncomputable def f85_e : EntD := ⟨85, [.imm (.slice (.pair (.int .i64) (.pair (.int .i64) .unit))), .imm (.slice (.pair (.int .i64) (.pair (.int .i64) .unit)))], f85_v, [fun ps ls qs => ⟨[.imm .bool (lf qs 0)], [.imm (.slice (.pair (.int .i64) (.pair (.int .i64) .unit))) (lf ps 0), .imm (.slice (.pair (.int .i64) (.pair (.int .i64) .unit))) (lf ps 1)]⟩]⟩
noncomputable def f85_u : List Cu := []
noncomputable def f85_c : Cx := ⟨Try.prog, envOf [f159_e], 8, lOf f85_u⟩
noncomputable def f85_b : Code := match Try.f85.body with | some b => b | none => .skip
theorem f85_x (ps : List P) (ls : List Nat) : execFn f85_c 85 f85_e.tm (explF ps 2 0) ls = (f85_t ps).run fun q => altR (f85_e.res.map fun f => f ps ls) 0 q some := by kernel_rfl
theorem f85_ok : OkEnt Try.prog f85_e := ent_ok (c := f85_c) (g := 85) (body := f85_b) (us := f85_u) (n := 2) (t := f85_t) (good_envOf _ ⟨f159_ok, trivial⟩) Try.func85 rfl Try.call85 rfl trivial (by kernel_rfl) f85_x (fun _ => rfl)
/-! ### comprador/need.Same$1 -/
noncomputable def f177_t (ps : List P) : Tree (Nat × List P) :=
 .ite (strEq (((lf ps 0).fst).toStr) (((lf ps 1).fst).toStr)) (
  .loop (f85_v [((lf ps 0).snd).fst, ((lf ps 1).snd).fst]) fun x1 =>
   .ite (Nat.beq x1.1 0) (
    .ret (0, [lf x1.2 0])) (
    .fail)) (
  .ret (0, [.bool false]))
noncomputable def f177_v (ps : List P) : Option (Nat × List P) := (f177_t ps).run some
noncomputable def f177_e : EntD := ⟨177, [.imm (.pair .str (.pair (.slice (.pair (.int .i64) (.pair (.int .i64) .unit))) .unit)), .imm (.pair .str (.pair (.slice (.pair (.int .i64) (.pair (.int .i64) .unit))) .unit))], f177_v, [fun ps ls qs => ⟨[.imm .bool (lf qs 0)], [.imm (.pair .str (.pair (.slice (.pair (.int .i64) (.pair (.int .i64) .unit))) .unit)) (lf ps 0), .imm (.pair .str (.pair (.slice (.pair (.int .i64) (.pair (.int .i64) .unit))) .unit)) (lf ps 1)]⟩]⟩
noncomputable def f177_u : List Cu := []
noncomputable def f177_c : Cx := ⟨Try.prog, envOf [f85_e], 17, lOf f177_u⟩
noncomputable def f177_b : Code := match Try.f177.body with | some b => b | none => .skip
theorem f177_x (ps : List P) (ls : List Nat) : execFn f177_c 177 f177_e.tm (explF ps 2 0) ls = (f177_t ps).run fun q => altR (f177_e.res.map fun f => f ps ls) 0 q some := by kernel_rfl
theorem f177_ok : OkEnt Try.prog f177_e := ent_ok (c := f177_c) (g := 177) (body := f177_b) (us := f177_u) (n := 2) (t := f177_t) (good_envOf _ ⟨f85_ok, trivial⟩) Try.func177 rfl Try.call177 rfl trivial (by kernel_rfl) f177_x (fun _ => rfl)
/-! ### slices.EqualFunc[[]comprador/api.Need,[]comprador/api.Need,comprador/api.Need,comprador/api.Need] -/
noncomputable def f176_k58 : Sk := { t := [(1, .imm (.slice (.pair .str (.pair (.slice (.pair (.int .i64) (.pair (.int .i64) .unit))) .unit))) .unit), (2, .fn 177 (.imm .unit .unit)), (15, .imm (.slice (.pair .str (.pair (.slice (.pair (.int .i64) (.pair (.int .i64) .unit))) .unit))) .unit), (16, .imm (.int .i64) .unit), (17, .imm (.int .i64) .unit)], h := [] }
noncomputable def f176_o58 : List (Out × Sk) := [(.ret, { t := [(6, .imm .bool .unit)], h := [] }), ((.exit 0), { t := [], h := [] })]
noncomputable def f176_s58 (ls : List P) : Tree Step :=
 .ite (decide ((lf ls 4).toInt < (lf ls 3).toInt)) (
  .ite (inb ((lf ls 4).toInt) (((lf ls 2).xs).length)) (
   .ite (inb ((lf ls 4).toInt) (((lf ls 0).xs).length)) (
    .loop (f177_v [rd ((lf ls 2).xs) (((lf ls 4).toInt).toNat), rd ((lf ls 0).xs) (((lf ls 4).toInt).toNat)]) fun x1 =>
     .ite (Nat.beq x1.1 0) (
      .ite (!((lf x1.2 0).toBool)) (
       .ret (.inr (0, [.bool false]))) (
       .ret (.inl [lf ls 0, lf ls 1, lf ls 2, lf ls 3, .int .i64 (IntKind.i64.wrap (((lf ls 4).toInt) + (1 : Int)))]))) (
      .fail)) (
    .fail)) (
   .fail)) (
  .ret (.inr (1, [])))
noncomputable def f176_t (ps : List P) : Tree (Nat × List P) :=
 .ite ((((lf ps 0).xs).length : Int) != (((lf ps 1).xs).length : Int)) (
  .ret (0, [.bool false])) (
  .loop (loopT f176_s58 FUEL [lf ps 1, lf ps 2, lf ps 0, .int .i64 (((lf ps 0).xs).length : Int), .int .i64 (0 : Int)]) fun y2 =>
   .ite (Nat.beq y2.1 0) (
    .ret (0, [lf y2.2 0])) (
    .ite (Nat.beq y2.1 1) (
     .ret (0, [.bool true])) (
     .fail)))
noncomputable def f176_v (ps : List P) : Option (Nat × List P) := (f176_t ps).run some
noncomputable def f176_e : EntD := ⟨176, [.imm (.slice (.pair .str (.pair (.slice (.pair (.int .i64) (.pair (.int .i64) .unit))) .unit))), .imm (.slice (.pair .str (.pair (.slice (.pair (.int .i64) (.pair (.int .i64) .unit))) .unit))), .fn 177 (.imm .unit)], f176_v, [fun ps ls qs => ⟨[.imm .bool (lf qs 0)], [.imm (.slice (.pair .str (.pair (.slice (.pair (.int .i64) (.pair (.int .i64) .unit))) .unit))) (lf ps 0), .imm (.slice (.pair .str (.pair (.slice (.pair (.int .i64) (.pair (.int .i64) .unit))) .unit))) (lf ps 1), .fn 177 (.imm .unit (lf ps 2))]⟩]⟩
noncomputable def f176_u : List Cu := [.loop 58 f176_k58 f176_o58 f176_s58]
noncomputable def f176_c : Cx := ⟨Try.prog, envOf [f177_e], 32, lOf f176_u⟩
noncomputable def f176_b : Code := match Try.f176.body with | some b => b | none => .skip
theorem f176_q58 : (Cu.loop 58 f176_k58 f176_o58 f176_s58).Ok f176_c f176_b := ⟨by kernel_rfl, fun ls Kr Kx => by kernel_rfl⟩
theorem f176_x (ps : List P) (ls : List Nat) : execFn f176_c 176 f176_e.tm (explF ps 3 0) ls = (f176_t ps).run fun q => altR (f176_e.res.map fun f => f ps ls) 0 q some := by kernel_rfl
theorem f176_ok : OkEnt Try.prog f176_e := ent_ok (c := f176_c) (g := 176) (body := f176_b) (us := f176_u) (n := 3) (t := f176_t) (good_envOf _ ⟨f177_ok, trivial⟩) Try.func176 rfl Try.call176 rfl ⟨f176_q58, trivial⟩ (by kernel_rfl) f176_x (fun _ => rfl)
/-! ### comprador/need.Same -/
noncomputable def f133_t (ps : List P) : Tree (Nat × List P) :=
 .loop (f176_v [lf ps 0, lf ps 1, .unit]) fun x1 =>
  .ite (Nat.beq x1.1 0) (
   .ret (0, [lf x1.2 0])) (
   .fail)
noncomputable def f133_v (ps : List P) : Option (Nat × List P) := (f133_t ps).run some
noncomputable def f133_e : EntD := ⟨133, [.imm (.slice (.pair .str (.pair (.slice (.pair (.int .i64) (.pair (.int .i64) .unit))) .unit))), .imm (.slice (.pair .str (.pair (.slice (.pair (.int .i64) (.pair (.int .i64) .unit))) .unit)))], f133_v, [fun ps ls qs => ⟨[.imm .bool (lf qs 0)], [.imm (.slice (.pair .str (.pair (.slice (.pair (.int .i64) (.pair (.int .i64) .unit))) .unit))) (lf ps 0), .imm (.slice (.pair .str (.pair (.slice (.pair (.int .i64) (.pair (.int .i64) .unit))) .unit))) (lf ps 1)]⟩]⟩
noncomputable def f133_u : List Cu := []
noncomputable def f133_c : Cx := ⟨Try.prog, envOf [f176_e], 8, lOf f133_u⟩
noncomputable def f133_b : Code := match Try.f133.body with | some b => b | none => .skip
theorem f133_x (ps : List P) (ls : List Nat) : execFn f133_c 133 f133_e.tm (explF ps 2 0) ls = (f133_t ps).run fun q => altR (f133_e.res.map fun f => f ps ls) 0 q some := by kernel_rfl
theorem f133_ok : OkEnt Try.prog f133_e := ent_ok (c := f133_c) (g := 133) (body := f133_b) (us := f133_u) (n := 2) (t := f133_t) (good_envOf _ ⟨f176_ok, trivial⟩) Try.func133 rfl Try.call133 rfl trivial (by kernel_rfl) f133_x (fun _ => rfl)
/-! ### comprador/mani.Same$1 -/
noncomputable def f132_t (ps : List P) : Tree (Nat × List P) :=
 .ite ((((lf ps 0).fst).toInt) == (((lf ps 1).fst).toInt)) (
  .loop (f133_v [((lf ps 0).snd).fst, ((lf ps 1).snd).fst]) fun x1 =>
   .ite (Nat.beq x1.1 0) (
    .ret (0, [lf x1.2 0])) (
    .fail)) (
  .ret (0, [.bool false]))
noncomputable def f132_v (ps : List P) : Option (Nat × List P) := (f132_t ps).run some
noncomputable def f132_e : EntD := ⟨132, [.imm (.pair (.int .i64) (.pair (.slice (.pair .str (.pair (.slice (.pair (.int .i64) (.pair (.int .i64) .unit))) .unit))) .unit)), .imm (.pair (.int .i64) (.pair (.slice (.pair .str (.pair (.slice (.pair (.int .i64) (.pair (.int .i64) .unit))) .unit))) .unit))], f132_v, [fun ps ls qs => ⟨[.imm .bool (lf qs 0)], [.imm (.pair (.int .i64) (.pair (.slice (.pair .str (.pair (.slice (.pair (.int .i64) (.pair (.int .i64) .unit))) .unit))) .unit)) (lf ps 0), .imm (.pair (.int .i64) (.pair (.slice (.pair .str (.pair (.slice (.pair (.int .i64) (.pair (.int .i64) .unit))) .unit))) .unit)) (lf ps 1)]⟩]⟩
noncomputable def f132_u : List Cu := []
noncomputable def f132_c : Cx := ⟨Try.prog, envOf [f133_e], 17, lOf f132_u⟩
noncomputable def f132_b : Code := match Try.f132.body with | some b => b | none => .skip
theorem f132_x (ps : List P) (ls : List Nat) : execFn f132_c 132 f132_e.tm (explF ps 2 0) ls = (f132_t ps).run fun q => altR (f132_e.res.map fun f => f ps ls) 0 q some := by kernel_rfl
theorem f132_ok : OkEnt Try.prog f132_e := ent_ok (c := f132_c) (g := 132) (body := f132_b) (us := f132_u) (n := 2) (t := f132_t) (good_envOf _ ⟨f133_ok, trivial⟩) Try.func132 rfl Try.call132 rfl trivial (by kernel_rfl) f132_x (fun _ => rfl)
/-! ### slices.EqualFunc[[]comprador/api.Release,[]comprador/api.Release,comprador/api.Release,comprador/api.Release] -/
noncomputable def f131_k58 : Sk := { t := [(1, .imm (.slice (.pair (.int .i64) (.pair (.slice (.pair .str (.pair (.slice (.pair (.int .i64) (.pair (.int .i64) .unit))) .unit))) .unit))) .unit), (2, .fn 132 (.imm .unit .unit)), (15, .imm (.slice (.pair (.int .i64) (.pair (.slice (.pair .str (.pair (.slice (.pair (.int .i64) (.pair (.int .i64) .unit))) .unit))) .unit))) .unit), (16, .imm (.int .i64) .unit), (17, .imm (.int .i64) .unit)], h := [] }
noncomputable def f131_o58 : List (Out × Sk) := [(.ret, { t := [(6, .imm .bool .unit)], h := [] }), ((.exit 0), { t := [], h := [] })]
noncomputable def f131_s58 (ls : List P) : Tree Step :=
 .ite (decide ((lf ls 4).toInt < (lf ls 3).toInt)) (
  .ite (inb ((lf ls 4).toInt) (((lf ls 2).xs).length)) (
   .ite (inb ((lf ls 4).toInt) (((lf ls 0).xs).length)) (
    .loop (f132_v [rd ((lf ls 2).xs) (((lf ls 4).toInt).toNat), rd ((lf ls 0).xs) (((lf ls 4).toInt).toNat)]) fun x1 =>
     .ite (Nat.beq x1.1 0) (
      .ite (!((lf x1.2 0).toBool)) (
       .ret (.inr (0, [.bool false]))) (
       .ret (.inl [lf ls 0, lf ls 1, lf ls 2, lf ls 3, .int .i64 (IntKind.i64.wrap (((lf ls 4).toInt) + (1 : Int)))]))) (
      .fail)) (
    .fail)) (
   .fail)) (
  .ret (.inr (1, [])))
noncomputable def f131_t (ps : List P) : Tree (Nat × List P) :=
 .ite ((((lf ps 0).xs).length : Int) != (((lf ps 1).xs).length : Int)) (
  .ret (0, [.bool false])) (
  .loop (loopT f131_s58 FUEL [lf ps 1, lf ps 2, lf ps 0, .int .i64 (((lf ps 0).xs).length : Int), .int .i64 (0 : Int)]) fun y2 =>
   .ite (Nat.beq y2.1 0) (
    .ret (0, [lf y2.2 0])) (
    .ite (Nat.beq y2.1 1) (
     .ret (0, [.bool true])) (
     .fail)))
noncomputable def f131_v (ps : List P) : Option (Nat × List P) := (f131_t ps).run some
noncomputable def f131_e : EntD := ⟨131, [.imm (.slice (.pair (.int .i64) (.pair (.slice (.pair .str (.pair (.slice (.pair (.int .i64) (.pair (.int .i64) .unit))) .unit))) .unit))), .imm (.slice (.pair (.int .i64) (.pair (.slice (.pair .str (.pair (.slice (.pair (.int .i64) (.pair (.int .i64) .unit))) .unit))) .unit))), .fn 132 (.imm .unit)], f131_v, [fun ps ls qs => ⟨[.imm .bool (lf qs 0)], [.imm (.slice (.pair (.int .i64) (.pair (.slice (.pair .str (.pair (.slice (.pair (.int .i64) (.pair (.int .i64) .unit))) .unit))) .unit))) (lf ps 0), .imm (.slice (.pair (.int .i64) (.pair (.slice (.pair .str (.pair (.slice (.pair (.int .i64) (.pair (.int .i64) .unit))) .unit))) .unit))) (lf ps 1), .fn 132 (.imm .unit (lf ps 2))]⟩]⟩
noncomputable def f131_u : List Cu := [.loop 58 f131_k58 f131_o58 f131_s58]
noncomputable def f131_c : Cx := ⟨Try.prog, envOf [f132_e], 32, lOf f131_u⟩
noncomputable def f131_b : Code := match Try.f131.body with | some b => b | none => .skip
theorem f131_q58 : (Cu.loop 58 f131_k58 f131_o58 f131_s58).Ok f131_c f131_b := ⟨by kernel_rfl, fun ls Kr Kx => by kernel_rfl⟩
theorem f131_x (ps : List P) (ls : List Nat) : execFn f131_c 131 f131_e.tm (explF ps 3 0) ls = (f131_t ps).run fun q => altR (f131_e.res.map fun f => f ps ls) 0 q some := by kernel_rfl
theorem f131_ok : OkEnt Try.prog f131_e := ent_ok (c := f131_c) (g := 131) (body := f131_b) (us := f131_u) (n := 3) (t := f131_t) (good_envOf _ ⟨f132_ok, trivial⟩) Try.func131 rfl Try.call131 rfl ⟨f131_q58, trivial⟩ (by kernel_rfl) f131_x (fun _ => rfl)
/-! ### comprador/mani.Same -/
noncomputable def f55_t (ps : List P) : Tree (Nat × List P) :=
 .ite (strEq (((lf ps 0).fst).toStr) (((lf ps 1).fst).toStr)) (
  .loop (f131_v [((lf ps 0).snd).fst, ((lf ps 1).snd).fst, .unit]) fun x1 =>
   .ite (Nat.beq x1.1 0) (
    .ret (0, [lf x1.2 0])) (
    .fail)) (
  .ret (0, [.bool false]))
noncomputable def f55_v (ps : List P) : Option (Nat × List P) := (f55_t ps).run some
noncomputable def f55_e : EntD := ⟨55, [.imm (.pair .str (.pair (.slice (.pair (.int .i64) (.pair (.slice (.pair .str (.pair (.slice (.pair (.int .i64) (.pair (.int .i64) .unit))) .unit))) .unit))) .unit)), .imm (.pair .str (.pair (.slice (.pair (.int .i64) (.pair (.slice (.pair .str (.pair (.slice (.pair (.int .i64) (.pair (.int .i64) .unit))) .unit))) .unit))) .unit))], f55_v, [fun ps ls qs => ⟨[.imm .bool (lf qs 0)], [.imm (.pair .str (.pair (.slice (.pair (.int .i64) (.pair (.slice (.pair .str (.pair (.slice (.pair (.int .i64) (.pair (.int .i64) .unit))) .unit))) .unit))) .unit)) (lf ps 0), .imm (.pair .str (.pair (.slice (.pair (.int .i64) (.pair (.slice (.pair .str (.pair (.slice (.pair (.int .i64) (.pair (.int .i64) .unit))) .unit))) .unit))) .unit)) (lf ps 1)]⟩]⟩
noncomputable def f55_u : List Cu := []
noncomputable def f55_c : Cx := ⟨Try.prog, envOf [f131_e], 17, lOf f55_u⟩
noncomputable def f55_b : Code := match Try.f55.body with | some b => b | none => .skip
theorem f55_x (ps : List P) (ls : List Nat) : execFn f55_c 55 f55_e.tm (explF ps 2 0) ls = (f55_t ps).run fun q => altR (f55_e.res.map fun f => f ps ls) 0 q some := by kernel_rfl
theorem f55_ok : OkEnt Try.prog f55_e := ent_ok (c := f55_c) (g := 55) (body := f55_b) (us := f55_u) (n := 2) (t := f55_t) (good_envOf _ ⟨f131_ok, trivial⟩) Try.func55 rfl Try.call55 rfl trivial (by kernel_rfl) f55_x (fun _ => rfl)
/-! ### comprador/compradorref06.Same -/
noncomputable def f82_k58 : Sk := { t := [(0, .imm (.slice (.pair (.int .i64) (.pair (.int .i64) .unit))) .unit), (1, .imm (.slice (.pair (.int .i64) (.pair (.int .i64) .unit))) .unit), (5, .imm (.int .i64) .unit)], h := [] }
noncomputable def f82_o58 : List (Out × Sk) := [(.ret, { t := [(4, .imm .bool .unit)], h := [] }), ((.exit 0), { t := [], h := [] })]
noncomputable def f82_s58 (ls : List P) : Tree Step :=
 .ite (decide ((lf ls 2).toInt < (((lf ls 0).xs).length : Int))) (
  .ite (inb ((lf ls 2).toInt) (((lf ls 0).xs).length)) (
   .ite (inb ((lf ls 2).toInt) (((lf ls 1).xs).length)) (
    .ite (!(eqP (.pair (.int .i64) (.pair (.int .i64) .unit)) (rd ((lf ls 0).xs) (((lf ls 2).toInt).toNat)) (rd ((lf ls 1).xs) (((lf ls 2).toInt).toNat)))) (
     .ret (.inr (0, [.bool false]))) (
     .ret (.inl [lf ls 0, lf ls 1, .int .i64 (IntKind.i64.wrap (((lf ls 2).toInt) + (1 : Int)))]))) (
    .fail)) (
   .fail)) (
  .ret (.inr (1, [])))
noncomputable def f82_t (ps : List P) : Tree (Nat × List P) :=
 .ite ((((lf ps 0).xs).length : Int) != (((lf ps 1).xs).length : Int)) (
  .ret (0, [.bool false])) (
  .loop (loopT f82_s58 FUEL [lf ps 0, lf ps 1, .int .i64 (0 : Int)]) fun y1 =>
   .ite (Nat.beq y1.1 0) (
    .ret (0, [lf y1.2 0])) (
    .ite (Nat.beq y1.1 1) (
     .ret (0, [.bool true])) (
     .fail)))
noncomputable def f82_v (ps : List P) : Option (Nat × List P) := (f82_t ps).run some
noncomputable def f82_e : EntD := ⟨82, [.imm (.slice (.pair (.int .i64) (.pair (.int .i64) .unit))), .imm (.slice (.pair (.int .i64) (.pair (.int .i64) .unit)))], f82_v, [fun ps ls qs => ⟨[.imm .bool (lf qs 0)], [.imm (.slice (.pair (.int .i64) (.pair (.int .i64) .unit))) (lf ps 0), .imm (.slice (.pair (.int .i64) (.pair (.int .i64) .unit))) (lf ps 1)]⟩]⟩
noncomputable def f82_u : List Cu := [.loop 58 f82_k58 f82_o58 f82_s58]
noncomputable def f82_c : Cx := ⟨Try.prog, envOf [], 26, lOf f82_u⟩
noncomputable def f82_b : Code := match Try.f82.body with | some b => b | none => .skip
theorem f82_q58 : (Cu.loop 58 f82_k58 f82_o58 f82_s58).Ok f82_c f82_b := ⟨by kernel_rfl, fun ls Kr Kx => by kernel_rfl⟩
theorem f82_x (ps : List P) (ls : List Nat) : execFn f82_c 82 f82_e.tm (explF ps 2 0) ls = (f82_t ps).run fun q => altR (f82_e.res.map fun f => f ps ls) 0 q some := by kernel_rfl
theorem f82_ok : OkEnt Try.prog f82_e := ent_ok (c := f82_c) (g := 82) (body := f82_b) (us := f82_u) (n := 2) (t := f82_t) (good_envOf _ trivial) Try.func82 rfl Try.call82 rfl ⟨f82_q58, trivial⟩ (by kernel_rfl) f82_x (fun _ => rfl)
/-! ### comprador/compradorref08.Same -/
noncomputable def f134_k58 : Sk := { t := [(0, .imm (.slice (.pair .str (.pair (.slice (.pair (.int .i64) (.pair (.int .i64) .unit))) .unit))) .unit), (1, .imm (.slice (.pair .str (.pair (.slice (.pair (.int .i64) (.pair (.int .i64) .unit))) .unit))) .unit), (5, .imm (.int .i64) .unit)], h := [] }
noncomputable def f134_o58 : List (Out × Sk) := [(.ret, { t := [(4, .imm .bool .unit)], h := [] }), ((.exit 0), { t := [], h := [] })]
noncomputable def f134_s58 (ls : List P) : Tree Step :=
 .ite (decide ((lf ls 2).toInt < (((lf ls 0).xs).length : Int))) (
  .ite (inb ((lf ls 2).toInt) (((lf ls 0).xs).length)) (
   .ite (inb ((lf ls 2).toInt) (((lf ls 1).xs).length)) (
    .ite (!(strEq (((rd ((lf ls 0).xs) (((lf ls 2).toInt).toNat)).fst).toStr) (((rd ((lf ls 1).xs) (((lf ls 2).toInt).toNat)).fst).toStr))) (
     .ret (.inr (0, [.bool false]))) (
     .ite (inb ((lf ls 2).toInt) (((lf ls 0).xs).length)) (
      .ite (inb ((lf ls 2).toInt) (((lf ls 1).xs).length)) (
       .loop (f82_v [((rd ((lf ls 0).xs) (((lf ls 2).toInt).toNat)).snd).fst, ((rd ((lf ls 1).xs) (((lf ls 2).toInt).toNat)).snd).fst]) fun x1 =>
        .ite (Nat.beq x1.1 0) (
         .ite (!((lf x1.2 0).toBool)) (
          .ret (.inr (0, [.bool false]))) (
          .ret (.inl [lf ls 0, lf ls 1, .int .i64 (IntKind.i64.wrap (((lf ls 2).toInt) + (1 : Int)))]))) (
         .fail)) (
       .fail)) (
      .fail))) (
    .fail)) (
   .fail)) (
  .ret (.inr (1, [])))
noncomputable def f134_t (ps : List P) : Tree (Nat × List P) :=
 .ite ((((lf ps 0).xs).length : Int) != (((lf ps 1).xs).length : Int)) (
  .ret (0, [.bool false])) (
  .loop (loopT f134_s58 FUEL [lf ps 0, lf ps 1, .int .i64 (0 : Int)]) fun y2 =>
   .ite (Nat.beq y2.1 0) (
    .ret (0, [lf y2.2 0])) (
    .ite (Nat.beq y2.1 1) (
     .ret (0, [.bool true])) (
     .fail)))
noncomputable def f134_v (ps : List P) : Option (Nat × List P) := (f134_t ps).run some
noncomputable def f134_e : EntD := ⟨134, [.imm (.slice (.pair .str (.pair (.slice (.pair (.int .i64) (.pair (.int .i64) .unit))) .unit))), .imm (.slice (.pair .str (.pair (.slice (.pair (.int .i64) (.pair (.int .i64) .unit))) .unit)))], f134_v, [fun ps ls qs => ⟨[.imm .bool (lf qs 0)], [.imm (.slice (.pair .str (.pair (.slice (.pair (.int .i64) (.pair (.int .i64) .unit))) .unit))) (lf ps 0), .imm (.slice (.pair .str (.pair (.slice (.pair (.int .i64) (.pair (.int .i64) .unit))) .unit))) (lf ps 1)]⟩]⟩
noncomputable def f134_u : List Cu := [.loop 58 f134_k58 f134_o58 f134_s58]
noncomputable def f134_c : Cx := ⟨Try.prog, envOf [f82_e], 42, lOf f134_u⟩
noncomputable def f134_b : Code := match Try.f134.body with | some b => b | none => .skip
theorem f134_q58 : (Cu.loop 58 f134_k58 f134_o58 f134_s58).Ok f134_c f134_b := ⟨by kernel_rfl, fun ls Kr Kx => by kernel_rfl⟩
theorem f134_x (ps : List P) (ls : List Nat) : execFn f134_c 134 f134_e.tm (explF ps 2 0) ls = (f134_t ps).run fun q => altR (f134_e.res.map fun f => f ps ls) 0 q some := by kernel_rfl
theorem f134_ok : OkEnt Try.prog f134_e := ent_ok (c := f134_c) (g := 134) (body := f134_b) (us := f134_u) (n := 2) (t := f134_t) (good_envOf _ ⟨f82_ok, trivial⟩) Try.func134 rfl Try.call134 rfl ⟨f134_q58, trivial⟩ (by kernel_rfl) f134_x (fun _ => rfl)
/-! ### comprador/compradorref09.Same -/
noncomputable def f56_k58 : Sk := { t := [(2, .ref 5700 [] (.pair .str (.pair (.slice (.pair (.int .i64) (.pair (.slice (.pair .str (.pair (.slice (.pair (.int .i64) (.pair (.int .i64) .unit))) .unit))) .unit))) .unit))), (3, .ref 5701 [] (.pair .str (.pair (.slice (.pair (.int .i64) (.pair (.slice (.pair .str (.pair (.slice (.pair (.int .i64) (.pair (.int .i64) .unit))) .unit))) .unit))) .unit))), (5, .imm (.int .i64) .unit)], h := [(5700, .obj (.pair .str (.pair (.slice (.pair (.int .i64) (.pair (.slice (.pair .str (.pair (.slice (.pair (.int .i64) (.pair (.int .i64) .unit))) .unit))) .unit))) .unit)) (.imm (.pair .str (.pair (.slice (.pair (.int .i64) (.pair (.slice (.pair .str (.pair (.slice (.pair (.int .i64) (.pair (.int .i64) .unit))) .unit))) .unit))) .unit)) .unit)), (5701, .obj (.pair .str (.pair (.slice (.pair (.int .i64) (.pair (.slice (.pair .str (.pair (.slice (.pair (.int .i64) (.pair (.int .i64) .unit))) .unit))) .unit))) .unit)) (.imm (.pair .str (.pair (.slice (.pair (.int .i64) (.pair (.slice (.pair .str (.pair (.slice (.pair (.int .i64) (.pair (.int .i64) .unit))) .unit))) .unit))) .unit)) .unit))] }
noncomputable def f56_o58 : List (Out × Sk) := [(.ret, { t := [(4, .imm .bool .unit)], h := [] }), ((.exit 0), { t := [], h := [] })]
noncomputable def f56_s58 (ls : List P) : Tree Step :=
 .ite (decide ((lf ls 0).toInt < (((((lf ls 1).snd).fst).xs).length : Int))) (
  .ite (inb ((lf ls 0).toInt) (((((lf ls 1).snd).fst).xs).length)) (
   .ite (inb ((lf ls 0).toInt) (((((lf ls 2).snd).fst).xs).length)) (
    .ite ((((rd ((((lf ls 1).snd).fst).xs) (((lf ls 0).toInt).toNat)).fst).toInt) != (((rd ((((lf ls 2).snd).fst).xs) (((lf ls 0).toInt).toNat)).fst).toInt)) (
     .ret (.inr (0, [.bool false]))) (
     .ite (inb ((lf ls 0).toInt) (((((lf ls 1).snd).fst).xs).length)) (
      .ite (inb ((lf ls 0).toInt) (((((lf ls 2).snd).fst).xs).length)) (
       .loop (f134_v [((rd ((((lf ls 1).snd).fst).xs) (((lf ls 0).toInt).toNat)).snd).fst, ((rd ((((lf ls 2).snd).fst).xs) (((lf ls 0).toInt).toNat)).snd).fst]) fun x1 =>
        .ite (Nat.beq x1.1 0) (
         .ite (!((lf x1.2 0).toBool)) (
          .ret (.inr (0, [.bool false]))) (
          .ret (.inl [.int .i64 (IntKind.i64.wrap (((lf ls 0).toInt) + (1 : Int))), lf ls 1, lf ls 2]))) (
         .fail)) (
       .fail)) (
      .fail))) (
    .fail)) (
   .fail)) (
  .ret (.inr (1, [])))
noncomputable def f56_t (ps : List P) : Tree (Nat × List P) :=
 .ite (!(strEq (((lf ps 0).fst).toStr) (((lf ps 1).fst).toStr))) (
  .ret (0, [.bool false])) (
  .ite ((((((lf ps 0).snd).fst).xs).length : Int) != (((((lf ps 1).snd).fst).xs).length : Int)) (
   .ret (0, [.bool false])) (
   .loop (loopT f56_s58 FUEL [.int .i64 (0 : Int), lf ps 0, lf ps 1]) fun y2 =>
    .ite (Nat.beq y2.1 0) (
     .ret (0, [lf y2.2 0])) (
     .ite (Nat.beq y2.1 1) (
      .ret (0, [.bool true])) (
      .fail))))
noncomputable def f56_v (ps : List P) : Option (Nat × List P) := (f56_t ps).run some
noncomputable def f56_e : EntD := ⟨56, [.imm (.pair .str (.pair (.slice (.pair (.int .i64) (.pair (.slice (.pair .str (.pair (.slice (.pair (.int .i64) (.pair (.int .i64) .unit))) .unit))) .unit))) .unit)), .imm (.pair .str (.pair (.slice (.pair (.int .i64) (.pair (.slice (.pair .str (.pair (.slice (.pair (.int .i64) (.pair (.int .i64) .unit))) .unit))) .unit))) .unit))], f56_v, [fun ps ls qs => ⟨[.imm .bool (lf qs 0)], [.imm (.pair .str (.pair (.slice (.pair (.int .i64) (.pair (.slice (.pair .str (.pair (.slice (.pair (.int .i64) (.pair (.int .i64) .unit))) .unit))) .unit))) .unit)) (lf ps 0), .imm (.pair .str (.pair (.slice (.pair (.int .i64) (.pair (.slice (.pair .str (.pair (.slice (.pair (.int .i64) (.pair (.int .i64) .unit))) .unit))) .unit))) .unit)) (lf ps 1)]⟩]⟩
noncomputable def f56_u : List Cu := [.loop 58 f56_k58 f56_o58 f56_s58]
noncomputable def f56_c : Cx := ⟨Try.prog, envOf [f134_e], 56, lOf f56_u⟩
noncomputable def f56_b : Code := match Try.f56.body with | some b => b | none => .skip
theorem f56_q58 : (Cu.loop 58 f56_k58 f56_o58 f56_s58).Ok f56_c f56_b := ⟨by kernel_rfl, fun ls Kr Kx => by kernel_rfl⟩
theorem f56_x (ps : List P) (ls : List Nat) : execFn f56_c 56 f56_e.tm (explF ps 2 0) ls = (f56_t ps).run fun q => altR (f56_e.res.map fun f => f ps ls) 0 q some := by kernel_rfl
theorem f56_ok : OkEnt Try.prog f56_e := ent_ok (c := f56_c) (g := 56) (body := f56_b) (us := f56_u) (n := 2) (t := f56_t) (good_envOf _ ⟨f134_ok, trivial⟩) Try.func56 rfl Try.call56 rfl ⟨f56_q58, trivial⟩ (by kernel_rfl) f56_x (fun _ => rfl)
/-! ### slices.Clone[[]comprador/api.Span,comprador/api.Span] -/
noncomputable def f167_k1 : Sk := { t := [(0, .imm (.slice (.pair (.int .i64) (.pair (.int .i64) .unit))) .unit)], h := [] }
noncomputable def f167_o1 : List (Out × Sk) := [(.ret, { t := [(2, .slf 4030 (.pair (.int .i64) (.pair (.int .i64) .unit)))], h := [(4030, .arr (.pair (.int .i64) (.pair (.int .i64) .unit)) true [])] })]
noncomputable def f167_s1 (ls : List P) : Tree (Nat × List P) :=
 .ite ((lf ls 0).isNil) (
  .ret (0, [.list true []])) (
  .ite (decide ((0 + ((lf ls 0).xs).length) * 16 ≤ 140737488355328)) (
   .ret (0, [.list false ((lf ls 0).xs)])) (
   .fail))
noncomputable def f167_t (ps : List P) : Tree (Nat × List P) :=
 .loop ((f167_s1 [lf ps 0]).run some) fun y1 =>
  .ite (Nat.beq y1.1 0) (
   .ret (0, [.list ((lf y1.2 0).isNil) ((lf y1.2 0).xs)])) (
   .fail)
noncomputable def f167_v (ps : List P) : Option (Nat × List P) := (f167_t ps).run some
noncomputable def f167_e : EntD := ⟨167, [.imm (.slice (.pair (.int .i64) (.pair (.int .i64) .unit)))], f167_v, [fun ps ls qs => ⟨[.own (ls.getD 2029 0) (.pair (.int .i64) (.pair (.int .i64) .unit)) (lf qs 0).isNil (lf qs 0).xs], [.imm (.slice (.pair (.int .i64) (.pair (.int .i64) .unit))) (lf ps 0)]⟩]⟩
noncomputable def f167_u : List Cu := [.cut 1 f167_k1 f167_o1 f167_s1]
noncomputable def f167_c : Cx := ⟨Try.prog, envOf [], 8, lOf f167_u⟩
noncomputable def f167_b : Code := match Try.f167.body with | some b => b | none => .skip
theorem f167_q1 : (Cu.cut 1 f167_k1 f167_o1 f167_s1).Ok f167_c f167_b := ⟨by kernel_rfl, fun ls Kx => by kernel_rfl⟩
theorem f167_x (ps : List P) (ls : List Nat) : execFn f167_c 167 f167_e.tm (explF ps 1 0) ls = (f167_t ps).run fun q => altR (f167_e.res.map fun f => f ps ls) 0 q some := by kernel_rfl
theorem f167_ok : OkEnt Try.prog f167_e := ent_ok (c := f167_c) (g := 167) (body := f167_b) (us := f167_u) (n := 1) (t := f167_t) (good_envOf _ trivial) Try.func167 rfl Try.call167 rfl ⟨f167_q1, trivial⟩ (by kernel_rfl) f167_x (fun _ => rfl)
/-! ### comprador/mani.cloned -/
noncomputable def f135_k58 : Sk := { t := [(2, .ref 5100 [] (.pair (.int .i64) (.pair (.slice (.pair .str (.pair (.slice (.pair (.int .i64) (.pair (.int .i64) .unit))) .unit))) .unit))), (3, .ref 5101 [] (.pair (.int .i64) (.pair (.slice (.pair .str (.pair (.slice (.pair (.int .i64) (.pair (.int .i64) .unit))) .unit))) .unit))), (10, .imm (.slice (.pair .str (.pair (.slice (.pair (.int .i64) (.pair (.int .i64) .unit))) .unit))) .unit), (11, .imm (.int .i64) .unit), (12, .imm (.int .i64) .unit)], h := [(5100, .obj (.pair (.int .i64) (.pair (.slice (.pair .str (.pair (.slice (.pair (.int .i64) (.pair (.int .i64) .unit))) .unit))) .unit)) (.imm (.pair (.int .i64) (.pair (.slice (.pair .str (.pair (.slice (.pair (.int .i64) (.pair (.int .i64) .unit))) .unit))) .unit)) .unit)), (5101, .obj (.pair (.int .i64) (.pair (.slice (.pair .str (.pair (.slice (.pair (.int .i64) (.pair (.int .i64) .unit))) .unit))) .unit)) (.pair (.imm (.int .i64) .unit) (.pair (.slf 5102 (.pair .str (.pair (.slice (.pair (.int .i64) (.pair (.int .i64) .unit))) .unit))) (.imm .unit .unit)))), (5102, .arr (.pair .str (.pair (.slice (.pair (.int .i64) (.pair (.int .i64) .unit))) .unit)) true [])] }
noncomputable def f135_o58 : List (Out × Sk) := [((.exit 0), { t := [(2, .ref 5130 [] (.pair (.int .i64) (.pair (.slice (.pair .str (.pair (.slice (.pair (.int .i64) (.pair (.int .i64) .unit))) .unit))) .unit))), (3, .ref 5131 [] (.pair (.int .i64) (.pair (.slice (.pair .str (.pair (.slice (.pair (.int .i64) (.pair (.int .i64) .unit))) .unit))) .unit)))], h := [(5130, .obj (.pair (.int .i64) (.pair (.slice (.pair .str (.pair (.slice (.pair (.int .i64) (.pair (.int .i64) .unit))) .unit))) .unit)) (.imm (.pair (.int .i64) (.pair (.slice (.pair .str (.pair (.slice (.pair (.int .i64) (.pair (.int .i64) .unit))) .unit))) .unit)) .unit)), (5131, .obj (.pair (.int .i64) (.pair (.slice (.pair .str (.pair (.slice (.pair (.int .i64) (.pair (.int .i64) .unit))) .unit))) .unit)) (.pair (.imm (.int .i64) .unit) (.pair (.slf 5132 (.pair .str (.pair (.slice (.pair (.int .i64) (.pair (.int .i64) .unit))) .unit))) (.imm .unit .unit)))), (5132, .arr (.pair .str (.pair (.slice (.pair (.int .i64) (.pair (.int .i64) .unit))) .unit)) true [])] })]
noncomputable def f135_s58 (ls : List P) : Tree Step :=
 .ite (decide ((lf ls 2).toInt < (lf ls 1).toInt)) (
  .ite (inb ((lf ls 2).toInt) (((lf ls 0).xs).length)) (
   .loop (f167_v [((rd ((lf ls 0).xs) (((lf ls 2).toInt).toNat)).snd).fst]) fun x1 =>
    .ite (Nat.beq x1.1 0) (
     .ite (decide ((((lf ls 6).xs).length + 1) * 40 ≤ 140737488355328)) (
      .ret (.inl [lf ls 0, lf ls 1, .int .i64 (IntKind.i64.wrap (((lf ls 2).toInt) + (1 : Int))), lf ls 3, lf ls 4, lf ls 5, .list (((lf ls 6).isNil) && false) (((lf ls 6).xs) ++ [.pair ((rd ((lf ls 0).xs) (((lf ls 2).toInt).toNat)).fst) (.pair (.list ((lf x1.2 0).isNil) ((lf x1.2 0).xs)) .unit)])])) (
      .fail)) (
     .fail)) (
   .fail)) (
  .ret (.inr (0, [lf ls 3, lf ls 4, lf ls 5, .list ((lf ls 6).isNil) ((lf ls 6).xs)])))
noncomputable def f135_t (ps : List P) : Tree (Nat × List P) :=
 .loop (loopT f135_s58 FUEL [((lf ps 0).snd).fst, .int .i64 (((((lf ps 0).snd).fst).xs).length : Int), .int .i64 (0 : Int), .pair (.int .i64 (0 : Int)) (.pair (.list true []) .unit), (lf ps 0).fst, .unit, .list true []]) fun y2 =>
  .ite (Nat.beq y2.1 0) (
   .ret (0, [lf y2.2 1, .list ((lf y2.2 3).isNil) ((lf y2.2 3).xs), lf y2.2 2])) (
   .fail)
noncomputable def f135_v (ps : List P) : Option (Nat × List P) := (f135_t ps).run some
noncomputable def f135_e : EntD := ⟨135, [.imm (.pair (.int .i64) (.pair (.slice (.pair .str (.pair (.slice (.pair (.int .i64) (.pair (.int .i64) .unit))) .unit))) .unit))], f135_v, [fun ps ls qs => ⟨[.pair (.imm (.int .i64) (lf qs 0)) (.pair (.own (ls.getD 3131 0) (.pair .str (.pair (.slice (.pair (.int .i64) (.pair (.int .i64) .unit))) .unit)) (lf qs 1).isNil (lf qs 1).xs) (.imm .unit (lf qs 2)))], [.imm (.pair (.int .i64) (.pair (.slice (.pair .str (.pair (.slice (.pair (.int .i64) (.pair (.int .i64) .unit))) .unit))) .unit)) (lf ps 0)]⟩]⟩
noncomputable def f135_u : List Cu := [.loop 58 f135_k58 f135_o58 f135_s58]
noncomputable def f135_c : Cx := ⟨Try.prog, envOf [f167_e], 29, lOf f135_u⟩
noncomputable def f135_b : Code := match Try.f135.body with | some b => b | none => .skip
theorem f135_q58 : (Cu.loop 58 f135_k58 f135_o58 f135_s58).Ok f135_c f135_b := ⟨by kernel_rfl, fun ls Kr Kx => by kernel_rfl⟩
theorem f135_x (ps : List P) (ls : List Nat) : execFn f135_c 135 f135_e.tm (explF ps 1 0) ls = (f135_t ps).run fun q => altR (f135_e.res.map fun f => f ps ls) 0 q some := by kernel_rfl
theorem f135_ok : OkEnt Try.prog f135_e := ent_ok (c := f135_c) (g := 135) (body := f135_b) (us := f135_u) (n := 1) (t := f135_t) (good_envOf _ ⟨f167_ok, trivial⟩) Try.func135 rfl Try.call135 rfl ⟨f135_q58, trivial⟩ (by kernel_rfl) f135_x (fun _ => rfl)
end Go.Proofs.Ytjemihhhkhdbeaa
