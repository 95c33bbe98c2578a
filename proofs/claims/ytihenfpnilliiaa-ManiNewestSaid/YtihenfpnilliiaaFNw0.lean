/- Functions: what each tells. Conditions: none. -/
import Derived.Test.YtihenfpnilliiaaFNws
open Go Go.Eng Go.Proofs
set_option pp.deepTerms true
set_option linter.unusedVariables false
namespace Go.Proofs.Ytihenfpnilliiaa
/-! ### comprador/compradorlaw08.Large -/
noncomputable def f28_k58 : Sk := { t := [(0, .imm (.slice (.pair .str (.pair (.slice (.pair (.int .i64) (.pair (.int .i64) .unit))) .unit))) .unit), (3, .imm (.int .i64) .unit)], h := [] }
noncomputable def f28_o58 : List (Out × Sk) := [(.ret, { t := [(2, .imm .bool .unit)], h := [] }), ((.exit 0), { t := [], h := [] })]
noncomputable def f28_s58 (ls : List P) : Tree Step :=
 .ite (decide ((lf ls 1).toInt < (((lf ls 0).xs).length : Int))) (
  .ite (inb ((lf ls 1).toInt) (((lf ls 0).xs).length)) (
   .ite (decide ((((((rd ((lf ls 0).xs) (((lf ls 1).toInt).toNat)).snd).fst).xs).length : Int) > (40 : Int))) (
    .ret (.inr (0, [.bool true]))) (
    .ite (inb ((lf ls 1).toInt) (((lf ls 0).xs).length)) (
     .ite (decide (((((rd ((lf ls 0).xs) (((lf ls 1).toInt).toNat)).fst).toStr).size : Int) > (100 : Int))) (
      .ret (.inr (0, [.bool true]))) (
      .ret (.inl [lf ls 0, .int .i64 (IntKind.i64.wrap (((lf ls 1).toInt) + (1 : Int)))]))) (
     .fail))) (
   .fail)) (
  .ret (.inr (1, [])))
noncomputable def f28_t (ps : List P) : Tree (Nat × List P) :=
 .ite (decide ((((lf ps 0).xs).length : Int) > (40 : Int))) (
  .ret (0, [.bool true])) (
  .loop (loopT f28_s58 FUEL [lf ps 0, .int .i64 (0 : Int)]) fun y1 =>
   .ite (Nat.beq y1.1 0) (
    .ret (0, [lf y1.2 0])) (
    .ite (Nat.beq y1.1 1) (
     .ret (0, [.bool false])) (
     .fail)))
noncomputable def f28_v (ps : List P) : Option (Nat × List P) := (f28_t ps).run some
noncomputable def f28_e : EntD := ⟨28, [.imm (.slice (.pair .str (.pair (.slice (.pair (.int .i64) (.pair (.int .i64) .unit))) .unit)))], f28_v, [fun ps ls qs => ⟨[.imm .bool (lf qs 0)], [.imm (.slice (.pair .str (.pair (.slice (.pair (.int .i64) (.pair (.int .i64) .unit))) .unit))) (lf ps 0)]⟩]⟩
noncomputable def f28_u : List Cu := [.loop 58 f28_k58 f28_o58 f28_s58]
noncomputable def f28_c : Cx := ⟨Try.prog, envOf [], 29, lOf f28_u⟩
noncomputable def f28_b : Code := match Try.f28.body with | some b => b | none => .skip
theorem f28_q58 : (Cu.loop 58 f28_k58 f28_o58 f28_s58).Ok f28_c f28_b := ⟨by kernel_rfl, fun ls Kr Kx => by kernel_rfl⟩
theorem f28_x (ps : List P) (ls : List Nat) : execFn f28_c 28 f28_e.tm (explF ps 1 0) ls = (f28_t ps).run fun q => altR (f28_e.res.map fun f => f ps ls) 0 q some := by kernel_rfl
theorem f28_ok : OkEnt Try.prog f28_e := ent_ok (c := f28_c) (g := 28) (body := f28_b) (us := f28_u) (n := 1) (t := f28_t) (good_envOf _ trivial) Try.func28 rfl Try.call28 rfl ⟨f28_q58, trivial⟩ (by kernel_rfl) f28_x (fun _ => rfl)
/-! ### comprador/compradorlaw09.Large -/
noncomputable def f5_k58 : Sk := { t := [(1, .ref 5700 [] (.pair .str (.pair (.slice (.pair (.int .i64) (.pair (.slice (.pair .str (.pair (.slice (.pair (.int .i64) (.pair (.int .i64) .unit))) .unit))) .unit))) .unit))), (3, .imm (.int .i64) .unit)], h := [(5700, .obj (.pair .str (.pair (.slice (.pair (.int .i64) (.pair (.slice (.pair .str (.pair (.slice (.pair (.int .i64) (.pair (.int .i64) .unit))) .unit))) .unit))) .unit)) (.imm (.pair .str (.pair (.slice (.pair (.int .i64) (.pair (.slice (.pair .str (.pair (.slice (.pair (.int .i64) (.pair (.int .i64) .unit))) .unit))) .unit))) .unit)) .unit))] }
noncomputable def f5_o58 : List (Out × Sk) := [(.ret, { t := [(2, .imm .bool .unit)], h := [] }), ((.exit 0), { t := [], h := [] })]
noncomputable def f5_s58 (ls : List P) : Tree Step :=
 .ite (decide ((lf ls 0).toInt < (((((lf ls 1).snd).fst).xs).length : Int))) (
  .ite (inb ((lf ls 0).toInt) (((((lf ls 1).snd).fst).xs).length)) (
   .loop (f28_v [((rd ((((lf ls 1).snd).fst).xs) (((lf ls 0).toInt).toNat)).snd).fst]) fun x1 =>
    .ite (Nat.beq x1.1 0) (
     .ite ((lf x1.2 0).toBool) (
      .ret (.inr (0, [.bool true]))) (
      .ret (.inl [.int .i64 (IntKind.i64.wrap (((lf ls 0).toInt) + (1 : Int))), lf ls 1]))) (
     .fail)) (
   .fail)) (
  .ret (.inr (1, [])))
noncomputable def f5_t (ps : List P) : Tree (Nat × List P) :=
 .ite (decide ((((((lf ps 0).snd).fst).xs).length : Int) > (30 : Int))) (
  .ret (0, [.bool true])) (
  .ite (decide (((((lf ps 0).fst).toStr).size : Int) > (200 : Int))) (
   .ret (0, [.bool true])) (
   .loop (loopT f5_s58 FUEL [.int .i64 (0 : Int), lf ps 0]) fun y2 =>
    .ite (Nat.beq y2.1 0) (
     .ret (0, [lf y2.2 0])) (
     .ite (Nat.beq y2.1 1) (
      .ret (0, [.bool false])) (
      .fail))))
noncomputable def f5_v (ps : List P) : Option (Nat × List P) := (f5_t ps).run some
noncomputable def f5_e : EntD := ⟨5, [.imm (.pair .str (.pair (.slice (.pair (.int .i64) (.pair (.slice (.pair .str (.pair (.slice (.pair (.int .i64) (.pair (.int .i64) .unit))) .unit))) .unit))) .unit))], f5_v, [fun ps ls qs => ⟨[.imm .bool (lf qs 0)], [.imm (.pair .str (.pair (.slice (.pair (.int .i64) (.pair (.slice (.pair .str (.pair (.slice (.pair (.int .i64) (.pair (.int .i64) .unit))) .unit))) .unit))) .unit)) (lf ps 0)]⟩]⟩
noncomputable def f5_u : List Cu := [.loop 58 f5_k58 f5_o58 f5_s58]
noncomputable def f5_c : Cx := ⟨Try.prog, envOf [f28_e], 28, lOf f5_u⟩
noncomputable def f5_b : Code := match Try.f5.body with | some b => b | none => .skip
theorem f5_q58 : (Cu.loop 58 f5_k58 f5_o58 f5_s58).Ok f5_c f5_b := ⟨by kernel_rfl, fun ls Kr Kx => by kernel_rfl⟩
theorem f5_x (ps : List P) (ls : List Nat) : execFn f5_c 5 f5_e.tm (explF ps 1 0) ls = (f5_t ps).run fun q => altR (f5_e.res.map fun f => f ps ls) 0 q some := by kernel_rfl
theorem f5_ok : OkEnt Try.prog f5_e := ent_ok (c := f5_c) (g := 5) (body := f5_b) (us := f5_u) (n := 1) (t := f5_t) (good_envOf _ ⟨f28_ok, trivial⟩) Try.func5 rfl Try.call5 rfl ⟨f5_q58, trivial⟩ (by kernel_rfl) f5_x (fun _ => rfl)
/-! ### comprador/mani.Newest -/
noncomputable def f11_t (ps : List P) : Tree (Nat × List P) :=
 .loop (down13_v [lf ps 0, lf ps 1]) fun x1 =>
  .ite (Nat.beq x1.1 0) (
   .ite ((((lf x1.2 0).xs).length : Int) == (0 : Int)) (
    .ret (0, [.int .i64 (0 : Int), .bool false])) (
    .ite (inb (0 : Int) (((lf x1.2 0).xs).length)) (
     .ret (0, [rd ((lf x1.2 0).xs) 0, .bool true])) (
     .fail))) (
   .fail)
noncomputable def f11_v (ps : List P) : Option (Nat × List P) := (f11_t ps).run some
noncomputable def f11_e : EntD := ⟨11, [.imm (.pair .str (.pair (.slice (.pair (.int .i64) (.pair (.slice (.pair .str (.pair (.slice (.pair (.int .i64) (.pair (.int .i64) .unit))) .unit))) .unit))) .unit)), .imm (.slice (.pair (.int .i64) (.pair (.int .i64) .unit)))], f11_v, [fun ps ls qs => ⟨[.imm (.int .i64) (lf qs 0), .imm .bool (lf qs 1)], [.imm (.pair .str (.pair (.slice (.pair (.int .i64) (.pair (.slice (.pair .str (.pair (.slice (.pair (.int .i64) (.pair (.int .i64) .unit))) .unit))) .unit))) .unit)) (lf ps 0), .imm (.slice (.pair (.int .i64) (.pair (.int .i64) .unit))) (lf ps 1)]⟩]⟩
noncomputable def f11_u : List Cu := []
noncomputable def f11_c : Cx := ⟨Try.prog, envOf [down13_e], 16, lOf f11_u⟩
noncomputable def f11_b : Code := match Try.f11.body with | some b => b | none => .skip
theorem f11_x (ps : List P) (ls : List Nat) : execFn f11_c 11 f11_e.tm (explF ps 2 0) ls = (f11_t ps).run fun q => altR (f11_e.res.map fun f => f ps ls) 0 q some := by kernel_rfl
theorem f11_ok : OkEnt Try.prog f11_e := ent_ok (c := f11_c) (g := 11) (body := f11_b) (us := f11_u) (n := 2) (t := f11_t) (good_envOf _ ⟨down13_ok, trivial⟩) Try.func11 rfl Try.call11 rfl trivial (by kernel_rfl) f11_x (fun _ => rfl)
/-! ### comprador/label.kind -/
noncomputable def f46_t (ps : List P) : Tree (Nat × List P) :=
 .ite (decide ((lf ps 0).toInt ≥ (97 : Int))) (
  .ite (decide ((lf ps 0).toInt ≤ (122 : Int))) (
   .ret (0, [.int .i64 (0 : Int)])) (
   .ite (decide ((lf ps 0).toInt ≥ (945 : Int))) (
    .ite (decide ((lf ps 0).toInt ≤ (969 : Int))) (
     .ret (0, [.int .i64 (1 : Int)])) (
     .ite (decide ((lf ps 0).toInt ≥ (48 : Int))) (
      .ite (decide ((lf ps 0).toInt ≤ (57 : Int))) (
       .ret (0, [.int .i64 (2 : Int)])) (
       .ite (((lf ps 0).toInt) == (45 : Int)) (
        .ret (0, [.int .i64 (3 : Int)])) (
        .ret (0, [.int .i64 (4 : Int)])))) (
      .ite (((lf ps 0).toInt) == (45 : Int)) (
       .ret (0, [.int .i64 (3 : Int)])) (
       .ret (0, [.int .i64 (4 : Int)]))))) (
    .ite (decide ((lf ps 0).toInt ≥ (48 : Int))) (
     .ite (decide ((lf ps 0).toInt ≤ (57 : Int))) (
      .ret (0, [.int .i64 (2 : Int)])) (
      .ite (((lf ps 0).toInt) == (45 : Int)) (
       .ret (0, [.int .i64 (3 : Int)])) (
       .ret (0, [.int .i64 (4 : Int)])))) (
     .ite (((lf ps 0).toInt) == (45 : Int)) (
      .ret (0, [.int .i64 (3 : Int)])) (
      .ret (0, [.int .i64 (4 : Int)])))))) (
  .ite (decide ((lf ps 0).toInt ≥ (945 : Int))) (
   .ite (decide ((lf ps 0).toInt ≤ (969 : Int))) (
    .ret (0, [.int .i64 (1 : Int)])) (
    .ite (decide ((lf ps 0).toInt ≥ (48 : Int))) (
     .ite (decide ((lf ps 0).toInt ≤ (57 : Int))) (
      .ret (0, [.int .i64 (2 : Int)])) (
      .ite (((lf ps 0).toInt) == (45 : Int)) (
       .ret (0, [.int .i64 (3 : Int)])) (
       .ret (0, [.int .i64 (4 : Int)])))) (
     .ite (((lf ps 0).toInt) == (45 : Int)) (
      .ret (0, [.int .i64 (3 : Int)])) (
      .ret (0, [.int .i64 (4 : Int)]))))) (
   .ite (decide ((lf ps 0).toInt ≥ (48 : Int))) (
    .ite (decide ((lf ps 0).toInt ≤ (57 : Int))) (
     .ret (0, [.int .i64 (2 : Int)])) (
     .ite (((lf ps 0).toInt) == (45 : Int)) (
      .ret (0, [.int .i64 (3 : Int)])) (
      .ret (0, [.int .i64 (4 : Int)])))) (
    .ite (((lf ps 0).toInt) == (45 : Int)) (
     .ret (0, [.int .i64 (3 : Int)])) (
     .ret (0, [.int .i64 (4 : Int)])))))
noncomputable def f46_v (ps : List P) : Option (Nat × List P) := (f46_t ps).run some
noncomputable def f46_e : EntD := ⟨46, [.imm (.int .i32)], f46_v, [fun ps ls qs => ⟨[.imm (.int .i64) (lf qs 0)], [.imm (.int .i32) (lf ps 0)]⟩]⟩
noncomputable def f46_u : List Cu := []
noncomputable def f46_c : Cx := ⟨Try.prog, envOf [], 27, lOf f46_u⟩
noncomputable def f46_b : Code := match Try.f46.body with | some b => b | none => .skip
theorem f46_x (ps : List P) (ls : List Nat) : execFn f46_c 46 f46_e.tm (explF ps 1 0) ls = (f46_t ps).run fun q => altR (f46_e.res.map fun f => f ps ls) 0 q some := by kernel_rfl
theorem f46_ok : OkEnt Try.prog f46_e := ent_ok (c := f46_c) (g := 46) (body := f46_b) (us := f46_u) (n := 1) (t := f46_t) (good_envOf _ trivial) Try.func46 rfl Try.call46 rfl trivial (by kernel_rfl) f46_x (fun _ => rfl)
/-! ### comprador/label.Fit -/
noncomputable def f30_k58 : Sk := { t := [(3, .imm (.int .i64) .unit), (8, .blk 5100 .it)], h := [(5100, .blk .it .unit)] }
noncomputable def f30_o58 : List (Out × Sk) := [(.ret, { t := [(2, .imm .bool .unit)], h := [] }), ((.exit 0), { t := [(3, .imm (.int .i64) .unit)], h := [] })]
noncomputable def f30_s58 (ls : List P) : Tree Step :=
 .ite (decide (((lf ls 1).snd).toInt < (((lf ls 1).fst).toStr).size)) (
  .loop (f46_v [.int .i32 (runeAt (((lf ls 1).fst).toStr) (((lf ls 1).snd).toInt))]) fun x1 =>
   .ite (Nat.beq x1.1 0) (
    .ite (decide ((lf x1.2 0).toInt > (3 : Int))) (
     .ret (.inr (0, [.bool false]))) (
     .ite (((lf ls 0).toInt) == (0 : Int)) (
      .ite (decide ((lf x1.2 0).toInt > (1 : Int))) (
       .ret (.inr (0, [.bool false]))) (
       .ite (((lf ls 0).toInt) == (12 : Int)) (
        .ret (.inr (0, [.bool false]))) (
        .ret (.inl [.int .i64 (IntKind.i64.wrap (((lf ls 0).toInt) + (1 : Int))), .pair (.str (((lf ls 1).fst).toStr)) (.int .i64 ((((lf ls 1).snd).toInt) + (runeLen (((lf ls 1).fst).toStr) (((lf ls 1).snd).toInt))))])))) (
      .ite (((lf ls 0).toInt) == (12 : Int)) (
       .ret (.inr (0, [.bool false]))) (
       .ret (.inl [.int .i64 (IntKind.i64.wrap (((lf ls 0).toInt) + (1 : Int))), .pair (.str (((lf ls 1).fst).toStr)) (.int .i64 ((((lf ls 1).snd).toInt) + (runeLen (((lf ls 1).fst).toStr) (((lf ls 1).snd).toInt))))]))))) (
    .fail)) (
  .ret (.inr (1, [lf ls 0])))
noncomputable def f30_t (ps : List P) : Tree (Nat × List P) :=
 .loop (loopT f30_s58 FUEL [.int .i64 (0 : Int), .pair (.str ((lf ps 0).toStr)) (.int .i64 (0 : Int))]) fun y2 =>
  .ite (Nat.beq y2.1 0) (
   .ret (0, [lf y2.2 0])) (
   .ite (Nat.beq y2.1 1) (
    .ret (0, [.bool (decide ((lf y2.2 0).toInt > (0 : Int)))])) (
    .fail))
noncomputable def f30_v (ps : List P) : Option (Nat × List P) := (f30_t ps).run some
noncomputable def f30_e : EntD := ⟨30, [.imm .str], f30_v, [fun ps ls qs => ⟨[.imm .bool (lf qs 0)], [.imm .str (lf ps 0)]⟩]⟩
noncomputable def f30_u : List Cu := [.loop 58 f30_k58 f30_o58 f30_s58]
noncomputable def f30_c : Cx := ⟨Try.prog, envOf [f46_e], 32, lOf f30_u⟩
noncomputable def f30_b : Code := match Try.f30.body with | some b => b | none => .skip
theorem f30_q58 : (Cu.loop 58 f30_k58 f30_o58 f30_s58).Ok f30_c f30_b := ⟨by kernel_rfl, fun ls Kr Kx => by kernel_rfl⟩
theorem f30_x (ps : List P) (ls : List Nat) : execFn f30_c 30 f30_e.tm (explF ps 1 0) ls = (f30_t ps).run fun q => altR (f30_e.res.map fun f => f ps ls) 0 q some := by kernel_rfl
theorem f30_ok : OkEnt Try.prog f30_e := ent_ok (c := f30_c) (g := 30) (body := f30_b) (us := f30_u) (n := 1) (t := f30_t) (good_envOf _ ⟨f46_ok, trivial⟩) Try.func30 rfl Try.call30 rfl ⟨f30_q58, trivial⟩ (by kernel_rfl) f30_x (fun _ => rfl)
/-! ### comprador/span.Check -/
noncomputable def f7_k58 : Sk := { t := [(3, .imm (.int .i64) .unit), (6, .imm (.slice (.pair (.int .i64) (.pair (.int .i64) .unit))) .unit), (7, .imm (.int .i64) .unit), (8, .imm (.int .i64) .unit)], h := [] }
noncomputable def f7_o58 : List (Out × Sk) := [(.ret, { t := [(2, .imm .bool .unit)], h := [] }), ((.exit 0), { t := [], h := [] })]
noncomputable def f7_s58 (ls : List P) : Tree Step :=
 .ite (decide ((lf ls 3).toInt < (lf ls 2).toInt)) (
  .ite (inb ((lf ls 3).toInt) (((lf ls 1).xs).length)) (
   .ite (decide (((rd ((lf ls 1).xs) (((lf ls 3).toInt).toNat)).fst).toInt ≤ (lf ls 0).toInt)) (
    .ret (.inr (0, [.bool false]))) (
    .ite (decide (((rd ((lf ls 1).xs) (((lf ls 3).toInt).toNat)).fst).toInt ≥ (((rd ((lf ls 1).xs) (((lf ls 3).toInt).toNat)).snd).fst).toInt)) (
     .ret (.inr (0, [.bool false]))) (
     .ite (decide ((((rd ((lf ls 1).xs) (((lf ls 3).toInt).toNat)).snd).fst).toInt > (1000000000 : Int))) (
      .ret (.inr (0, [.bool false]))) (
      .ret (.inl [((rd ((lf ls 1).xs) (((lf ls 3).toInt).toNat)).snd).fst, lf ls 1, lf ls 2, .int .i64 (IntKind.i64.wrap (((lf ls 3).toInt) + (1 : Int)))]))))) (
   .fail)) (
  .ret (.inr (1, [])))
noncomputable def f7_t (ps : List P) : Tree (Nat × List P) :=
 .loop (loopT f7_s58 FUEL [.int .i64 (-1 : Int), lf ps 0, .int .i64 (((lf ps 0).xs).length : Int), .int .i64 (0 : Int)]) fun y1 =>
  .ite (Nat.beq y1.1 0) (
   .ret (0, [lf y1.2 0])) (
   .ite (Nat.beq y1.1 1) (
    .ret (0, [.bool true])) (
    .fail))
noncomputable def f7_v (ps : List P) : Option (Nat × List P) := (f7_t ps).run some
noncomputable def f7_e : EntD := ⟨7, [.imm (.slice (.pair (.int .i64) (.pair (.int .i64) .unit)))], f7_v, [fun ps ls qs => ⟨[.imm .bool (lf qs 0)], [.imm (.slice (.pair (.int .i64) (.pair (.int .i64) .unit))) (lf ps 0)]⟩]⟩
noncomputable def f7_u : List Cu := [.loop 58 f7_k58 f7_o58 f7_s58]
noncomputable def f7_c : Cx := ⟨Try.prog, envOf [], 31, lOf f7_u⟩
noncomputable def f7_b : Code := match Try.f7.body with | some b => b | none => .skip
theorem f7_q58 : (Cu.loop 58 f7_k58 f7_o58 f7_s58).Ok f7_c f7_b := ⟨by kernel_rfl, fun ls Kr Kx => by kernel_rfl⟩
theorem f7_x (ps : List P) (ls : List Nat) : execFn f7_c 7 f7_e.tm (explF ps 1 0) ls = (f7_t ps).run fun q => altR (f7_e.res.map fun f => f ps ls) 0 q some := by kernel_rfl
theorem f7_ok : OkEnt Try.prog f7_e := ent_ok (c := f7_c) (g := 7) (body := f7_b) (us := f7_u) (n := 1) (t := f7_t) (good_envOf _ trivial) Try.func7 rfl Try.call7 rfl ⟨f7_q58, trivial⟩ (by kernel_rfl) f7_x (fun _ => rfl)
/-! ### comprador/need.Check -/
noncomputable def f29_k58 : Sk := { t := [(0, .imm (.slice (.pair .str (.pair (.slice (.pair (.int .i64) (.pair (.int .i64) .unit))) .unit))) .unit), (3, .imm .str .unit), (6, .imm (.slice (.pair .str (.pair (.slice (.pair (.int .i64) (.pair (.int .i64) .unit))) .unit))) .unit), (7, .imm (.int .i64) .unit), (8, .imm (.int .i64) .unit)], h := [] }
noncomputable def f29_o58 : List (Out × Sk) := [(.ret, { t := [(2, .imm .bool .unit)], h := [] }), ((.exit 0), { t := [(0, .imm (.slice (.pair .str (.pair (.slice (.pair (.int .i64) (.pair (.int .i64) .unit))) .unit))) .unit)], h := [] })]
noncomputable def f29_s58 (ls : List P) : Tree Step :=
 .ite (decide ((lf ls 4).toInt < (lf ls 3).toInt)) (
  .ite (inb ((lf ls 4).toInt) (((lf ls 2).xs).length)) (
   .loop (f30_v [(rd ((lf ls 2).xs) (((lf ls 4).toInt).toNat)).fst]) fun x1 =>
    .ite (Nat.beq x1.1 0) (
     .ite (!((lf x1.2 0).toBool)) (
      .ret (.inr (0, [.bool false]))) (
      .ite (strLt (((rd ((lf ls 2).xs) (((lf ls 4).toInt).toNat)).fst).toStr) ((lf ls 1).toStr) || strEq (((rd ((lf ls 2).xs) (((lf ls 4).toInt).toNat)).fst).toStr) ((lf ls 1).toStr)) (
       .ret (.inr (0, [.bool false]))) (
       .ite (decide ((((((rd ((lf ls 2).xs) (((lf ls 4).toInt).toNat)).snd).fst).xs).length : Int) > (6 : Int))) (
        .ret (.inr (0, [.bool false]))) (
        .loop (f7_v [((rd ((lf ls 2).xs) (((lf ls 4).toInt).toNat)).snd).fst]) fun x2 =>
         .ite (Nat.beq x2.1 0) (
          .ite (!((lf x2.2 0).toBool)) (
           .ret (.inr (0, [.bool false]))) (
           .ret (.inl [lf ls 0, (rd ((lf ls 2).xs) (((lf ls 4).toInt).toNat)).fst, lf ls 2, lf ls 3, .int .i64 (IntKind.i64.wrap (((lf ls 4).toInt) + (1 : Int)))]))) (
          .fail))))) (
     .fail)) (
   .fail)) (
  .ret (.inr (1, [lf ls 0])))
noncomputable def f29_t (ps : List P) : Tree (Nat × List P) :=
 .loop (loopT f29_s58 FUEL [lf ps 0, .str .empty, lf ps 0, .int .i64 (((lf ps 0).xs).length : Int), .int .i64 (0 : Int)]) fun y3 =>
  .ite (Nat.beq y3.1 0) (
   .ret (0, [lf y3.2 0])) (
   .ite (Nat.beq y3.1 1) (
    .ret (0, [.bool (decide ((((lf y3.2 0).xs).length : Int) ≤ (6 : Int)))])) (
    .fail))
noncomputable def f29_v (ps : List P) : Option (Nat × List P) := (f29_t ps).run some
noncomputable def f29_e : EntD := ⟨29, [.imm (.slice (.pair .str (.pair (.slice (.pair (.int .i64) (.pair (.int .i64) .unit))) .unit)))], f29_v, [fun ps ls qs => ⟨[.imm .bool (lf qs 0)], [.imm (.slice (.pair .str (.pair (.slice (.pair (.int .i64) (.pair (.int .i64) .unit))) .unit))) (lf ps 0)]⟩]⟩
noncomputable def f29_u : List Cu := [.loop 58 f29_k58 f29_o58 f29_s58]
noncomputable def f29_c : Cx := ⟨Try.prog, envOf [f7_e, f30_e], 40, lOf f29_u⟩
noncomputable def f29_b : Code := match Try.f29.body with | some b => b | none => .skip
theorem f29_q58 : (Cu.loop 58 f29_k58 f29_o58 f29_s58).Ok f29_c f29_b := ⟨by kernel_rfl, fun ls Kr Kx => by kernel_rfl⟩
theorem f29_x (ps : List P) (ls : List Nat) : execFn f29_c 29 f29_e.tm (explF ps 1 0) ls = (f29_t ps).run fun q => altR (f29_e.res.map fun f => f ps ls) 0 q some := by kernel_rfl
theorem f29_ok : OkEnt Try.prog f29_e := ent_ok (c := f29_c) (g := 29) (body := f29_b) (us := f29_u) (n := 1) (t := f29_t) (good_envOf _ ⟨f7_ok, f30_ok, trivial⟩) Try.func29 rfl Try.call29 rfl ⟨f29_q58, trivial⟩ (by kernel_rfl) f29_x (fun _ => rfl)
/-! ### comprador/mani.Check -/
noncomputable def f6_k58 : Sk := { t := [(1, .ref 5100 [] (.pair .str (.pair (.slice (.pair (.int .i64) (.pair (.slice (.pair .str (.pair (.slice (.pair (.int .i64) (.pair (.int .i64) .unit))) .unit))) .unit))) .unit))), (3, .imm (.int .i64) .unit), (7, .imm (.slice (.pair (.int .i64) (.pair (.slice (.pair .str (.pair (.slice (.pair (.int .i64) (.pair (.int .i64) .unit))) .unit))) .unit))) .unit), (8, .imm (.int .i64) .unit), (9, .imm (.int .i64) .unit)], h := [(5100, .obj (.pair .str (.pair (.slice (.pair (.int .i64) (.pair (.slice (.pair .str (.pair (.slice (.pair (.int .i64) (.pair (.int .i64) .unit))) .unit))) .unit))) .unit)) (.imm (.pair .str (.pair (.slice (.pair (.int .i64) (.pair (.slice (.pair .str (.pair (.slice (.pair (.int .i64) (.pair (.int .i64) .unit))) .unit))) .unit))) .unit)) .unit))] }
noncomputable def f6_o58 : List (Out × Sk) := [(.ret, { t := [(2, .imm .bool .unit)], h := [] }), ((.exit 0), { t := [(1, .ref 5130 [] (.pair .str (.pair (.slice (.pair (.int .i64) (.pair (.slice (.pair .str (.pair (.slice (.pair (.int .i64) (.pair (.int .i64) .unit))) .unit))) .unit))) .unit)))], h := [(5130, .obj (.pair .str (.pair (.slice (.pair (.int .i64) (.pair (.slice (.pair .str (.pair (.slice (.pair (.int .i64) (.pair (.int .i64) .unit))) .unit))) .unit))) .unit)) (.imm (.pair .str (.pair (.slice (.pair (.int .i64) (.pair (.slice (.pair .str (.pair (.slice (.pair (.int .i64) (.pair (.int .i64) .unit))) .unit))) .unit))) .unit)) .unit))] })]
noncomputable def f6_s58 (ls : List P) : Tree Step :=
 .ite (decide ((lf ls 3).toInt < (lf ls 2).toInt)) (
  .ite (inb ((lf ls 3).toInt) (((lf ls 1).xs).length)) (
   .ite (decide (((rd ((lf ls 1).xs) (((lf ls 3).toInt).toNat)).fst).toInt ≤ (lf ls 0).toInt)) (
    .ret (.inr (0, [.bool false]))) (
    .ite (decide (((rd ((lf ls 1).xs) (((lf ls 3).toInt).toNat)).fst).toInt ≥ (1000000000 : Int))) (
     .ret (.inr (0, [.bool false]))) (
     .loop (f29_v [((rd ((lf ls 1).xs) (((lf ls 3).toInt).toNat)).snd).fst]) fun x1 =>
      .ite (Nat.beq x1.1 0) (
       .ite (!((lf x1.2 0).toBool)) (
        .ret (.inr (0, [.bool false]))) (
        .ret (.inl [(rd ((lf ls 1).xs) (((lf ls 3).toInt).toNat)).fst, lf ls 1, lf ls 2, .int .i64 (IntKind.i64.wrap (((lf ls 3).toInt) + (1 : Int))), lf ls 4]))) (
       .fail)))) (
   .fail)) (
  .ret (.inr (1, [lf ls 4])))
noncomputable def f6_t (ps : List P) : Tree (Nat × List P) :=
 .loop (loopT f6_s58 FUEL [.int .i64 (-1 : Int), ((lf ps 0).snd).fst, .int .i64 (((((lf ps 0).snd).fst).xs).length : Int), .int .i64 (0 : Int), lf ps 0]) fun y2 =>
  .ite (Nat.beq y2.1 0) (
   .ret (0, [lf y2.2 0])) (
   .ite (Nat.beq y2.1 1) (
    .loop (f30_v [(lf y2.2 0).fst]) fun x3 =>
     .ite (Nat.beq x3.1 0) (
      .ite ((lf x3.2 0).toBool) (
       .ret (0, [.bool (decide ((((((lf y2.2 0).snd).fst).xs).length : Int) ≤ (8 : Int)))])) (
       .ret (0, [.bool false]))) (
      .fail)) (
    .fail))
noncomputable def f6_v (ps : List P) : Option (Nat × List P) := (f6_t ps).run some
noncomputable def f6_e : EntD := ⟨6, [.imm (.pair .str (.pair (.slice (.pair (.int .i64) (.pair (.slice (.pair .str (.pair (.slice (.pair (.int .i64) (.pair (.int .i64) .unit))) .unit))) .unit))) .unit))], f6_v, [fun ps ls qs => ⟨[.imm .bool (lf qs 0)], [.imm (.pair .str (.pair (.slice (.pair (.int .i64) (.pair (.slice (.pair .str (.pair (.slice (.pair (.int .i64) (.pair (.int .i64) .unit))) .unit))) .unit))) .unit)) (lf ps 0)]⟩]⟩
noncomputable def f6_u : List Cu := [.loop 58 f6_k58 f6_o58 f6_s58]
noncomputable def f6_c : Cx := ⟨Try.prog, envOf [f29_e, f30_e], 40, lOf f6_u⟩
noncomputable def f6_b : Code := match Try.f6.body with | some b => b | none => .skip
theorem f6_q58 : (Cu.loop 58 f6_k58 f6_o58 f6_s58).Ok f6_c f6_b := ⟨by kernel_rfl, fun ls Kr Kx => by kernel_rfl⟩
theorem f6_x (ps : List P) (ls : List Nat) : execFn f6_c 6 f6_e.tm (explF ps 1 0) ls = (f6_t ps).run fun q => altR (f6_e.res.map fun f => f ps ls) 0 q some := by kernel_rfl
theorem f6_ok : OkEnt Try.prog f6_e := ent_ok (c := f6_c) (g := 6) (body := f6_b) (us := f6_u) (n := 1) (t := f6_t) (good_envOf _ ⟨f29_ok, f30_ok, trivial⟩) Try.func6 rfl Try.call6 rfl ⟨f6_q58, trivial⟩ (by kernel_rfl) f6_x (fun _ => rfl)
/-! ### comprador/compradorlaw09.awake -/
noncomputable def f8_t (ps : List P) : Tree (Nat × List P) :=
 .loop (f11_v [.pair (.str ⟨#[97]⟩) (.pair (.list false [.pair (.int .i64 (1000000 : Int)) (.pair (.list true []) .unit), .pair (.int .i64 (2000000 : Int)) (.pair (.list true []) .unit)]) .unit), .list false [.pair (.int .i64 (0 : Int)) (.pair (.int .i64 (2000000 : Int)) .unit)]]) fun x1 =>
  .ite (Nat.beq x1.1 0) (
   .loop (down13_v [.pair (.str ⟨#[97]⟩) (.pair (.list false [.pair (.int .i64 (1000000 : Int)) (.pair (.list true []) .unit), .pair (.int .i64 (2000000 : Int)) (.pair (.list true []) .unit)]) .unit), .list false [.pair (.int .i64 (0 : Int)) (.pair (.int .i64 (1000000000 : Int)) .unit)]]) fun x2 =>
    .ite (Nat.beq x2.1 0) (
     .loop (f6_v [.pair (.str ⟨#[97]⟩) (.pair (.list false [.pair (.int .i64 (1000000 : Int)) (.pair (.list true []) .unit), .pair (.int .i64 (2000000 : Int)) (.pair (.list true []) .unit)]) .unit)]) fun x3 =>
      .ite (Nat.beq x3.1 0) (
       .ite ((lf x3.2 0).toBool) (
        .ite (((lf x1.2 0).toInt) == (1000000 : Int)) (
         .ite ((lf x1.2 1).toBool) (
          .ite ((((lf x2.2 0).xs).length : Int) == (2 : Int)) (
           .ite (inb (0 : Int) (((lf x2.2 0).xs).length)) (
            .ret (0, [.bool (((rd ((lf x2.2 0).xs) 0).toInt) == (2000000 : Int))])) (
            .fail)) (
           .ret (0, [.bool false]))) (
          .ret (0, [.bool false]))) (
         .ret (0, [.bool false]))) (
        .ret (0, [.bool false]))) (
       .fail)) (
     .fail)) (
   .fail)
noncomputable def f8_v (ps : List P) : Option (Nat × List P) := (f8_t ps).run some
noncomputable def f8_e : EntD := ⟨8, [], f8_v, [fun ps ls qs => ⟨[.imm .bool (lf qs 0)], []⟩]⟩
noncomputable def f8_u : List Cu := []
noncomputable def f8_c : Cx := ⟨Try.prog, envOf [f6_e, f11_e, down13_e], 40, lOf f8_u⟩
noncomputable def f8_b : Code := match Try.f8.body with | some b => b | none => .skip
theorem f8_x (ps : List P) (ls : List Nat) : execFn f8_c 8 f8_e.tm (explF ps 0 0) ls = (f8_t ps).run fun q => altR (f8_e.res.map fun f => f ps ls) 0 q some := by kernel_rfl
theorem f8_ok : OkEnt Try.prog f8_e := ent_ok (c := f8_c) (g := 8) (body := f8_b) (us := f8_u) (n := 0) (t := f8_t) (good_envOf _ ⟨f6_ok, f11_ok, down13_ok, trivial⟩) Try.func8 rfl Try.call8 rfl trivial (by kernel_rfl) f8_x (fun _ => rfl)
/-! ### comprador/span.add -/
noncomputable def f48_k1 : Sk := { t := [(0, .slf 2001 (.pair (.int .i64) (.pair (.int .i64) .unit))), (1, .imm (.pair (.int .i64) (.pair (.int .i64) .unit)) .unit)], h := [(2001, .arr (.pair (.int .i64) (.pair (.int .i64) .unit)) true [])] }
noncomputable def f48_o1 : List (Out × Sk) := [(.ret, { t := [(4, .slf 4030 (.pair (.int .i64) (.pair (.int .i64) .unit)))], h := [(4030, .arr (.pair (.int .i64) (.pair (.int .i64) .unit)) true [])] })]
noncomputable def f48_s1 (ls : List P) : Tree (Nat × List P) :=
 .ite (decide (IntKind.i64.wrap ((((lf ls 1).xs).length : Int) - (1 : Int)) ≥ (0 : Int))) (
  .ite (inb (IntKind.i64.wrap ((((lf ls 1).xs).length : Int) - (1 : Int))) (((lf ls 1).xs).length)) (
   .ite (decide (((lf ls 0).fst).toInt ≤ (((rd ((lf ls 1).xs) ((IntKind.i64.wrap ((((lf ls 1).xs).length : Int) - (1 : Int))).toNat)).snd).fst).toInt)) (
    .ite (inb (IntKind.i64.wrap ((((lf ls 1).xs).length : Int) - (1 : Int))) (((lf ls 1).xs).length)) (
     .ite (inb (IntKind.i64.wrap ((((lf ls 1).xs).length : Int) - (1 : Int))) (((lf ls 1).xs).length)) (
      .ret (0, [.list ((lf ls 1).isNil) (((lf ls 1).xs).set ((IntKind.i64.wrap ((((lf ls 1).xs).length : Int) - (1 : Int))).toNat) (.pair ((rd ((lf ls 1).xs) ((IntKind.i64.wrap ((((lf ls 1).xs).length : Int) - (1 : Int))).toNat)).fst) (.pair (.int .i64 (mmx true ((((rd ((lf ls 1).xs) ((IntKind.i64.wrap ((((lf ls 1).xs).length : Int) - (1 : Int))).toNat)).snd).fst).toInt) ((((lf ls 0).snd).fst).toInt))) (((rd ((lf ls 1).xs) ((IntKind.i64.wrap ((((lf ls 1).xs).length : Int) - (1 : Int))).toNat)).snd).snd))))])) (
      .fail)) (
     .fail)) (
    .ite (decide ((((lf ls 1).xs).length + 1) * 16 ≤ 140737488355328)) (
     .ret (0, [.list (((lf ls 1).isNil) && false) (((lf ls 1).xs) ++ [lf ls 0])])) (
     .fail))) (
   .fail)) (
  .ite (decide ((((lf ls 1).xs).length + 1) * 16 ≤ 140737488355328)) (
   .ret (0, [.list (((lf ls 1).isNil) && false) (((lf ls 1).xs) ++ [lf ls 0])])) (
   .fail))
noncomputable def f48_t (ps : List P) : Tree (Nat × List P) :=
 .loop ((f48_s1 [lf ps 1, .list ((lf ps 0).isNil) ((lf ps 0).xs)]).run some) fun y1 =>
  .ite (Nat.beq y1.1 0) (
   .ret (0, [.list ((lf y1.2 0).isNil) ((lf y1.2 0).xs)])) (
   .fail)
noncomputable def f48_v (ps : List P) : Option (Nat × List P) := (f48_t ps).run some
noncomputable def f48_e : EntD := ⟨48, [.own (.pair (.int .i64) (.pair (.int .i64) .unit)), .imm (.pair (.int .i64) (.pair (.int .i64) .unit))], f48_v, [fun ps ls qs => ⟨[.own (ls.getD 2029 0) (.pair (.int .i64) (.pair (.int .i64) .unit)) (lf qs 0).isNil (lf qs 0).xs], [.u, .imm (.pair (.int .i64) (.pair (.int .i64) .unit)) (lf ps 1)]⟩]⟩
noncomputable def f48_u : List Cu := [.cut 1 f48_k1 f48_o1 f48_s1]
noncomputable def f48_c : Cx := ⟨Try.prog, envOf [], 38, lOf f48_u⟩
noncomputable def f48_b : Code := match Try.f48.body with | some b => b | none => .skip
theorem f48_q1 : (Cu.cut 1 f48_k1 f48_o1 f48_s1).Ok f48_c f48_b := ⟨by kernel_rfl, fun ls Kx => by kernel_rfl⟩
theorem f48_x (ps : List P) (ls : List Nat) : execFn f48_c 48 f48_e.tm (explF ps 2 0) ls = (f48_t ps).run fun q => altR (f48_e.res.map fun f => f ps ls) 0 q some := by kernel_rfl
theorem f48_ok : OkEnt Try.prog f48_e := ent_ok (c := f48_c) (g := 48) (body := f48_b) (us := f48_u) (n := 2) (t := f48_t) (good_envOf _ trivial) Try.func48 rfl Try.call48 rfl ⟨f48_q1, trivial⟩ (by kernel_rfl) f48_x (fun _ => rfl)
/-! ### comprador/span.Of -/
noncomputable def f33_k506 : Sk := { t := [(6, .slf 6500 (.pair (.int .i64) (.pair (.int .i64) .unit))), (34, .slf 6501 (.pair (.int .i64) (.pair (.int .i64) .unit))), (35, .imm (.int .i64) .unit), (36, .imm (.int .i64) .unit)], h := [(6500, .arr (.pair (.int .i64) (.pair (.int .i64) .unit)) true []), (6501, .arr (.pair (.int .i64) (.pair (.int .i64) .unit)) true [])] }
noncomputable def f33_o506 : List (Out × Sk) := [((.exit 2), { t := [(6, .slf 6530 (.pair (.int .i64) (.pair (.int .i64) .unit)))], h := [(6530, .arr (.pair (.int .i64) (.pair (.int .i64) .unit)) true [])] })]
noncomputable def f33_s506 (ls : List P) : Tree Step :=
 .ite (decide ((lf ls 1).toInt < (lf ls 0).toInt)) (
  .ite (inb ((lf ls 1).toInt) (((lf ls 3).xs).length)) (
   .loop (f48_v [.list ((lf ls 2).isNil) ((lf ls 2).xs), rd ((lf ls 3).xs) (((lf ls 1).toInt).toNat)]) fun x3 =>
    .ite (Nat.beq x3.1 0) (
     .ret (.inl [lf ls 0, .int .i64 (IntKind.i64.wrap (((lf ls 1).toInt) + (1 : Int))), .list ((lf x3.2 0).isNil) ((lf x3.2 0).xs), .list ((lf ls 3).isNil) ((lf ls 3).xs)])) (
     .fail)) (
   .fail)) (
  .ret (.inr (0, [.list ((lf ls 2).isNil) ((lf ls 2).xs)])))
noncomputable def f33_k58 : Sk := { t := [(3, .slf 5100 (.pair (.int .i64) (.pair (.int .i64) .unit))), (9, .imm (.slice (.pair (.int .i64) (.pair (.int .i64) .unit))) .unit), (10, .imm (.int .i64) .unit), (11, .imm (.int .i64) .unit)], h := [(5100, .arr (.pair (.int .i64) (.pair (.int .i64) .unit)) true [])] }
noncomputable def f33_o58 : List (Out × Sk) := [((.exit 0), { t := [(3, .slf 5130 (.pair (.int .i64) (.pair (.int .i64) .unit)))], h := [(5130, .arr (.pair (.int .i64) (.pair (.int .i64) .unit)) true [])] })]
noncomputable def f33_s58 (ls : List P) : Tree Step :=
 .ite (decide ((lf ls 2).toInt < (lf ls 1).toInt)) (
  .ite (inb ((lf ls 2).toInt) (((lf ls 0).xs).length)) (
   .ite (decide (mmx true (((rd ((lf ls 0).xs) (((lf ls 2).toInt).toNat)).fst).toInt) (0 : Int) < mmx false ((((rd ((lf ls 0).xs) (((lf ls 2).toInt).toNat)).snd).fst).toInt) (1000000000 : Int))) (
    .ite (decide ((((lf ls 3).xs).length + 1) * 16 ≤ 140737488355328)) (
     .ret (.inl [lf ls 0, lf ls 1, .int .i64 (IntKind.i64.wrap (((lf ls 2).toInt) + (1 : Int))), .list (((lf ls 3).isNil) && false) (((lf ls 3).xs) ++ [.pair (.int .i64 (mmx true (((rd ((lf ls 0).xs) (((lf ls 2).toInt).toNat)).fst).toInt) (0 : Int))) (.pair (.int .i64 (mmx false ((((rd ((lf ls 0).xs) (((lf ls 2).toInt).toNat)).snd).fst).toInt) (1000000000 : Int))) .unit)])])) (
     .fail)) (
    .ret (.inl [lf ls 0, lf ls 1, .int .i64 (IntKind.i64.wrap (((lf ls 2).toInt) + (1 : Int))), .list ((lf ls 3).isNil) ((lf ls 3).xs)]))) (
   .fail)) (
  .ret (.inr (0, [.list ((lf ls 3).isNil) ((lf ls 3).xs)])))
noncomputable def f33_t (ps : List P) : Tree (Nat × List P) :=
 .loop (loopT f33_s58 FUEL [lf ps 0, .int .i64 (((lf ps 0).xs).length : Int), .int .i64 (0 : Int), .list true []]) fun y1 =>
  .ite (Nat.beq y1.1 0) (
   .loop (sort49_50_v [.list ((lf y1.2 0).isNil) ((lf y1.2 0).xs), .unit]) fun x2 =>
    .ite (Nat.beq x2.1 0) (
     .loop (loopT f33_s506 FUEL [.int .i64 (((lf x2.2 0).xs).length : Int), .int .i64 (0 : Int), .list true [], .list ((lf x2.2 0).isNil) ((lf x2.2 0).xs)]) fun y4 =>
      .ite (Nat.beq y4.1 0) (
       .ret (0, [.list ((lf y4.2 0).isNil) ((lf y4.2 0).xs)])) (
       .fail)) (
     .fail)) (
   .fail)
noncomputable def f33_v (ps : List P) : Option (Nat × List P) := (f33_t ps).run some
noncomputable def f33_e : EntD := ⟨33, [.imm (.slice (.pair (.int .i64) (.pair (.int .i64) .unit)))], f33_v, [fun ps ls qs => ⟨[.own (ls.getD 4529 0) (.pair (.int .i64) (.pair (.int .i64) .unit)) (lf qs 0).isNil (lf qs 0).xs], [.imm (.slice (.pair (.int .i64) (.pair (.int .i64) .unit))) (lf ps 0)]⟩]⟩
noncomputable def f33_u : List Cu := [.loop 506 f33_k506 f33_o506 f33_s506, .loop 58 f33_k58 f33_o58 f33_s58]
noncomputable def f33_c : Cx := ⟨Try.prog, envOf [f48_e, sort49_50_e], 45, lOf f33_u⟩
noncomputable def f33_b : Code := match Try.f33.body with | some b => b | none => .skip
theorem f33_q506 : (Cu.loop 506 f33_k506 f33_o506 f33_s506).Ok f33_c f33_b := ⟨by kernel_rfl, fun ls Kr Kx => by kernel_rfl⟩
theorem f33_q58 : (Cu.loop 58 f33_k58 f33_o58 f33_s58).Ok f33_c f33_b := ⟨by kernel_rfl, fun ls Kr Kx => by kernel_rfl⟩
theorem f33_x (ps : List P) (ls : List Nat) : execFn f33_c 33 f33_e.tm (explF ps 1 0) ls = (f33_t ps).run fun q => altR (f33_e.res.map fun f => f ps ls) 0 q some := by kernel_rfl
theorem f33_ok : OkEnt Try.prog f33_e := ent_ok (c := f33_c) (g := 33) (body := f33_b) (us := f33_u) (n := 1) (t := f33_t) (good_envOf _ ⟨f48_ok, sort49_50_ok, trivial⟩) Try.func33 rfl Try.call33 rfl ⟨f33_q506, f33_q58, trivial⟩ (by kernel_rfl) f33_x (fun _ => rfl)
/-! ### comprador/mani.Vers -/
noncomputable def f10_k58 : Sk := { t := [(3, .slf 5100 (.pair (.int .i64) (.pair (.int .i64) .unit))), (7, .imm (.slice (.pair (.int .i64) (.pair (.slice (.pair .str (.pair (.slice (.pair (.int .i64) (.pair (.int .i64) .unit))) .unit))) .unit))) .unit), (8, .imm (.int .i64) .unit), (9, .imm (.int .i64) .unit)], h := [(5100, .arr (.pair (.int .i64) (.pair (.int .i64) .unit)) true [])] }
noncomputable def f10_o58 : List (Out × Sk) := [((.exit 0), { t := [(3, .slf 5130 (.pair (.int .i64) (.pair (.int .i64) .unit)))], h := [(5130, .arr (.pair (.int .i64) (.pair (.int .i64) .unit)) true [])] })]
noncomputable def f10_s58 (ls : List P) : Tree Step :=
 .ite (decide ((lf ls 2).toInt < (lf ls 1).toInt)) (
  .ite (inb ((lf ls 2).toInt) (((lf ls 0).xs).length)) (
   .ite (decide ((((lf ls 3).xs).length + 1) * 16 ≤ 140737488355328)) (
    .ret (.inl [lf ls 0, lf ls 1, .int .i64 (IntKind.i64.wrap (((lf ls 2).toInt) + (1 : Int))), .list (((lf ls 3).isNil) && false) (((lf ls 3).xs) ++ [.pair ((rd ((lf ls 0).xs) (((lf ls 2).toInt).toNat)).fst) (.pair (.int .i64 (IntKind.i64.wrap ((((rd ((lf ls 0).xs) (((lf ls 2).toInt).toNat)).fst).toInt) + (1 : Int)))) .unit)])])) (
    .fail)) (
   .fail)) (
  .ret (.inr (0, [.list ((lf ls 3).isNil) ((lf ls 3).xs)])))
noncomputable def f10_t (ps : List P) : Tree (Nat × List P) :=
 .loop (loopT f10_s58 FUEL [((lf ps 0).snd).fst, .int .i64 (((((lf ps 0).snd).fst).xs).length : Int), .int .i64 (0 : Int), .list true []]) fun y1 =>
  .ite (Nat.beq y1.1 0) (
   .loop (f33_v [.list ((lf y1.2 0).isNil) ((lf y1.2 0).xs)]) fun x2 =>
    .ite (Nat.beq x2.1 0) (
     .ret (0, [.list ((lf x2.2 0).isNil) ((lf x2.2 0).xs)])) (
     .fail)) (
   .fail)
noncomputable def f10_v (ps : List P) : Option (Nat × List P) := (f10_t ps).run some
noncomputable def f10_e : EntD := ⟨10, [.imm (.pair .str (.pair (.slice (.pair (.int .i64) (.pair (.slice (.pair .str (.pair (.slice (.pair (.int .i64) (.pair (.int .i64) .unit))) .unit))) .unit))) .unit))], f10_v, [fun ps ls qs => ⟨[.own (ls.getD 100399 0) (.pair (.int .i64) (.pair (.int .i64) .unit)) (lf qs 0).isNil (lf qs 0).xs], [.imm (.pair .str (.pair (.slice (.pair (.int .i64) (.pair (.slice (.pair .str (.pair (.slice (.pair (.int .i64) (.pair (.int .i64) .unit))) .unit))) .unit))) .unit)) (lf ps 0)]⟩]⟩
noncomputable def f10_u : List Cu := [.loop 58 f10_k58 f10_o58 f10_s58]
noncomputable def f10_c : Cx := ⟨Try.prog, envOf [f33_e], 25, lOf f10_u⟩
noncomputable def f10_b : Code := match Try.f10.body with | some b => b | none => .skip
theorem f10_q58 : (Cu.loop 58 f10_k58 f10_o58 f10_s58).Ok f10_c f10_b := ⟨by kernel_rfl, fun ls Kr Kx => by kernel_rfl⟩
theorem f10_x (ps : List P) (ls : List Nat) : execFn f10_c 10 f10_e.tm (explF ps 1 0) ls = (f10_t ps).run fun q => altR (f10_e.res.map fun f => f ps ls) 0 q some := by kernel_rfl
theorem f10_ok : OkEnt Try.prog f10_e := ent_ok (c := f10_c) (g := 10) (body := f10_b) (us := f10_u) (n := 1) (t := f10_t) (good_envOf _ ⟨f33_ok, trivial⟩) Try.func10 rfl Try.call10 rfl ⟨f10_q58, trivial⟩ (by kernel_rfl) f10_x (fun _ => rfl)
/-! ### comprador/span.next -/
noncomputable def f47_t (ps : List P) : Tree (Nat × List P) :=
 .loop (f37_v [lf ps 0, lf ps 1]) fun x1 =>
  .ite (Nat.beq x1.1 0) (
   .ite (((lf x1.2 0).toInt) == (((lf ps 0).xs).length : Int)) (
    .ret (0, [.int .i64 (1000000000 : Int)])) (
    .ite (inb ((lf x1.2 0).toInt) (((lf ps 0).xs).length)) (
     .ite (decide (((rd ((lf ps 0).xs) (((lf x1.2 0).toInt).toNat)).fst).toInt > (lf ps 1).toInt)) (
      .ite (inb ((lf x1.2 0).toInt) (((lf ps 0).xs).length)) (
       .ret (0, [(rd ((lf ps 0).xs) (((lf x1.2 0).toInt).toNat)).fst])) (
       .fail)) (
      .ite (inb ((lf x1.2 0).toInt) (((lf ps 0).xs).length)) (
       .ret (0, [((rd ((lf ps 0).xs) (((lf x1.2 0).toInt).toNat)).snd).fst])) (
       .fail))) (
     .fail))) (
   .fail)
noncomputable def f47_v (ps : List P) : Option (Nat × List P) := (f47_t ps).run some
noncomputable def f47_e : EntD := ⟨47, [.imm (.slice (.pair (.int .i64) (.pair (.int .i64) .unit))), .imm (.int .i64)], f47_v, [fun ps ls qs => ⟨[.imm (.int .i64) (lf qs 0)], [.imm (.slice (.pair (.int .i64) (.pair (.int .i64) .unit))) (lf ps 0), .imm (.int .i64) (lf ps 1)]⟩]⟩
noncomputable def f47_u : List Cu := []
noncomputable def f47_c : Cx := ⟨Try.prog, envOf [f37_e], 32, lOf f47_u⟩
noncomputable def f47_b : Code := match Try.f47.body with | some b => b | none => .skip
theorem f47_x (ps : List P) (ls : List Nat) : execFn f47_c 47 f47_e.tm (explF ps 2 0) ls = (f47_t ps).run fun q => altR (f47_e.res.map fun f => f ps ls) 0 q some := by kernel_rfl
theorem f47_ok : OkEnt Try.prog f47_e := ent_ok (c := f47_c) (g := 47) (body := f47_b) (us := f47_u) (n := 2) (t := f47_t) (good_envOf _ ⟨f37_ok, trivial⟩) Try.func47 rfl Try.call47 rfl trivial (by kernel_rfl) f47_x (fun _ => rfl)
/-! ### comprador/span.Meet$1 -/
noncomputable def f32_t (ps : List P) : Tree (Nat × List P) :=
 .ite ((lf ps 0).toBool) (
  .ret (0, [lf ps 1])) (
  .ret (0, [.bool false]))
noncomputable def f32_v (ps : List P) : Option (Nat × List P) := (f32_t ps).run some
noncomputable def f32_e : EntD := ⟨32, [.imm .bool, .imm .bool], f32_v, [fun ps ls qs => ⟨[.imm .bool (lf qs 0)], [.imm .bool (lf ps 0), .imm .bool (lf ps 1)]⟩]⟩
noncomputable def f32_u : List Cu := []
noncomputable def f32_c : Cx := ⟨Try.prog, envOf [], 9, lOf f32_u⟩
noncomputable def f32_b : Code := match Try.f32.body with | some b => b | none => .skip
theorem f32_x (ps : List P) (ls : List Nat) : execFn f32_c 32 f32_e.tm (explF ps 2 0) ls = (f32_t ps).run fun q => altR (f32_e.res.map fun f => f ps ls) 0 q some := by kernel_rfl
theorem f32_ok : OkEnt Try.prog f32_e := ent_ok (c := f32_c) (g := 32) (body := f32_b) (us := f32_u) (n := 2) (t := f32_t) (good_envOf _ trivial) Try.func32 rfl Try.call32 rfl trivial (by kernel_rfl) f32_x (fun _ => rfl)
/-! ### comprador/span.kept -/
noncomputable def f31_k58 : Sk := { t := [(0, .imm (.slice (.pair (.int .i64) (.pair (.int .i64) .unit))) .unit), (1, .imm (.slice (.pair (.int .i64) (.pair (.int .i64) .unit))) .unit), (2, .fn 32 (.imm .unit .unit)), (7, .slf 5100 (.pair (.int .i64) (.pair (.int .i64) .unit))), (8, .imm (.int .i64) .unit)], h := [(5100, .arr (.pair (.int .i64) (.pair (.int .i64) .unit)) true [])] }
noncomputable def f31_o58 : List (Out × Sk) := [((.exit 0), { t := [(7, .slf 5130 (.pair (.int .i64) (.pair (.int .i64) .unit)))], h := [(5130, .arr (.pair (.int .i64) (.pair (.int .i64) .unit)) true [])] })]
noncomputable def f31_s58 (ls : List P) : Tree Step :=
 .ite (decide ((lf ls 3).toInt < (1000000000 : Int))) (
  .loop (f47_v [lf ls 0, lf ls 3]) fun x1 =>
   .ite (Nat.beq x1.1 0) (
    .loop (f47_v [lf ls 1, lf ls 3]) fun x2 =>
     .ite (Nat.beq x2.1 0) (
      .loop (f15_v [lf ls 0, lf ls 3]) fun x3 =>
       .ite (Nat.beq x3.1 0) (
        .loop (f15_v [lf ls 1, lf ls 3]) fun x4 =>
         .ite (Nat.beq x4.1 0) (
          .loop (f32_v [lf x3.2 0, lf x4.2 0]) fun x5 =>
           .ite (Nat.beq x5.1 0) (
            .ite ((lf x5.2 0).toBool) (
             .loop (f48_v [.list ((lf ls 4).isNil) ((lf ls 4).xs), .pair (lf ls 3) (.pair (.int .i64 (mmx false ((lf x1.2 0).toInt) ((lf x2.2 0).toInt))) .unit)]) fun x6 =>
              .ite (Nat.beq x6.1 0) (
               .ret (.inl [lf ls 0, lf ls 1, lf ls 2, .int .i64 (mmx false ((lf x1.2 0).toInt) ((lf x2.2 0).toInt)), .list ((lf x6.2 0).isNil) ((lf x6.2 0).xs)])) (
               .fail)) (
             .ret (.inl [lf ls 0, lf ls 1, lf ls 2, .int .i64 (mmx false ((lf x1.2 0).toInt) ((lf x2.2 0).toInt)), .list ((lf ls 4).isNil) ((lf ls 4).xs)]))) (
            .fail)) (
          .fail)) (
        .fail)) (
      .fail)) (
    .fail)) (
  .ret (.inr (0, [.list ((lf ls 4).isNil) ((lf ls 4).xs)])))
noncomputable def f31_t (ps : List P) : Tree (Nat × List P) :=
 .loop (loopT f31_s58 FUEL [lf ps 0, lf ps 1, lf ps 2, .int .i64 (0 : Int), .list true []]) fun y7 =>
  .ite (Nat.beq y7.1 0) (
   .ret (0, [.list ((lf y7.2 0).isNil) ((lf y7.2 0).xs)])) (
   .fail)
noncomputable def f31_v (ps : List P) : Option (Nat × List P) := (f31_t ps).run some
noncomputable def f31_e : EntD := ⟨31, [.imm (.slice (.pair (.int .i64) (.pair (.int .i64) .unit))), .imm (.slice (.pair (.int .i64) (.pair (.int .i64) .unit))), .fn 32 (.imm .unit)], f31_v, [fun ps ls qs => ⟨[.own (ls.getD 3129 0) (.pair (.int .i64) (.pair (.int .i64) .unit)) (lf qs 0).isNil (lf qs 0).xs], [.imm (.slice (.pair (.int .i64) (.pair (.int .i64) .unit))) (lf ps 0), .imm (.slice (.pair (.int .i64) (.pair (.int .i64) .unit))) (lf ps 1), .fn 32 (.imm .unit (lf ps 2))]⟩]⟩
noncomputable def f31_u : List Cu := [.loop 58 f31_k58 f31_o58 f31_s58]
noncomputable def f31_c : Cx := ⟨Try.prog, envOf [f15_e, f32_e, f47_e, f48_e], 34, lOf f31_u⟩
noncomputable def f31_b : Code := match Try.f31.body with | some b => b | none => .skip
theorem f31_q58 : (Cu.loop 58 f31_k58 f31_o58 f31_s58).Ok f31_c f31_b := ⟨by kernel_rfl, fun ls Kr Kx => by kernel_rfl⟩
theorem f31_x (ps : List P) (ls : List Nat) : execFn f31_c 31 f31_e.tm (explF ps 3 0) ls = (f31_t ps).run fun q => altR (f31_e.res.map fun f => f ps ls) 0 q some := by kernel_rfl
theorem f31_ok : OkEnt Try.prog f31_e := ent_ok (c := f31_c) (g := 31) (body := f31_b) (us := f31_u) (n := 3) (t := f31_t) (good_envOf _ ⟨f15_ok, f32_ok, f47_ok, f48_ok, trivial⟩) Try.func31 rfl Try.call31 rfl ⟨f31_q58, trivial⟩ (by kernel_rfl) f31_x (fun _ => rfl)
/-! ### comprador/span.Meet -/
noncomputable def f9_t (ps : List P) : Tree (Nat × List P) :=
 .loop (f31_v [lf ps 0, lf ps 1, .unit]) fun x1 =>
  .ite (Nat.beq x1.1 0) (
   .ret (0, [.list ((lf x1.2 0).isNil) ((lf x1.2 0).xs)])) (
   .fail)
noncomputable def f9_v (ps : List P) : Option (Nat × List P) := (f9_t ps).run some
noncomputable def f9_e : EntD := ⟨9, [.imm (.slice (.pair (.int .i64) (.pair (.int .i64) .unit))), .imm (.slice (.pair (.int .i64) (.pair (.int .i64) .unit)))], f9_v, [fun ps ls qs => ⟨[.own (ls.getD 98699 0) (.pair (.int .i64) (.pair (.int .i64) .unit)) (lf qs 0).isNil (lf qs 0).xs], [.imm (.slice (.pair (.int .i64) (.pair (.int .i64) .unit))) (lf ps 0), .imm (.slice (.pair (.int .i64) (.pair (.int .i64) .unit))) (lf ps 1)]⟩]⟩
noncomputable def f9_u : List Cu := []
noncomputable def f9_c : Cx := ⟨Try.prog, envOf [f31_e], 8, lOf f9_u⟩
noncomputable def f9_b : Code := match Try.f9.body with | some b => b | none => .skip
theorem f9_x (ps : List P) (ls : List Nat) : execFn f9_c 9 f9_e.tm (explF ps 2 0) ls = (f9_t ps).run fun q => altR (f9_e.res.map fun f => f ps ls) 0 q some := by kernel_rfl
theorem f9_ok : OkEnt Try.prog f9_e := ent_ok (c := f9_c) (g := 9) (body := f9_b) (us := f9_u) (n := 2) (t := f9_t) (good_envOf _ ⟨f31_ok, trivial⟩) Try.func9 rfl Try.call9 rfl trivial (by kernel_rfl) f9_x (fun _ => rfl)
/-! ### comprador/span.Most -/
noncomputable def f12_t (ps : List P) : Tree (Nat × List P) :=
 .ite ((((lf ps 0).xs).length : Int) == (0 : Int)) (
  .ret (0, [.int .i64 (0 : Int), .bool false])) (
  .ite (inb (IntKind.i64.wrap ((((lf ps 0).xs).length : Int) - (1 : Int))) (((lf ps 0).xs).length)) (
   .ret (0, [.int .i64 (IntKind.i64.wrap (((((rd ((lf ps 0).xs) ((IntKind.i64.wrap ((((lf ps 0).xs).length : Int) - (1 : Int))).toNat)).snd).fst).toInt) - (1 : Int))), .bool true])) (
   .fail))
noncomputable def f12_v (ps : List P) : Option (Nat × List P) := (f12_t ps).run some
noncomputable def f12_e : EntD := ⟨12, [.imm (.slice (.pair (.int .i64) (.pair (.int .i64) .unit)))], f12_v, [fun ps ls qs => ⟨[.imm (.int .i64) (lf qs 0), .imm .bool (lf qs 1)], [.imm (.slice (.pair (.int .i64) (.pair (.int .i64) .unit))) (lf ps 0)]⟩]⟩
noncomputable def f12_u : List Cu := []
noncomputable def f12_c : Cx := ⟨Try.prog, envOf [], 15, lOf f12_u⟩
noncomputable def f12_b : Code := match Try.f12.body with | some b => b | none => .skip
theorem f12_x (ps : List P) (ls : List Nat) : execFn f12_c 12 f12_e.tm (explF ps 1 0) ls = (f12_t ps).run fun q => altR (f12_e.res.map fun f => f ps ls) 0 q some := by kernel_rfl
theorem f12_ok : OkEnt Try.prog f12_e := ent_ok (c := f12_c) (g := 12) (body := f12_b) (us := f12_u) (n := 1) (t := f12_t) (good_envOf _ trivial) Try.func12 rfl Try.call12 rfl trivial (by kernel_rfl) f12_x (fun _ => rfl)
/-! ### comprador/mani.find$1 -/
noncomputable def f54_t (ps : List P) : Tree (Nat × List P) :=
 .ret (0, [.int .i64 (IntKind.i64.wrap ((((lf ps 0).fst).toInt) - ((lf ps 1).toInt)))])
noncomputable def f54_v (ps : List P) : Option (Nat × List P) := (f54_t ps).run some
noncomputable def f54_e : EntD := ⟨54, [.imm (.pair (.int .i64) (.pair (.slice (.pair .str (.pair (.slice (.pair (.int .i64) (.pair (.int .i64) .unit))) .unit))) .unit)), .imm (.int .i64)], f54_v, [fun ps ls qs => ⟨[.imm (.int .i64) (lf qs 0)], [.imm (.pair (.int .i64) (.pair (.slice (.pair .str (.pair (.slice (.pair (.int .i64) (.pair (.int .i64) .unit))) .unit))) .unit)) (lf ps 0), .imm (.int .i64) (lf ps 1)]⟩]⟩
noncomputable def f54_u : List Cu := []
noncomputable def f54_c : Cx := ⟨Try.prog, envOf [], 9, lOf f54_u⟩
noncomputable def f54_b : Code := match Try.f54.body with | some b => b | none => .skip
theorem f54_x (ps : List P) (ls : List Nat) : execFn f54_c 54 f54_e.tm (explF ps 2 0) ls = (f54_t ps).run fun q => altR (f54_e.res.map fun f => f ps ls) 0 q some := by kernel_rfl
theorem f54_ok : OkEnt Try.prog f54_e := ent_ok (c := f54_c) (g := 54) (body := f54_b) (us := f54_u) (n := 2) (t := f54_t) (good_envOf _ trivial) Try.func54 rfl Try.call54 rfl trivial (by kernel_rfl) f54_x (fun _ => rfl)
/-! ### slices.BinarySearchFunc[[]comprador/api.Release,comprador/api.Release,int] -/
noncomputable def f53_k60 : Sk := { t := [(0, .imm (.slice (.pair (.int .i64) (.pair (.slice (.pair .str (.pair (.slice (.pair (.int .i64) (.pair (.int .i64) .unit))) .unit))) .unit))) .unit), (1, .imm (.int .i64) .unit), (2, .fn 54 (.imm .unit .unit)), (8, .imm (.int .i64) .unit), (9, .imm (.int .i64) .unit), (10, .imm (.int .i64) .unit)], h := [] }
noncomputable def f53_o60 : List (Out × Sk) := [((.exit 0), { t := [(0, .imm (.slice (.pair (.int .i64) (.pair (.slice (.pair .str (.pair (.slice (.pair (.int .i64) (.pair (.int .i64) .unit))) .unit))) .unit))) .unit), (1, .imm (.int .i64) .unit), (2, .fn 54 (.imm .unit .unit)), (8, .imm (.int .i64) .unit), (9, .imm (.int .i64) .unit)], h := [] })]
noncomputable def f53_s60 (ls : List P) : Tree Step :=
 .ite (decide ((lf ls 4).toInt < (lf ls 5).toInt)) (
  .ite (inb (IntKind.i64.wrap ((IntKind.u64.wrap (IntKind.i64.wrap (((lf ls 4).toInt) + ((lf ls 5).toInt)))).fdiv (2 ^ (1)))) (((lf ls 0).xs).length)) (
   .loop (f54_v [rd ((lf ls 0).xs) ((IntKind.i64.wrap ((IntKind.u64.wrap (IntKind.i64.wrap (((lf ls 4).toInt) + ((lf ls 5).toInt)))).fdiv (2 ^ (1)))).toNat), lf ls 1]) fun x1 =>
    .ite (Nat.beq x1.1 0) (
     .ite (decide ((lf x1.2 0).toInt < (0 : Int))) (
      .ret (.inl [lf ls 0, lf ls 1, lf ls 2, lf ls 3, .int .i64 (IntKind.i64.wrap ((IntKind.i64.wrap ((IntKind.u64.wrap (IntKind.i64.wrap (((lf ls 4).toInt) + ((lf ls 5).toInt)))).fdiv (2 ^ (1)))) + (1 : Int))), lf ls 5])) (
      .ret (.inl [lf ls 0, lf ls 1, lf ls 2, lf ls 3, lf ls 4, .int .i64 (IntKind.i64.wrap ((IntKind.u64.wrap (IntKind.i64.wrap (((lf ls 4).toInt) + ((lf ls 5).toInt)))).fdiv (2 ^ (1))))]))) (
     .fail)) (
   .fail)) (
  .ret (.inr (0, [lf ls 0, lf ls 1, lf ls 2, lf ls 3, lf ls 4])))
noncomputable def f53_t (ps : List P) : Tree (Nat × List P) :=
 .loop (loopT f53_s60 FUEL [lf ps 0, lf ps 1, lf ps 2, .int .i64 (((lf ps 0).xs).length : Int), .int .i64 (0 : Int), .int .i64 (((lf ps 0).xs).length : Int)]) fun y2 =>
  .ite (Nat.beq y2.1 0) (
   .ite (decide ((lf y2.2 4).toInt < (lf y2.2 3).toInt)) (
    .ite (inb ((lf y2.2 4).toInt) (((lf y2.2 0).xs).length)) (
     .loop (f54_v [rd ((lf y2.2 0).xs) (((lf y2.2 4).toInt).toNat), lf y2.2 1]) fun x3 =>
      .ite (Nat.beq x3.1 0) (
       .ret (0, [lf y2.2 4, .bool (((lf x3.2 0).toInt) == (0 : Int))])) (
       .fail)) (
     .fail)) (
    .ret (0, [lf y2.2 4, .bool false]))) (
   .fail)
noncomputable def f53_v (ps : List P) : Option (Nat × List P) := (f53_t ps).run some
noncomputable def f53_e : EntD := ⟨53, [.imm (.slice (.pair (.int .i64) (.pair (.slice (.pair .str (.pair (.slice (.pair (.int .i64) (.pair (.int .i64) .unit))) .unit))) .unit))), .imm (.int .i64), .fn 54 (.imm .unit)], f53_v, [fun ps ls qs => ⟨[.imm (.int .i64) (lf qs 0), .imm .bool (lf qs 1)], [.imm (.slice (.pair (.int .i64) (.pair (.slice (.pair .str (.pair (.slice (.pair (.int .i64) (.pair (.int .i64) .unit))) .unit))) .unit))) (lf ps 0), .imm (.int .i64) (lf ps 1), .fn 54 (.imm .unit (lf ps 2))]⟩]⟩
noncomputable def f53_u : List Cu := [.loop 60 f53_k60 f53_o60 f53_s60]
noncomputable def f53_c : Cx := ⟨Try.prog, envOf [f54_e], 49, lOf f53_u⟩
noncomputable def f53_b : Code := match Try.f53.body with | some b => b | none => .skip
theorem f53_q60 : (Cu.loop 60 f53_k60 f53_o60 f53_s60).Ok f53_c f53_b := ⟨by kernel_rfl, fun ls Kr Kx => by kernel_rfl⟩
theorem f53_x (ps : List P) (ls : List Nat) : execFn f53_c 53 f53_e.tm (explF ps 3 0) ls = (f53_t ps).run fun q => altR (f53_e.res.map fun f => f ps ls) 0 q some := by kernel_rfl
theorem f53_ok : OkEnt Try.prog f53_e := ent_ok (c := f53_c) (g := 53) (body := f53_b) (us := f53_u) (n := 3) (t := f53_t) (good_envOf _ ⟨f54_ok, trivial⟩) Try.func53 rfl Try.call53 rfl ⟨f53_q60, trivial⟩ (by kernel_rfl) f53_x (fun _ => rfl)
/-! ### comprador/mani.find -/
noncomputable def f35_t (ps : List P) : Tree (Nat × List P) :=
 .loop (f53_v [((lf ps 0).snd).fst, lf ps 1, .unit]) fun x1 =>
  .ite (Nat.beq x1.1 0) (
   .ret (0, [lf x1.2 0, lf x1.2 1])) (
   .fail)
noncomputable def f35_v (ps : List P) : Option (Nat × List P) := (f35_t ps).run some
noncomputable def f35_e : EntD := ⟨35, [.imm (.pair .str (.pair (.slice (.pair (.int .i64) (.pair (.slice (.pair .str (.pair (.slice (.pair (.int .i64) (.pair (.int .i64) .unit))) .unit))) .unit))) .unit)), .imm (.int .i64)], f35_v, [fun ps ls qs => ⟨[.imm (.int .i64) (lf qs 0), .imm .bool (lf qs 1)], [.imm (.pair .str (.pair (.slice (.pair (.int .i64) (.pair (.slice (.pair .str (.pair (.slice (.pair (.int .i64) (.pair (.int .i64) .unit))) .unit))) .unit))) .unit)) (lf ps 0), .imm (.int .i64) (lf ps 1)]⟩]⟩
noncomputable def f35_u : List Cu := []
noncomputable def f35_c : Cx := ⟨Try.prog, envOf [f53_e], 12, lOf f35_u⟩
noncomputable def f35_b : Code := match Try.f35.body with | some b => b | none => .skip
theorem f35_x (ps : List P) (ls : List Nat) : execFn f35_c 35 f35_e.tm (explF ps 2 0) ls = (f35_t ps).run fun q => altR (f35_e.res.map fun f => f ps ls) 0 q some := by kernel_rfl
theorem f35_ok : OkEnt Try.prog f35_e := ent_ok (c := f35_c) (g := 35) (body := f35_b) (us := f35_u) (n := 2) (t := f35_t) (good_envOf _ ⟨f53_ok, trivial⟩) Try.func35 rfl Try.call35 rfl trivial (by kernel_rfl) f35_x (fun _ => rfl)
/-! ### slices.Clone[[]comprador/api.Span,comprador/api.Span] -/
noncomputable def f55_k1 : Sk := { t := [(0, .imm (.slice (.pair (.int .i64) (.pair (.int .i64) .unit))) .unit)], h := [] }
noncomputable def f55_o1 : List (Out × Sk) := [(.ret, { t := [(2, .slf 4030 (.pair (.int .i64) (.pair (.int .i64) .unit)))], h := [(4030, .arr (.pair (.int .i64) (.pair (.int .i64) .unit)) true [])] })]
noncomputable def f55_s1 (ls : List P) : Tree (Nat × List P) :=
 .ite ((lf ls 0).isNil) (
  .ret (0, [.list true []])) (
  .ite (decide ((0 + ((lf ls 0).xs).length) * 16 ≤ 140737488355328)) (
   .ret (0, [.list false ((lf ls 0).xs)])) (
   .fail))
noncomputable def f55_t (ps : List P) : Tree (Nat × List P) :=
 .loop ((f55_s1 [lf ps 0]).run some) fun y1 =>
  .ite (Nat.beq y1.1 0) (
   .ret (0, [.list ((lf y1.2 0).isNil) ((lf y1.2 0).xs)])) (
   .fail)
noncomputable def f55_v (ps : List P) : Option (Nat × List P) := (f55_t ps).run some
noncomputable def f55_e : EntD := ⟨55, [.imm (.slice (.pair (.int .i64) (.pair (.int .i64) .unit)))], f55_v, [fun ps ls qs => ⟨[.own (ls.getD 2029 0) (.pair (.int .i64) (.pair (.int .i64) .unit)) (lf qs 0).isNil (lf qs 0).xs], [.imm (.slice (.pair (.int .i64) (.pair (.int .i64) .unit))) (lf ps 0)]⟩]⟩
noncomputable def f55_u : List Cu := [.cut 1 f55_k1 f55_o1 f55_s1]
noncomputable def f55_c : Cx := ⟨Try.prog, envOf [], 8, lOf f55_u⟩
noncomputable def f55_b : Code := match Try.f55.body with | some b => b | none => .skip
theorem f55_q1 : (Cu.cut 1 f55_k1 f55_o1 f55_s1).Ok f55_c f55_b := ⟨by kernel_rfl, fun ls Kx => by kernel_rfl⟩
theorem f55_x (ps : List P) (ls : List Nat) : execFn f55_c 55 f55_e.tm (explF ps 1 0) ls = (f55_t ps).run fun q => altR (f55_e.res.map fun f => f ps ls) 0 q some := by kernel_rfl
theorem f55_ok : OkEnt Try.prog f55_e := ent_ok (c := f55_c) (g := 55) (body := f55_b) (us := f55_u) (n := 1) (t := f55_t) (good_envOf _ trivial) Try.func55 rfl Try.call55 rfl ⟨f55_q1, trivial⟩ (by kernel_rfl) f55_x (fun _ => rfl)
/-! ### comprador/mani.cloned -/
noncomputable def f36_k58 : Sk := { t := [(2, .ref 5100 [] (.pair (.int .i64) (.pair (.slice (.pair .str (.pair (.slice (.pair (.int .i64) (.pair (.int .i64) .unit))) .unit))) .unit))), (3, .ref 5101 [] (.pair (.int .i64) (.pair (.slice (.pair .str (.pair (.slice (.pair (.int .i64) (.pair (.int .i64) .unit))) .unit))) .unit))), (10, .imm (.slice (.pair .str (.pair (.slice (.pair (.int .i64) (.pair (.int .i64) .unit))) .unit))) .unit), (11, .imm (.int .i64) .unit), (12, .imm (.int .i64) .unit)], h := [(5100, .obj (.pair (.int .i64) (.pair (.slice (.pair .str (.pair (.slice (.pair (.int .i64) (.pair (.int .i64) .unit))) .unit))) .unit)) (.imm (.pair (.int .i64) (.pair (.slice (.pair .str (.pair (.slice (.pair (.int .i64) (.pair (.int .i64) .unit))) .unit))) .unit)) .unit)), (5101, .obj (.pair (.int .i64) (.pair (.slice (.pair .str (.pair (.slice (.pair (.int .i64) (.pair (.int .i64) .unit))) .unit))) .unit)) (.pair (.imm (.int .i64) .unit) (.pair (.slf 5102 (.pair .str (.pair (.slice (.pair (.int .i64) (.pair (.int .i64) .unit))) .unit))) (.imm .unit .unit)))), (5102, .arr (.pair .str (.pair (.slice (.pair (.int .i64) (.pair (.int .i64) .unit))) .unit)) true [])] }
noncomputable def f36_o58 : List (Out × Sk) := [((.exit 0), { t := [(2, .ref 5130 [] (.pair (.int .i64) (.pair (.slice (.pair .str (.pair (.slice (.pair (.int .i64) (.pair (.int .i64) .unit))) .unit))) .unit))), (3, .ref 5131 [] (.pair (.int .i64) (.pair (.slice (.pair .str (.pair (.slice (.pair (.int .i64) (.pair (.int .i64) .unit))) .unit))) .unit)))], h := [(5130, .obj (.pair (.int .i64) (.pair (.slice (.pair .str (.pair (.slice (.pair (.int .i64) (.pair (.int .i64) .unit))) .unit))) .unit)) (.imm (.pair (.int .i64) (.pair (.slice (.pair .str (.pair (.slice (.pair (.int .i64) (.pair (.int .i64) .unit))) .unit))) .unit)) .unit)), (5131, .obj (.pair (.int .i64) (.pair (.slice (.pair .str (.pair (.slice (.pair (.int .i64) (.pair (.int .i64) .unit))) .unit))) .unit)) (.pair (.imm (.int .i64) .unit) (.pair (.slf 5132 (.pair .str (.pair (.slice (.pair (.int .i64) (.pair (.int .i64) .unit))) .unit))) (.imm .unit .unit)))), (5132, .arr (.pair .str (.pair (.slice (.pair (.int .i64) (.pair (.int .i64) .unit))) .unit)) true [])] })]
noncomputable def f36_s58 (ls : List P) : Tree Step :=
 .ite (decide ((lf ls 2).toInt < (lf ls 1).toInt)) (
  .ite (inb ((lf ls 2).toInt) (((lf ls 0).xs).length)) (
   .loop (f55_v [((rd ((lf ls 0).xs) (((lf ls 2).toInt).toNat)).snd).fst]) fun x1 =>
    .ite (Nat.beq x1.1 0) (
     .ite (decide ((((lf ls 6).xs).length + 1) * 40 ≤ 140737488355328)) (
      .ret (.inl [lf ls 0, lf ls 1, .int .i64 (IntKind.i64.wrap (((lf ls 2).toInt) + (1 : Int))), lf ls 3, lf ls 4, lf ls 5, .list (((lf ls 6).isNil) && false) (((lf ls 6).xs) ++ [.pair ((rd ((lf ls 0).xs) (((lf ls 2).toInt).toNat)).fst) (.pair (.list ((lf x1.2 0).isNil) ((lf x1.2 0).xs)) .unit)])])) (
      .fail)) (
     .fail)) (
   .fail)) (
  .ret (.inr (0, [lf ls 3, lf ls 4, lf ls 5, .list ((lf ls 6).isNil) ((lf ls 6).xs)])))
noncomputable def f36_t (ps : List P) : Tree (Nat × List P) :=
 .loop (loopT f36_s58 FUEL [((lf ps 0).snd).fst, .int .i64 (((((lf ps 0).snd).fst).xs).length : Int), .int .i64 (0 : Int), .pair (.int .i64 (0 : Int)) (.pair (.list true []) .unit), (lf ps 0).fst, .unit, .list true []]) fun y2 =>
  .ite (Nat.beq y2.1 0) (
   .ret (0, [lf y2.2 1, .list ((lf y2.2 3).isNil) ((lf y2.2 3).xs), lf y2.2 2])) (
   .fail)
noncomputable def f36_v (ps : List P) : Option (Nat × List P) := (f36_t ps).run some
noncomputable def f36_e : EntD := ⟨36, [.imm (.pair (.int .i64) (.pair (.slice (.pair .str (.pair (.slice (.pair (.int .i64) (.pair (.int .i64) .unit))) .unit))) .unit))], f36_v, [fun ps ls qs => ⟨[.pair (.imm (.int .i64) (lf qs 0)) (.pair (.own (ls.getD 3131 0) (.pair .str (.pair (.slice (.pair (.int .i64) (.pair (.int .i64) .unit))) .unit)) (lf qs 1).isNil (lf qs 1).xs) (.imm .unit (lf qs 2)))], [.imm (.pair (.int .i64) (.pair (.slice (.pair .str (.pair (.slice (.pair (.int .i64) (.pair (.int .i64) .unit))) .unit))) .unit)) (lf ps 0)]⟩]⟩
noncomputable def f36_u : List Cu := [.loop 58 f36_k58 f36_o58 f36_s58]
noncomputable def f36_c : Cx := ⟨Try.prog, envOf [f55_e], 29, lOf f36_u⟩
noncomputable def f36_b : Code := match Try.f36.body with | some b => b | none => .skip
theorem f36_q58 : (Cu.loop 58 f36_k58 f36_o58 f36_s58).Ok f36_c f36_b := ⟨by kernel_rfl, fun ls Kr Kx => by kernel_rfl⟩
theorem f36_x (ps : List P) (ls : List Nat) : execFn f36_c 36 f36_e.tm (explF ps 1 0) ls = (f36_t ps).run fun q => altR (f36_e.res.map fun f => f ps ls) 0 q some := by kernel_rfl
theorem f36_ok : OkEnt Try.prog f36_e := ent_ok (c := f36_c) (g := 36) (body := f36_b) (us := f36_u) (n := 1) (t := f36_t) (good_envOf _ ⟨f55_ok, trivial⟩) Try.func36 rfl Try.call36 rfl ⟨f36_q58, trivial⟩ (by kernel_rfl) f36_x (fun _ => rfl)
end Go.Proofs.Ytihenfpnilliiaa
