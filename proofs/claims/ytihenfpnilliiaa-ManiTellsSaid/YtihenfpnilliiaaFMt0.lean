/- Functions: what each tells. Conditions: none. -/
import Derived.Test.YtihenfpnilliiaaFMts
open Go Go.Eng Go.Proofs
set_option pp.deepTerms true
set_option linter.unusedVariables false
namespace Go.Proofs.Ytihenfpnilliiaa
/-! ### comprador/compradorlaw08.Large -/
noncomputable def f28_k58 : Sk := { t := [(0, .imm (.slice (.pair .str (.pair (.slice (.pair (.int .i64) (.pair (.int .i64) .unit))) .unit))) .unit), (3, .imm (.int .i64) .unit)], h := [] }
noncomputable def f28_o58 : List (Out × Sk) := [(.ret, { t := [(2, .imm .bool .unit)], h := [] }), ((.exit 0), { t := [], h := [] })]
noncomputable def f28_s58 (ls : List P) : Tree Step :=
 .ite (decide ((lf ls 1).toInt < (((lf ls 0).xs).length : Int))) (
  .ite (inb ((lf ls 1).toInt) (((lf ls 0).xs).length)) (
   .ite (decide ((((((rd ((lf ls 0).xs) (((lf ls 1).toInt).toNat)).snd).fst).xs).length : Int) > (40 : Int))) (
    .ret (.inr (0, [.bool true]))) (
    .ite (inb ((lf ls 1).toInt) (((lf ls 0).xs).length)) (
     .ite (decide (((((rd ((lf ls 0).xs) (((lf ls 1).toInt).toNat)).fst).toStr).size : Int) > (100 : Int))) (
      .ret (.inr (0, [.bool true]))) (
      .ret (.inl [lf ls 0, .int .i64 (IntKind.i64.wrap (((lf ls 1).toInt) + (1 : Int)))]))) (
     .fail))) (
   .fail)) (
  .ret (.inr (1, [])))
noncomputable def f28_t (ps : List P) : Tree (Nat × List P) :=
 .ite (decide ((((lf ps 0).xs).length : Int) > (40 : Int))) (
  .ret (0, [.bool true])) (
  .loop (loopT f28_s58 FUEL [lf ps 0, .int .i64 (0 : Int)]) fun y1 =>
   .ite (Nat.beq y1.1 0) (
    .ret (0, [lf y1.2 0])) (
    .ite (Nat.beq y1.1 1) (
     .ret (0, [.bool false])) (
     .fail)))
noncomputable def f28_v (ps : List P) : Option (Nat × List P) := (f28_t ps).run some
noncomputable def f28_e : EntD := ⟨28, [.imm (.slice (.pair .str (.pair (.slice (.pair (.int .i64) (.pair (.int .i64) .unit))) .unit)))], f28_v, [fun ps ls qs => ⟨[.imm .bool (lf qs 0)], [.imm (.slice (.pair .str (.pair (.slice (.pair (.int .i64) (.pair (.int .i64) .unit))) .unit))) (lf ps 0)]⟩]⟩
noncomputable def f28_u : List Cu := [.loop 58 f28_k58 f28_o58 f28_s58]
noncomputable def f28_c : Cx := ⟨Try.prog, envOf [], 29, lOf f28_u⟩
noncomputable def f28_b : Code := match Try.f28.body with | some b => b | none => .skip
theorem f28_q58 : (Cu.loop 58 f28_k58 f28_o58 f28_s58).Ok f28_c f28_b := ⟨by kernel_rfl, fun ls Kr Kx => by kernel_rfl⟩
theorem f28_x (ps : List P) (ls : List Nat) : execFn f28_c 28 f28_e.tm (explF ps 1 0) ls = (f28_t ps).run fun q => altR (f28_e.res.map fun f => f ps ls) 0 q some := by kernel_rfl
theorem f28_ok : OkEnt Try.prog f28_e := ent_ok (c := f28_c) (g := 28) (body := f28_b) (us := f28_u) (n := 1) (t := f28_t) (good_envOf _ trivial) Try.func28 rfl Try.call28 rfl ⟨f28_q58, trivial⟩ (by kernel_rfl) f28_x (fun _ => rfl)
/-! ### comprador/compradorlaw09.Large -/
noncomputable def f5_k58 : Sk := { t := [(1, .ref 5700 [] (.pair .str (.pair (.slice (.pair (.int .i64) (.pair (.slice (.pair .str (.pair (.slice (.pair (.int .i64) (.pair (.int .i64) .unit))) .unit))) .unit))) .unit))), (3, .imm (.int .i64) .unit)], h := [(5700, .obj (.pair .str (.pair (.slice (.pair (.int .i64) (.pair (.slice (.pair .str (.pair (.slice (.pair (.int .i64) (.pair (.int .i64) .unit))) .unit))) .unit))) .unit)) (.imm (.pair .str (.pair (.slice (.pair (.int .i64) (.pair (.slice (.pair .str (.pair (.slice (.pair (.int .i64) (.pair (.int .i64) .unit))) .unit))) .unit))) .unit)) .unit))] }
noncomputable def f5_o58 : List (Out × Sk) := [(.ret, { t := [(2, .imm .bool .unit)], h := [] }), ((.exit 0), { t := [], h := [] })]
noncomputable def f5_s58 (ls : List P) : Tree Step :=
 .ite (decide ((lf ls 0).toInt < (((((lf ls 1).snd).fst).xs).length : Int))) (
  .ite (inb ((lf ls 0).toInt) (((((lf ls 1).snd).fst).xs).length)) (
   .loop (f28_v [((rd ((((lf ls 1).snd).fst).xs) (((lf ls 0).toInt).toNat)).snd).fst]) fun x1 =>
    .ite (Nat.beq x1.1 0) (
     .ite ((lf x1.2 0).toBool) (
      .ret (.inr (0, [.bool true]))) (
      .ret (.inl [.int .i64 (IntKind.i64.wrap (((lf ls 0).toInt) + (1 : Int))), lf ls 1]))) (
     .fail)) (
   .fail)) (
  .ret (.inr (1, [])))
noncomputable def f5_t (ps : List P) : Tree (Nat × List P) :=
 .ite (decide ((((((lf ps 0).snd).fst).xs).length : Int) > (30 : Int))) (
  .ret (0, [.bool true])) (
  .ite (decide (((((lf ps 0).fst).toStr).size : Int) > (200 : Int))) (
   .ret (0, [.bool true])) (
   .loop (loopT f5_s58 FUEL [.int .i64 (0 : Int), lf ps 0]) fun y2 =>
    .ite (Nat.beq y2.1 0) (
     .ret (0, [lf y2.2 0])) (
     .ite (Nat.beq y2.1 1) (
      .ret (0, [.bool false])) (
      .fail))))
noncomputable def f5_v (ps : List P) : Option (Nat × List P) := (f5_t ps).run some
noncomputable def f5_e : EntD := ⟨5, [.imm (.pair .str (.pair (.slice (.pair (.int .i64) (.pair (.slice (.pair .str (.pair (.slice (.pair (.int .i64) (.pair (.int .i64) .unit))) .unit))) .unit))) .unit))], f5_v, [fun ps ls qs => ⟨[.imm .bool (lf qs 0)], [.imm (.pair .str (.pair (.slice (.pair (.int .i64) (.pair (.slice (.pair .str (.pair (.slice (.pair (.int .i64) (.pair (.int .i64) .unit))) .unit))) .unit))) .unit)) (lf ps 0)]⟩]⟩
noncomputable def f5_u : List Cu := [.loop 58 f5_k58 f5_o58 f5_s58]
noncomputable def f5_c : Cx := ⟨Try.prog, envOf [f28_e], 28, lOf f5_u⟩
noncomputable def f5_b : Code := match Try.f5.body with | some b => b | none => .skip
theorem f5_q58 : (Cu.loop 58 f5_k58 f5_o58 f5_s58).Ok f5_c f5_b := ⟨by kernel_rfl, fun ls Kr Kx => by kernel_rfl⟩
theorem f5_x (ps : List P) (ls : List Nat) : execFn f5_c 5 f5_e.tm (explF ps 1 0) ls = (f5_t ps).run fun q => altR (f5_e.res.map fun f => f ps ls) 0 q some := by kernel_rfl
theorem f5_ok : OkEnt Try.prog f5_e := ent_ok (c := f5_c) (g := 5) (body := f5_b) (us := f5_u) (n := 1) (t := f5_t) (good_envOf _ ⟨f28_ok, trivial⟩) Try.func5 rfl Try.call5 rfl ⟨f5_q58, trivial⟩ (by kernel_rfl) f5_x (fun _ => rfl)
/-! ### comprador/mani.Newest -/
noncomputable def f11_t (ps : List P) : Tree (Nat × List P) :=
 .loop (down13_v [lf ps 0, lf ps 1]) fun x1 =>
  .ite (Nat.beq x1.1 0) (
   .ite ((((lf x1.2 0).xs).length : Int) == (0 : Int)) (
    .ret (0, [.int .i64 (0 : Int), .bool false])) (
    .ite (inb (0 : Int) (((lf x1.2 0).xs).length)) (
     .ret (0, [rd ((lf x1.2 0).xs) 0, .bool true])) (
     .fail))) (
   .fail)
noncomputable def f11_v (ps : List P) : Option (Nat × List P) := (f11_t ps).run some
noncomputable def f11_e : EntD := ⟨11, [.imm (.pair .str (.pair (.slice (.pair (.int .i64) (.pair (.slice (.pair .str (.pair (.slice (.pair (.int .i64) (.pair (.int .i64) .unit))) .unit))) .unit))) .unit)), .imm (.slice (.pair (.int .i64) (.pair (.int .i64) .unit)))], f11_v, [fun ps ls qs => ⟨[.imm (.int .i64) (lf qs 0), .imm .bool (lf qs 1)], [.imm (.pair .str (.pair (.slice (.pair (.int .i64) (.pair (.slice (.pair .str (.pair (.slice (.pair (.int .i64) (.pair (.int .i64) .unit))) .unit))) .unit))) .unit)) (lf ps 0), .imm (.slice (.pair (.int .i64) (.pair (.int .i64) .unit))) (lf ps 1)]⟩]⟩
noncomputable def f11_u : List Cu := []
noncomputable def f11_c : Cx := ⟨Try.prog, envOf [down13_e], 16, lOf f11_u⟩
noncomputable def f11_b : Code := match Try.f11.body with | some b => b | none => .skip
theorem f11_x (ps : List P) (ls : List Nat) : execFn f11_c 11 f11_e.tm (explF ps 2 0) ls = (f11_t ps).run fun q => altR (f11_e.res.map fun f => f ps ls) 0 q some := by kernel_rfl
theorem f11_ok : OkEnt Try.prog f11_e := ent_ok (c := f11_c) (g := 11) (body := f11_b) (us := f11_u) (n := 2) (t := f11_t) (good_envOf _ ⟨down13_ok, trivial⟩) Try.func11 rfl Try.call11 rfl trivial (by kernel_rfl) f11_x (fun _ => rfl)
/-! ### comprador/label.kind -/
noncomputable def f46_t (ps : List P) : Tree (Nat × List P) :=
 .ite (decide ((lf ps 0).toInt ≥ (97 : Int))) (
  .ite (decide ((lf ps 0).toInt ≤ (122 : Int))) (
   .ret (0, [.int .i64 (0 : Int)])) (
   .ite (decide ((lf ps 0).toInt ≥ (945 : Int))) (
    .ite (decide ((lf ps 0).toInt ≤ (969 : Int))) (
     .ret (0, [.int .i64 (1 : Int)])) (
     .ite (decide ((lf ps 0).toInt ≥ (48 : Int))) (
      .ite (decide ((lf ps 0).toInt ≤ (57 : Int))) (
       .ret (0, [.int .i64 (2 : Int)])) (
       .ite (((lf ps 0).toInt) == (45 : Int)) (
        .ret (0, [.int .i64 (3 : Int)])) (
        .ret (0, [.int .i64 (4 : Int)])))) (
      .ite (((lf ps 0).toInt) == (45 : Int)) (
       .ret (0, [.int .i64 (3 : Int)])) (
       .ret (0, [.int .i64 (4 : Int)]))))) (
    .ite (decide ((lf ps 0).toInt ≥ (48 : Int))) (
     .ite (decide ((lf ps 0).toInt ≤ (57 : Int))) (
      .ret (0, [.int .i64 (2 : Int)])) (
      .ite (((lf ps 0).toInt) == (45 : Int)) (
       .ret (0, [.int .i64 (3 : Int)])) (
       .ret (0, [.int .i64 (4 : Int)])))) (
     .ite (((lf ps 0).toInt) == (45 : Int)) (
      .ret (0, [.int .i64 (3 : Int)])) (
      .ret (0, [.int .i64 (4 : Int)])))))) (
  .ite (decide ((lf ps 0).toInt ≥ (945 : Int))) (
   .ite (decide ((lf ps 0).toInt ≤ (969 : Int))) (
    .ret (0, [.int .i64 (1 : Int)])) (
    .ite (decide ((lf ps 0).toInt ≥ (48 : Int))) (
     .ite (decide ((lf ps 0).toInt ≤ (57 : Int))) (
      .ret (0, [.int .i64 (2 : Int)])) (
      .ite (((lf ps 0).toInt) == (45 : Int)) (
       .ret (0, [.int .i64 (3 : Int)])) (
       .ret (0, [.int .i64 (4 : Int)])))) (
     .ite (((lf ps 0).toInt) == (45 : Int)) (
      .ret (0, [.int .i64 (3 : Int)])) (
      .ret (0, [.int .i64 (4 : Int)]))))) (
   .ite (decide ((lf ps 0).toInt ≥ (48 : Int))) (
    .ite (decide ((lf ps 0).toInt ≤ (57 : Int))) (
     .ret (0, [.int .i64 (2 : Int)])) (
     .ite (((lf ps 0).toInt) == (45 : Int)) (
      .ret (0, [.int .i64 (3 : Int)])) (
      .ret (0, [.int .i64 (4 : Int)])))) (
    .ite (((lf ps 0).toInt) == (45 : Int)) (
     .ret (0, [.int .i64 (3 : Int)])) (
     .ret (0, [.int .i64 (4 : Int)])))))
noncomputable def f46_v (ps : List P) : Option (Nat × List P) := (f46_t ps).run some
noncomputable def f46_e : EntD := ⟨46, [.imm (.int .i32)], f46_v, [fun ps ls qs => ⟨[.imm (.int .i64) (lf qs 0)], [.imm (.int .i32) (lf ps 0)]⟩]⟩
noncomputable def f46_u : List Cu := []
noncomputable def f46_c : Cx := ⟨Try.prog, envOf [], 27, lOf f46_u⟩
noncomputable def f46_b : Code := match Try.f46.body with | some b => b | none => .skip
theorem f46_x (ps : List P) (ls : List Nat) : execFn f46_c 46 f46_e.tm (explF ps 1 0) ls = (f46_t ps).run fun q => altR (f46_e.res.map fun f => f ps ls) 0 q some := by kernel_rfl
theorem f46_ok : OkEnt Try.prog f46_e := ent_ok (c := f46_c) (g := 46) (body := f46_b) (us := f46_u) (n := 1) (t := f46_t) (good_envOf _ trivial) Try.func46 rfl Try.call46 rfl trivial (by kernel_rfl) f46_x (fun _ => rfl)
/-! ### comprador/label.Fit -/
noncomputable def f30_k58 : Sk := { t := [(3, .imm (.int .i64) .unit), (8, .blk 5100 .it)], h := [(5100, .blk .it .unit)] }
noncomputable def f30_o58 : List (Out × Sk) := [(.ret, { t := [(2, .imm .bool .unit)], h := [] }), ((.exit 0), { t := [(3, .imm (.int .i64) .unit)], h := [] })]
noncomputable def f30_s58 (ls : List P) : Tree Step :=
 .ite (decide (((lf ls 1).snd).toInt < (((lf ls 1).fst).toStr).size)) (
  .loop (f46_v [.int .i32 (runeAt (((lf ls 1).fst).toStr) (((lf ls 1).snd).toInt))]) fun x1 =>
   .ite (Nat.beq x1.1 0) (
    .ite (decide ((lf x1.2 0).toInt > (3 : Int))) (
     .ret (.inr (0, [.bool false]))) (
     .ite (((lf ls 0).toInt) == (0 : Int)) (
      .ite (decide ((lf x1.2 0).toInt > (1 : Int))) (
       .ret (.inr (0, [.bool false]))) (
       .ite (((lf ls 0).toInt) == (12 : Int)) (
        .ret (.inr (0, [.bool false]))) (
        .ret (.inl [.int .i64 (IntKind.i64.wrap (((lf ls 0).toInt) + (1 : Int))), .pair (.str (((lf ls 1).fst).toStr)) (.int .i64 ((((lf ls 1).snd).toInt) + (runeLen (((lf ls 1).fst).toStr) (((lf ls 1).snd).toInt))))])))) (
      .ite (((lf ls 0).toInt) == (12 : Int)) (
       .ret (.inr (0, [.bool false]))) (
       .ret (.inl [.int .i64 (IntKind.i64.wrap (((lf ls 0).toInt) + (1 : Int))), .pair (.str (((lf ls 1).fst).toStr)) (.int .i64 ((((lf ls 1).snd).toInt) + (runeLen (((lf ls 1).fst).toStr) (((lf ls 1).snd).toInt))))]))))) (
    .fail)) (
  .ret (.inr (1, [lf ls 0])))
noncomputable def f30_t (ps : List P) : Tree (Nat × List P) :=
 .loop (loopT f30_s58 FUEL [.int .i64 (0 : Int), .pair (.str ((lf ps 0).toStr)) (.int .i64 (0 : Int))]) fun y2 =>
  .ite (Nat.beq y2.1 0) (
   .ret (0, [lf y2.2 0])) (
   .ite (Nat.beq y2.1 1) (
    .ret (0, [.bool (decide ((lf y2.2 0).toInt > (0 : Int)))])) (
    .fail))
noncomputable def f30_v (ps : List P) : Option (Nat × List P) := (f30_t ps).run some
noncomputable def f30_e : EntD := ⟨30, [.imm .str], f30_v, [fun ps ls qs => ⟨[.imm .bool (lf qs 0)], [.imm .str (lf ps 0)]⟩]⟩
noncomputable def f30_u : List Cu := [.loop 58 f30_k58 f30_o58 f30_s58]
noncomputable def f30_c : Cx := ⟨Try.prog, envOf [f46_e], 32, lOf f30_u⟩
noncomputable def f30_b : Code := match Try.f30.body with | some b => b | none => .skip
theorem f30_q58 : (Cu.loop 58 f30_k58 f30_o58 f30_s58).Ok f30_c f30_b := ⟨by kernel_rfl, fun ls Kr Kx => by kernel_rfl⟩
theorem f30_x (ps : List P) (ls : List Nat) : execFn f30_c 30 f30_e.tm (explF ps 1 0) ls = (f30_t ps).run fun q => altR (f30_e.res.map fun f => f ps ls) 0 q some := by kernel_rfl
theorem f30_ok : OkEnt Try.prog f30_e := ent_ok (c := f30_c) (g := 30) (body := f30_b) (us := f30_u) (n := 1) (t := f30_t) (good_envOf _ ⟨f46_ok, trivial⟩) Try.func30 rfl Try.call30 rfl ⟨f30_q58, trivial⟩ (by kernel_rfl) f30_x (fun _ => rfl)
/-! ### comprador/span.Check -/
noncomputable def f7_k58 : Sk := { t := [(3, .imm (.int .i64) .unit), (6, .imm (.slice (.pair (.int .i64) (.pair (.int .i64) .unit))) .unit), (7, .imm (.int .i64) .unit), (8, .imm (.int .i64) .unit)], h := [] }
noncomputable def f7_o58 : List (Out × Sk) := [(.ret, { t := [(2, .imm .bool .unit)], h := [] }), ((.exit 0), { t := [], h := [] })]
noncomputable def f7_s58 (ls : List P) : Tree Step :=
 .ite (decide ((lf ls 3).toInt < (lf ls 2).toInt)) (
  .ite (inb ((lf ls 3).toInt) (((lf ls 1).xs).length)) (
   .ite (decide (((rd ((lf ls 1).xs) (((lf ls 3).toInt).toNat)).fst).toInt ≤ (lf ls 0).toInt)) (
    .ret (.inr (0, [.bool false]))) (
    .ite (decide (((rd ((lf ls 1).xs) (((lf ls 3).toInt).toNat)).fst).toInt ≥ (((rd ((lf ls 1).xs) (((lf ls 3).toInt).toNat)).snd).fst).toInt)) (
     .ret (.inr (0, [.bool false]))) (
     .ite (decide ((((rd ((lf ls 1).xs) (((lf ls 3).toInt).toNat)).snd).fst).toInt > (1000000000 : Int))) (
      .ret (.inr (0, [.bool false]))) (
      .ret (.inl [((rd ((lf ls 1).xs) (((lf ls 3).toInt).toNat)).snd).fst, lf ls 1, lf ls 2, .int .i64 (IntKind.i64.wrap (((lf ls 3).toInt) + (1 : Int)))]))))) (
   .fail)) (
  .ret (.inr (1, [])))
noncomputable def f7_t (ps : List P) : Tree (Nat × List P) :=
 .loop (loopT f7_s58 FUEL [.int .i64 (-1 : Int), lf ps 0, .int .i64 (((lf ps 0).xs).length : Int), .int .i64 (0 : Int)]) fun y1 =>
  .ite (Nat.beq y1.1 0) (
   .ret (0, [lf y1.2 0])) (
   .ite (Nat.beq y1.1 1) (
    .ret (0, [.bool true])) (
    .fail))
noncomputable def f7_v (ps : List P) : Option (Nat × List P) := (f7_t ps).run some
noncomputable def f7_e : EntD := ⟨7, [.imm (.slice (.pair (.int .i64) (.pair (.int .i64) .unit)))], f7_v, [fun ps ls qs => ⟨[.imm .bool (lf qs 0)], [.imm (.slice (.pair (.int .i64) (.pair (.int .i64) .unit))) (lf ps 0)]⟩]⟩
noncomputable def f7_u : List Cu := [.loop 58 f7_k58 f7_o58 f7_s58]
noncomputable def f7_c : Cx := ⟨Try.prog, envOf [], 31, lOf f7_u⟩
noncomputable def f7_b : Code := match Try.f7.body with | some b => b | none => .skip
theorem f7_q58 : (Cu.loop 58 f7_k58 f7_o58 f7_s58).Ok f7_c f7_b := ⟨by kernel_rfl, fun ls Kr Kx => by kernel_rfl⟩
theorem f7_x (ps : List P) (ls : List Nat) : execFn f7_c 7 f7_e.tm (explF ps 1 0) ls = (f7_t ps).run fun q => altR (f7_e.res.map fun f => f ps ls) 0 q some := by kernel_rfl
theorem f7_ok : OkEnt Try.prog f7_e := ent_ok (c := f7_c) (g := 7) (body := f7_b) (us := f7_u) (n := 1) (t := f7_t) (good_envOf _ trivial) Try.func7 rfl Try.call7 rfl ⟨f7_q58, trivial⟩ (by kernel_rfl) f7_x (fun _ => rfl)
/-! ### comprador/need.Check -/
noncomputable def f29_k58 : Sk := { t := [(0, .imm (.slice (.pair .str (.pair (.slice (.pair (.int .i64) (.pair (.int .i64) .unit))) .unit))) .unit), (3, .imm .str .unit), (6, .imm (.slice (.pair .str (.pair (.slice (.pair (.int .i64) (.pair (.int .i64) .unit))) .unit))) .unit), (7, .imm (.int .i64) .unit), (8, .imm (.int .i64) .unit)], h := [] }
noncomputable def f29_o58 : List (Out × Sk) := [(.ret, { t := [(2, .imm .bool .unit)], h := [] }), ((.exit 0), { t := [(0, .imm (.slice (.pair .str (.pair (.slice (.pair (.int .i64) (.pair (.int .i64) .unit))) .unit))) .unit)], h := [] })]
noncomputable def f29_s58 (ls : List P) : Tree Step :=
 .ite (decide ((lf ls 4).toInt < (lf ls 3).toInt)) (
  .ite (inb ((lf ls 4).toInt) (((lf ls 2).xs).length)) (
   .loop (f30_v [(rd ((lf ls 2).xs) (((lf ls 4).toInt).toNat)).fst]) fun x1 =>
    .ite (Nat.beq x1.1 0) (
     .ite (!((lf x1.2 0).toBool)) (
      .ret (.inr (0, [.bool false]))) (
      .ite (strLt (((rd ((lf ls 2).xs) (((lf ls 4).toInt).toNat)).fst).toStr) ((lf ls 1).toStr) || strEq (((rd ((lf ls 2).xs) (((lf ls 4).toInt).toNat)).fst).toStr) ((lf ls 1).toStr)) (
       .ret (.inr (0, [.bool false]))) (
       .ite (decide ((((((rd ((lf ls 2).xs) (((lf ls 4).toInt).toNat)).snd).fst).xs).length : Int) > (6 : Int))) (
        .ret (.inr (0, [.bool false]))) (
        .loop (f7_v [((rd ((lf ls 2).xs) (((lf ls 4).toInt).toNat)).snd).fst]) fun x2 =>
         .ite (Nat.beq x2.1 0) (
          .ite (!((lf x2.2 0).toBool)) (
           .ret (.inr (0, [.bool false]))) (
           .ret (.inl [lf ls 0, (rd ((lf ls 2).xs) (((lf ls 4).toInt).toNat)).fst, lf ls 2, lf ls 3, .int .i64 (IntKind.i64.wrap (((lf ls 4).toInt) + (1 : Int)))]))) (
          .fail))))) (
     .fail)) (
   .fail)) (
  .ret (.inr (1, [lf ls 0])))
noncomputable def f29_t (ps : List P) : Tree (Nat × List P) :=
 .loop (loopT f29_s58 FUEL [lf ps 0, .str .empty, lf ps 0, .int .i64 (((lf ps 0).xs).length : Int), .int .i64 (0 : Int)]) fun y3 =>
  .ite (Nat.beq y3.1 0) (
   .ret (0, [lf y3.2 0])) (
   .ite (Nat.beq y3.1 1) (
    .ret (0, [.bool (decide ((((lf y3.2 0).xs).length : Int) ≤ (6 : Int)))])) (
    .fail))
noncomputable def f29_v (ps : List P) : Option (Nat × List P) := (f29_t ps).run some
noncomputable def f29_e : EntD := ⟨29, [.imm (.slice (.pair .str (.pair (.slice (.pair (.int .i64) (.pair (.int .i64) .unit))) .unit)))], f29_v, [fun ps ls qs => ⟨[.imm .bool (lf qs 0)], [.imm (.slice (.pair .str (.pair (.slice (.pair (.int .i64) (.pair (.int .i64) .unit))) .unit))) (lf ps 0)]⟩]⟩
noncomputable def f29_u : List Cu := [.loop 58 f29_k58 f29_o58 f29_s58]
noncomputable def f29_c : Cx := ⟨Try.prog, envOf [f7_e, f30_e], 40, lOf f29_u⟩
noncomputable def f29_b : Code := match Try.f29.body with | some b => b | none => .skip
theorem f29_q58 : (Cu.loop 58 f29_k58 f29_o58 f29_s58).Ok f29_c f29_b := ⟨by kernel_rfl, fun ls Kr Kx => by kernel_rfl⟩
theorem f29_x (ps : List P) (ls : List Nat) : execFn f29_c 29 f29_e.tm (explF ps 1 0) ls = (f29_t ps).run fun q => altR (f29_e.res.map fun f => f ps ls) 0 q some := by kernel_rfl
theorem f29_ok : OkEnt Try.prog f29_e := ent_ok (c := f29_c) (g := 29) (body := f29_b) (us := f29_u) (n := 1) (t := f29_t) (good_envOf _ ⟨f7_ok, f30_ok, trivial⟩) Try.func29 rfl Try.call29 rfl ⟨f29_q58, trivial⟩ (by kernel_rfl) f29_x (fun _ => rfl)
/-! ### comprador/mani.Check -/
noncomputable def f6_k58 : Sk := { t := [(1, .ref 5100 [] (.pair .str (.pair (.slice (.pair (.int .i64) (.pair (.slice (.pair .str (.pair (.slice (.pair (.int .i64) (.pair (.int .i64) .unit))) .unit))) .unit))) .unit))), (3, .imm (.int .i64) .unit), (7, .imm (.slice (.pair (.int .i64) (.pair (.slice (.pair .str (.pair (.slice (.pair (.int .i64) (.pair (.int .i64) .unit))) .unit))) .unit))) .unit), (8, .imm (.int .i64) .unit), (9, .imm (.int .i64) .unit)], h := [(5100, .obj (.pair .str (.pair (.slice (.pair (.int .i64) (.pair (.slice (.pair .str (.pair (.slice (.pair (.int .i64) (.pair (.int .i64) .unit))) .unit))) .unit))) .unit)) (.imm (.pair .str (.pair (.slice (.pair (.int .i64) (.pair (.slice (.pair .str (.pair (.slice (.pair (.int .i64) (.pair (.int .i64) .unit))) .unit))) .unit))) .unit)) .unit))] }
noncomputable def f6_o58 : List (Out × Sk) := [(.ret, { t := [(2, .imm .bool .unit)], h := [] }), ((.exit 0), { t := [(1, .ref 5130 [] (.pair .str (.pair (.slice (.pair (.int .i64) (.pair (.slice (.pair .str (.pair (.slice (.pair (.int .i64) (.pair (.int .i64) .unit))) .unit))) .unit))) .unit)))], h := [(5130, .obj (.pair .str (.pair (.slice (.pair (.int .i64) (.pair (.slice (.pair .str (.pair (.slice (.pair (.int .i64) (.pair (.int .i64) .unit))) .unit))) .unit))) .unit)) (.imm (.pair .str (.pair (.slice (.pair (.int .i64) (.pair (.slice (.pair .str (.pair (.slice (.pair (.int .i64) (.pair (.int .i64) .unit))) .unit))) .unit))) .unit)) .unit))] })]
noncomputable def f6_s58 (ls : List P) : Tree Step :=
 .ite (decide ((lf ls 3).toInt < (lf ls 2).toInt)) (
  .ite (inb ((lf ls 3).toInt) (((lf ls 1).xs).length)) (
   .ite (decide (((rd ((lf ls 1).xs) (((lf ls 3).toInt).toNat)).fst).toInt ≤ (lf ls 0).toInt)) (
    .ret (.inr (0, [.bool false]))) (
    .ite (decide (((rd ((lf ls 1).xs) (((lf ls 3).toInt).toNat)).fst).toInt ≥ (1000000000 : Int))) (
     .ret (.inr (0, [.bool false]))) (
     .loop (f29_v [((rd ((lf ls 1).xs) (((lf ls 3).toInt).toNat)).snd).fst]) fun x1 =>
      .ite (Nat.beq x1.1 0) (
       .ite (!((lf x1.2 0).toBool)) (
        .ret (.inr (0, [.bool false]))) (
        .ret (.inl [(rd ((lf ls 1).xs) (((lf ls 3).toInt).toNat)).fst, lf ls 1, lf ls 2, .int .i64 (IntKind.i64.wrap (((lf ls 3).toInt) + (1 : Int))), lf ls 4]))) (
       .fail)))) (
   .fail)) (
  .ret (.inr (1, [lf ls 4])))
noncomputable def f6_t (ps : List P) : Tree (Nat × List P) :=
 .loop (loopT f6_s58 FUEL [.int .i64 (-1 : Int), ((lf ps 0).snd).fst, .int .i64 (((((lf ps 0).snd).fst).xs).length : Int), .int .i64 (0 : Int), lf ps 0]) fun y2 =>
  .ite (Nat.beq y2.1 0) (
   .ret (0, [lf y2.2 0])) (
   .ite (Nat.beq y2.1 1) (
    .loop (f30_v [(lf y2.2 0).fst]) fun x3 =>
     .ite (Nat.beq x3.1 0) (
      .ite ((lf x3.2 0).toBool) (
       .ret (0, [.bool (decide ((((((lf y2.2 0).snd).fst).xs).length : Int) ≤ (8 : Int)))])) (
       .ret (0, [.bool false]))) (
      .fail)) (
    .fail))
noncomputable def f6_v (ps : List P) : Option (Nat × List P) := (f6_t ps).run some
noncomputable def f6_e : EntD := ⟨6, [.imm (.pair .str (.pair (.slice (.pair (.int .i64) (.pair (.slice (.pair .str (.pair (.slice (.pair (.int .i64) (.pair (.int .i64) .unit))) .unit))) .unit))) .unit))], f6_v, [fun ps ls qs => ⟨[.imm .bool (lf qs 0)], [.imm (.pair .str (.pair (.slice (.pair (.int .i64) (.pair (.slice (.pair .str (.pair (.slice (.pair (.int .i64) (.pair (.int .i64) .unit))) .unit))) .unit))) .unit)) (lf ps 0)]⟩]⟩
noncomputable def f6_u : List Cu := [.loop 58 f6_k58 f6_o58 f6_s58]
noncomputable def f6_c : Cx := ⟨Try.prog, envOf [f29_e, f30_e], 40, lOf f6_u⟩
noncomputable def f6_b : Code := match Try.f6.body with | some b => b | none => .skip
theorem f6_q58 : (Cu.loop 58 f6_k58 f6_o58 f6_s58).Ok f6_c f6_b := ⟨by kernel_rfl, fun ls Kr Kx => by kernel_rfl⟩
theorem f6_x (ps : List P) (ls : List Nat) : execFn f6_c 6 f6_e.tm (explF ps 1 0) ls = (f6_t ps).run fun q => altR (f6_e.res.map fun f => f ps ls) 0 q some := by kernel_rfl
theorem f6_ok : OkEnt Try.prog f6_e := ent_ok (c := f6_c) (g := 6) (body := f6_b) (us := f6_u) (n := 1) (t := f6_t) (good_envOf _ ⟨f29_ok, f30_ok, trivial⟩) Try.func6 rfl Try.call6 rfl ⟨f6_q58, trivial⟩ (by kernel_rfl) f6_x (fun _ => rfl)
/-! ### comprador/compradorlaw09.awake -/
noncomputable def f8_t (ps : List P) : Tree (Nat × List P) :=
 .loop (f11_v [.pair (.str ⟨#[97]⟩) (.pair (.list false [.pair (.int .i64 (1000000 : Int)) (.pair (.list true []) .unit), .pair (.int .i64 (2000000 : Int)) (.pair (.list true []) .unit)]) .unit), .list false [.pair (.int .i64 (0 : Int)) (.pair (.int .i64 (2000000 : Int)) .unit)]]) fun x1 =>
  .ite (Nat.beq x1.1 0) (
   .loop (down13_v [.pair (.str ⟨#[97]⟩) (.pair (.list false [.pair (.int .i64 (1000000 : Int)) (.pair (.list true []) .unit), .pair (.int .i64 (2000000 : Int)) (.pair (.list true []) .unit)]) .unit), .list false [.pair (.int .i64 (0 : Int)) (.pair (.int .i64 (1000000000 : Int)) .unit)]]) fun x2 =>
    .ite (Nat.beq x2.1 0) (
     .loop (f6_v [.pair (.str ⟨#[97]⟩) (.pair (.list false [.pair (.int .i64 (1000000 : Int)) (.pair (.list true []) .unit), .pair (.int .i64 (2000000 : Int)) (.pair (.list true []) .unit)]) .unit)]) fun x3 =>
      .ite (Nat.beq x3.1 0) (
       .ite ((lf x3.2 0).toBool) (
        .ite (((lf x1.2 0).toInt) == (1000000 : Int)) (
         .ite ((lf x1.2 1).toBool) (
          .ite ((((lf x2.2 0).xs).length : Int) == (2 : Int)) (
           .ite (inb (0 : Int) (((lf x2.2 0).xs).length)) (
            .ret (0, [.bool (((rd ((lf x2.2 0).xs) 0).toInt) == (2000000 : Int))])) (
            .fail)) (
           .ret (0, [.bool false]))) (
          .ret (0, [.bool false]))) (
         .ret (0, [.bool false]))) (
        .ret (0, [.bool false]))) (
       .fail)) (
     .fail)) (
   .fail)
noncomputable def f8_v (ps : List P) : Option (Nat × List P) := (f8_t ps).run some
noncomputable def f8_e : EntD := ⟨8, [], f8_v, [fun ps ls qs => ⟨[.imm .bool (lf qs 0)], []⟩]⟩
noncomputable def f8_u : List Cu := []
noncomputable def f8_c : Cx := ⟨Try.prog, envOf [f6_e, f11_e, down13_e], 40, lOf f8_u⟩
noncomputable def f8_b : Code := match Try.f8.body with | some b => b | none => .skip
theorem f8_x (ps : List P) (ls : List Nat) : execFn f8_c 8 f8_e.tm (explF ps 0 0) ls = (f8_t ps).run fun q => altR (f8_e.res.map fun f => f ps ls) 0 q some := by kernel_rfl
theorem f8_ok : OkEnt Try.prog f8_e := ent_ok (c := f8_c) (g := 8) (body := f8_b) (us := f8_u) (n := 0) (t := f8_t) (good_envOf _ ⟨f6_ok, f11_ok, down13_ok, trivial⟩) Try.func8 rfl Try.call8 rfl trivial (by kernel_rfl) f8_x (fun _ => rfl)
/-! ### comprador/compradorref05.Fit -/
noncomputable def f38_t (ps : List P) : Tree (Nat × List P) :=
 .ite (decide ((lf ps 0).toInt ≥ (0 : Int))) (
  .ret (0, [.bool (decide ((lf ps 0).toInt < (1000000000 : Int)))])) (
  .ret (0, [.bool false]))
noncomputable def f38_v (ps : List P) : Option (Nat × List P) := (f38_t ps).run some
noncomputable def f38_e : EntD := ⟨38, [.imm (.int .i64)], f38_v, [fun ps ls qs => ⟨[.imm .bool (lf qs 0)], [.imm (.int .i64) (lf ps 0)]⟩]⟩
noncomputable def f38_u : List Cu := []
noncomputable def f38_c : Cx := ⟨Try.prog, envOf [], 9, lOf f38_u⟩
noncomputable def f38_b : Code := match Try.f38.body with | some b => b | none => .skip
theorem f38_x (ps : List P) (ls : List Nat) : execFn f38_c 38 f38_e.tm (explF ps 1 0) ls = (f38_t ps).run fun q => altR (f38_e.res.map fun f => f ps ls) 0 q some := by kernel_rfl
theorem f38_ok : OkEnt Try.prog f38_e := ent_ok (c := f38_c) (g := 38) (body := f38_b) (us := f38_u) (n := 1) (t := f38_t) (good_envOf _ trivial) Try.func38 rfl Try.call38 rfl trivial (by kernel_rfl) f38_x (fun _ => rfl)
end Go.Proofs.Ytihenfpnilliiaa
