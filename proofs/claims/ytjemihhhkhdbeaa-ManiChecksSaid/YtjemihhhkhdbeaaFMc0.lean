/- Functions: what each tells. Conditions: none. -/
import Derived.Test.YtjemihhhkhdbeaaFMch
open Go Go.Eng Go.Proofs
set_option pp.deepTerms true
set_option linter.unusedVariables false
namespace Go.Proofs.Ytjemihhhkhdbeaa
/-! ### comprador/compradorlaw08.Large -/
noncomputable def f123_k58 : Sk := { t := [(0, .imm (.slice (.pair .str (.pair (.slice (.pair (.int .i64) (.pair (.int .i64) .unit))) .unit))) .unit), (3, .imm (.int .i64) .unit)], h := [] }
noncomputable def f123_o58 : List (Out × Sk) := [(.ret, { t := [(2, .imm .bool .unit)], h := [] }), ((.exit 0), { t := [], h := [] })]
noncomputable def f123_s58 (ls : List P) : Tree Step :=
 .ite (decide ((lf ls 1).toInt < (((lf ls 0).xs).length : Int))) (
  .ite (inb ((lf ls 1).toInt) (((lf ls 0).xs).length)) (
   .ite (decide ((((((rd ((lf ls 0).xs) (((lf ls 1).toInt).toNat)).snd).fst).xs).length : Int) > (40 : Int))) (
    .ret (.inr (0, [.bool true]))) (
    .ite (inb ((lf ls 1).toInt) (((lf ls 0).xs).length)) (
     .ite (decide (((((rd ((lf ls 0).xs) (((lf ls 1).toInt).toNat)).fst).toStr).size : Int) > (100 : Int))) (
      .ret (.inr (0, [.bool true]))) (
      .ret (.inl [lf ls 0, .int .i64 (IntKind.i64.wrap (((lf ls 1).toInt) + (1 : Int)))]))) (
     .fail))) (
   .fail)) (
  .ret (.inr (1, [])))
noncomputable def f123_t (ps : List P) : Tree (Nat × List P) :=
 .ite (decide ((((lf ps 0).xs).length : Int) > (40 : Int))) (
  .ret (0, [.bool true])) (
  .loop (loopT f123_s58 FUEL [lf ps 0, .int .i64 (0 : Int)]) fun y1 =>
   .ite (Nat.beq y1.1 0) (
    .ret (0, [lf y1.2 0])) (
    .ite (Nat.beq y1.1 1) (
     .ret (0, [.bool false])) (
     .fail)))
noncomputable def f123_v (ps : List P) : Option (Nat × List P) := (f123_t ps).run some
noncomputable def f123_e : EntD := ⟨123, [.imm (.slice (.pair .str (.pair (.slice (.pair (.int .i64) (.pair (.int .i64) .unit))) .unit)))], f123_v, [fun ps ls qs => ⟨[.imm .bool (lf qs 0)], [.imm (.slice (.pair .str (.pair (.slice (.pair (.int .i64) (.pair (.int .i64) .unit))) .unit))) (lf ps 0)]⟩]⟩
noncomputable def f123_u : List Cu := [.loop 58 f123_k58 f123_o58 f123_s58]
noncomputable def f123_c : Cx := ⟨Try.prog, envOf [], 29, lOf f123_u⟩
noncomputable def f123_b : Code := match Try.f123.body with | some b => b | none => .skip
theorem f123_q58 : (Cu.loop 58 f123_k58 f123_o58 f123_s58).Ok f123_c f123_b := ⟨by kernel_rfl, fun ls Kr Kx => by kernel_rfl⟩
theorem f123_x (ps : List P) (ls : List Nat) : execFn f123_c 123 f123_e.tm (explF ps 1 0) ls = (f123_t ps).run fun q => altR (f123_e.res.map fun f => f ps ls) 0 q some := by kernel_rfl
theorem f123_ok : OkEnt Try.prog f123_e := ent_ok (c := f123_c) (g := 123) (body := f123_b) (us := f123_u) (n := 1) (t := f123_t) (good_envOf _ trivial) Try.func123 rfl Try.call123 rfl ⟨f123_q58, trivial⟩ (by kernel_rfl) f123_x (fun _ => rfl)
/-! ### comprador/compradorlaw09.Large -/
noncomputable def f51_k58 : Sk := { t := [(1, .ref 5700 [] (.pair .str (.pair (.slice (.pair (.int .i64) (.pair (.slice (.pair .str (.pair (.slice (.pair (.int .i64) (.pair (.int .i64) .unit))) .unit))) .unit))) .unit))), (3, .imm (.int .i64) .unit)], h := [(5700, .obj (.pair .str (.pair (.slice (.pair (.int .i64) (.pair (.slice (.pair .str (.pair (.slice (.pair (.int .i64) (.pair (.int .i64) .unit))) .unit))) .unit))) .unit)) (.imm (.pair .str (.pair (.slice (.pair (.int .i64) (.pair (.slice (.pair .str (.pair (.slice (.pair (.int .i64) (.pair (.int .i64) .unit))) .unit))) .unit))) .unit)) .unit))] }
noncomputable def f51_o58 : List (Out × Sk) := [(.ret, { t := [(2, .imm .bool .unit)], h := [] }), ((.exit 0), { t := [], h := [] })]
noncomputable def f51_s58 (ls : List P) : Tree Step :=
 .ite (decide ((lf ls 0).toInt < (((((lf ls 1).snd).fst).xs).length : Int))) (
  .ite (inb ((lf ls 0).toInt) (((((lf ls 1).snd).fst).xs).length)) (
   .loop (f123_v [((rd ((((lf ls 1).snd).fst).xs) (((lf ls 0).toInt).toNat)).snd).fst]) fun x1 =>
    .ite (Nat.beq x1.1 0) (
     .ite ((lf x1.2 0).toBool) (
      .ret (.inr (0, [.bool true]))) (
      .ret (.inl [.int .i64 (IntKind.i64.wrap (((lf ls 0).toInt) + (1 : Int))), lf ls 1]))) (
     .fail)) (
   .fail)) (
  .ret (.inr (1, [])))
noncomputable def f51_t (ps : List P) : Tree (Nat × List P) :=
 .ite (decide ((((((lf ps 0).snd).fst).xs).length : Int) > (30 : Int))) (
  .ret (0, [.bool true])) (
  .ite (decide (((((lf ps 0).fst).toStr).size : Int) > (200 : Int))) (
   .ret (0, [.bool true])) (
   .loop (loopT f51_s58 FUEL [.int .i64 (0 : Int), lf ps 0]) fun y2 =>
    .ite (Nat.beq y2.1 0) (
     .ret (0, [lf y2.2 0])) (
     .ite (Nat.beq y2.1 1) (
      .ret (0, [.bool false])) (
      .fail))))
noncomputable def f51_v (ps : List P) : Option (Nat × List P) := (f51_t ps).run some
noncomputable def f51_e : EntD := ⟨51, [.imm (.pair .str (.pair (.slice (.pair (.int .i64) (.pair (.slice (.pair .str (.pair (.slice (.pair (.int .i64) (.pair (.int .i64) .unit))) .unit))) .unit))) .unit))], f51_v, [fun ps ls qs => ⟨[.imm .bool (lf qs 0)], [.imm (.pair .str (.pair (.slice (.pair (.int .i64) (.pair (.slice (.pair .str (.pair (.slice (.pair (.int .i64) (.pair (.int .i64) .unit))) .unit))) .unit))) .unit)) (lf ps 0)]⟩]⟩
noncomputable def f51_u : List Cu := [.loop 58 f51_k58 f51_o58 f51_s58]
noncomputable def f51_c : Cx := ⟨Try.prog, envOf [f123_e], 28, lOf f51_u⟩
noncomputable def f51_b : Code := match Try.f51.body with | some b => b | none => .skip
theorem f51_q58 : (Cu.loop 58 f51_k58 f51_o58 f51_s58).Ok f51_c f51_b := ⟨by kernel_rfl, fun ls Kr Kx => by kernel_rfl⟩
theorem f51_x (ps : List P) (ls : List Nat) : execFn f51_c 51 f51_e.tm (explF ps 1 0) ls = (f51_t ps).run fun q => altR (f51_e.res.map fun f => f ps ls) 0 q some := by kernel_rfl
theorem f51_ok : OkEnt Try.prog f51_e := ent_ok (c := f51_c) (g := 51) (body := f51_b) (us := f51_u) (n := 1) (t := f51_t) (good_envOf _ ⟨f123_ok, trivial⟩) Try.func51 rfl Try.call51 rfl ⟨f51_q58, trivial⟩ (by kernel_rfl) f51_x (fun _ => rfl)
/-! ### comprador/mani.Newest -/
noncomputable def f124_t (ps : List P) : Tree (Nat × List P) :=
 .loop (down125_v [lf ps 0, lf ps 1]) fun x1 =>
  .ite (Nat.beq x1.1 0) (
   .ite ((((lf x1.2 0).xs).length : Int) == (0 : Int)) (
    .ret (0, [.int .i64 (0 : Int), .bool false])) (
    .ite (inb (0 : Int) (((lf x1.2 0).xs).length)) (
     .ret (0, [rd ((lf x1.2 0).xs) 0, .bool true])) (
     .fail))) (
   .fail)
noncomputable def f124_v (ps : List P) : Option (Nat × List P) := (f124_t ps).run some
noncomputable def f124_e : EntD := ⟨124, [.imm (.pair .str (.pair (.slice (.pair (.int .i64) (.pair (.slice (.pair .str (.pair (.slice (.pair (.int .i64) (.pair (.int .i64) .unit))) .unit))) .unit))) .unit)), .imm (.slice (.pair (.int .i64) (.pair (.int .i64) .unit)))], f124_v, [fun ps ls qs => ⟨[.imm (.int .i64) (lf qs 0), .imm .bool (lf qs 1)], [.imm (.pair .str (.pair (.slice (.pair (.int .i64) (.pair (.slice (.pair .str (.pair (.slice (.pair (.int .i64) (.pair (.int .i64) .unit))) .unit))) .unit))) .unit)) (lf ps 0), .imm (.slice (.pair (.int .i64) (.pair (.int .i64) .unit))) (lf ps 1)]⟩]⟩
noncomputable def f124_u : List Cu := []
noncomputable def f124_c : Cx := ⟨Try.prog, envOf [down125_e], 16, lOf f124_u⟩
noncomputable def f124_b : Code := match Try.f124.body with | some b => b | none => .skip
theorem f124_x (ps : List P) (ls : List Nat) : execFn f124_c 124 f124_e.tm (explF ps 2 0) ls = (f124_t ps).run fun q => altR (f124_e.res.map fun f => f ps ls) 0 q some := by kernel_rfl
theorem f124_ok : OkEnt Try.prog f124_e := ent_ok (c := f124_c) (g := 124) (body := f124_b) (us := f124_u) (n := 2) (t := f124_t) (good_envOf _ ⟨down125_ok, trivial⟩) Try.func124 rfl Try.call124 rfl trivial (by kernel_rfl) f124_x (fun _ => rfl)
/-! ### comprador/label.kind -/
noncomputable def f173_t (ps : List P) : Tree (Nat × List P) :=
 .ite (decide ((lf ps 0).toInt ≥ (97 : Int))) (
  .ite (decide ((lf ps 0).toInt ≤ (122 : Int))) (
   .ret (0, [.int .i64 (0 : Int)])) (
   .ite (decide ((lf ps 0).toInt ≥ (945 : Int))) (
    .ite (decide ((lf ps 0).toInt ≤ (969 : Int))) (
     .ret (0, [.int .i64 (1 : Int)])) (
     .ite (decide ((lf ps 0).toInt ≥ (48 : Int))) (
      .ite (decide ((lf ps 0).toInt ≤ (57 : Int))) (
       .ret (0, [.int .i64 (2 : Int)])) (
       .ite (((lf ps 0).toInt) == (45 : Int)) (
        .ret (0, [.int .i64 (3 : Int)])) (
        .ret (0, [.int .i64 (4 : Int)])))) (
      .ite (((lf ps 0).toInt) == (45 : Int)) (
       .ret (0, [.int .i64 (3 : Int)])) (
       .ret (0, [.int .i64 (4 : Int)]))))) (
    .ite (decide ((lf ps 0).toInt ≥ (48 : Int))) (
     .ite (decide ((lf ps 0).toInt ≤ (57 : Int))) (
      .ret (0, [.int .i64 (2 : Int)])) (
      .ite (((lf ps 0).toInt) == (45 : Int)) (
       .ret (0, [.int .i64 (3 : Int)])) (
       .ret (0, [.int .i64 (4 : Int)])))) (
     .ite (((lf ps 0).toInt) == (45 : Int)) (
      .ret (0, [.int .i64 (3 : Int)])) (
      .ret (0, [.int .i64 (4 : Int)])))))) (
  .ite (decide ((lf ps 0).toInt ≥ (945 : Int))) (
   .ite (decide ((lf ps 0).toInt ≤ (969 : Int))) (
    .ret (0, [.int .i64 (1 : Int)])) (
    .ite (decide ((lf ps 0).toInt ≥ (48 : Int))) (
     .ite (decide ((lf ps 0).toInt ≤ (57 : Int))) (
      .ret (0, [.int .i64 (2 : Int)])) (
      .ite (((lf ps 0).toInt) == (45 : Int)) (
       .ret (0, [.int .i64 (3 : Int)])) (
       .ret (0, [.int .i64 (4 : Int)])))) (
     .ite (((lf ps 0).toInt) == (45 : Int)) (
      .ret (0, [.int .i64 (3 : Int)])) (
      .ret (0, [.int .i64 (4 : Int)]))))) (
   .ite (decide ((lf ps 0).toInt ≥ (48 : Int))) (
    .ite (decide ((lf ps 0).toInt ≤ (57 : Int))) (
     .ret (0, [.int .i64 (2 : Int)])) (
     .ite (((lf ps 0).toInt) == (45 : Int)) (
      .ret (0, [.int .i64 (3 : Int)])) (
      .ret (0, [.int .i64 (4 : Int)])))) (
    .ite (((lf ps 0).toInt) == (45 : Int)) (
     .ret (0, [.int .i64 (3 : Int)])) (
     .ret (0, [.int .i64 (4 : Int)])))))
noncomputable def f173_v (ps : List P) : Option (Nat × List P) := (f173_t ps).run some
noncomputable def f173_e : EntD := ⟨173, [.imm (.int .i32)], f173_v, [fun ps ls qs => ⟨[.imm (.int .i64) (lf qs 0)], [.imm (.int .i32) (lf ps 0)]⟩]⟩
noncomputable def f173_u : List Cu := []
noncomputable def f173_c : Cx := ⟨Try.prog, envOf [], 27, lOf f173_u⟩
noncomputable def f173_b : Code := match Try.f173.body with | some b => b | none => .skip
theorem f173_x (ps : List P) (ls : List Nat) : execFn f173_c 173 f173_e.tm (explF ps 1 0) ls = (f173_t ps).run fun q => altR (f173_e.res.map fun f => f ps ls) 0 q some := by kernel_rfl
theorem f173_ok : OkEnt Try.prog f173_e := ent_ok (c := f173_c) (g := 173) (body := f173_b) (us := f173_u) (n := 1) (t := f173_t) (good_envOf _ trivial) Try.func173 rfl Try.call173 rfl trivial (by kernel_rfl) f173_x (fun _ => rfl)
/-! ### comprador/label.Fit -/
noncomputable def f127_k58 : Sk := { t := [(3, .imm (.int .i64) .unit), (8, .blk 5100 .it)], h := [(5100, .blk .it .unit)] }
noncomputable def f127_o58 : List (Out × Sk) := [(.ret, { t := [(2, .imm .bool .unit)], h := [] }), ((.exit 0), { t := [(3, .imm (.int .i64) .unit)], h := [] })]
noncomputable def f127_s58 (ls : List P) : Tree Step :=
 .ite (decide (((lf ls 1).snd).toInt < (((lf ls 1).fst).toStr).size)) (
  .loop (f173_v [.int .i32 (runeAt (((lf ls 1).fst).toStr) (((lf ls 1).snd).toInt))]) fun x1 =>
   .ite (Nat.beq x1.1 0) (
    .ite (decide ((lf x1.2 0).toInt > (3 : Int))) (
     .ret (.inr (0, [.bool false]))) (
     .ite (((lf ls 0).toInt) == (0 : Int)) (
      .ite (decide ((lf x1.2 0).toInt > (1 : Int))) (
       .ret (.inr (0, [.bool false]))) (
       .ite (((lf ls 0).toInt) == (12 : Int)) (
        .ret (.inr (0, [.bool false]))) (
        .ret (.inl [.int .i64 (IntKind.i64.wrap (((lf ls 0).toInt) + (1 : Int))), .pair (.str (((lf ls 1).fst).toStr)) (.int .i64 ((((lf ls 1).snd).toInt) + (runeLen (((lf ls 1).fst).toStr) (((lf ls 1).snd).toInt))))])))) (
      .ite (((lf ls 0).toInt) == (12 : Int)) (
       .ret (.inr (0, [.bool false]))) (
       .ret (.inl [.int .i64 (IntKind.i64.wrap (((lf ls 0).toInt) + (1 : Int))), .pair (.str (((lf ls 1).fst).toStr)) (.int .i64 ((((lf ls 1).snd).toInt) + (runeLen (((lf ls 1).fst).toStr) (((lf ls 1).snd).toInt))))]))))) (
    .fail)) (
  .ret (.inr (1, [lf ls 0])))
noncomputable def f127_t (ps : List P) : Tree (Nat × List P) :=
 .loop (loopT f127_s58 FUEL [.int .i64 (0 : Int), .pair (.str ((lf ps 0).toStr)) (.int .i64 (0 : Int))]) fun y2 =>
  .ite (Nat.beq y2.1 0) (
   .ret (0, [lf y2.2 0])) (
   .ite (Nat.beq y2.1 1) (
    .ret (0, [.bool (decide ((lf y2.2 0).toInt > (0 : Int)))])) (
    .fail))
noncomputable def f127_v (ps : List P) : Option (Nat × List P) := (f127_t ps).run some
noncomputable def f127_e : EntD := ⟨127, [.imm .str], f127_v, [fun ps ls qs => ⟨[.imm .bool (lf qs 0)], [.imm .str (lf ps 0)]⟩]⟩
noncomputable def f127_u : List Cu := [.loop 58 f127_k58 f127_o58 f127_s58]
noncomputable def f127_c : Cx := ⟨Try.prog, envOf [f173_e], 32, lOf f127_u⟩
noncomputable def f127_b : Code := match Try.f127.body with | some b => b | none => .skip
theorem f127_q58 : (Cu.loop 58 f127_k58 f127_o58 f127_s58).Ok f127_c f127_b := ⟨by kernel_rfl, fun ls Kr Kx => by kernel_rfl⟩
theorem f127_x (ps : List P) (ls : List Nat) : execFn f127_c 127 f127_e.tm (explF ps 1 0) ls = (f127_t ps).run fun q => altR (f127_e.res.map fun f => f ps ls) 0 q some := by kernel_rfl
theorem f127_ok : OkEnt Try.prog f127_e := ent_ok (c := f127_c) (g := 127) (body := f127_b) (us := f127_u) (n := 1) (t := f127_t) (good_envOf _ ⟨f173_ok, trivial⟩) Try.func127 rfl Try.call127 rfl ⟨f127_q58, trivial⟩ (by kernel_rfl) f127_x (fun _ => rfl)
/-! ### comprador/span.Check -/
noncomputable def f80_k58 : Sk := { t := [(3, .imm (.int .i64) .unit), (6, .imm (.slice (.pair (.int .i64) (.pair (.int .i64) .unit))) .unit), (7, .imm (.int .i64) .unit), (8, .imm (.int .i64) .unit)], h := [] }
noncomputable def f80_o58 : List (Out × Sk) := [(.ret, { t := [(2, .imm .bool .unit)], h := [] }), ((.exit 0), { t := [], h := [] })]
noncomputable def f80_s58 (ls : List P) : Tree Step :=
 .ite (decide ((lf ls 3).toInt < (lf ls 2).toInt)) (
  .ite (inb ((lf ls 3).toInt) (((lf ls 1).xs).length)) (
   .ite (decide (((rd ((lf ls 1).xs) (((lf ls 3).toInt).toNat)).fst).toInt ≤ (lf ls 0).toInt)) (
    .ret (.inr (0, [.bool false]))) (
    .ite (decide (((rd ((lf ls 1).xs) (((lf ls 3).toInt).toNat)).fst).toInt ≥ (((rd ((lf ls 1).xs) (((lf ls 3).toInt).toNat)).snd).fst).toInt)) (
     .ret (.inr (0, [.bool false]))) (
     .ite (decide ((((rd ((lf ls 1).xs) (((lf ls 3).toInt).toNat)).snd).fst).toInt > (1000000000 : Int))) (
      .ret (.inr (0, [.bool false]))) (
      .ret (.inl [((rd ((lf ls 1).xs) (((lf ls 3).toInt).toNat)).snd).fst, lf ls 1, lf ls 2, .int .i64 (IntKind.i64.wrap (((lf ls 3).toInt) + (1 : Int)))]))))) (
   .fail)) (
  .ret (.inr (1, [])))
noncomputable def f80_t (ps : List P) : Tree (Nat × List P) :=
 .loop (loopT f80_s58 FUEL [.int .i64 (-1 : Int), lf ps 0, .int .i64 (((lf ps 0).xs).length : Int), .int .i64 (0 : Int)]) fun y1 =>
  .ite (Nat.beq y1.1 0) (
   .ret (0, [lf y1.2 0])) (
   .ite (Nat.beq y1.1 1) (
    .ret (0, [.bool true])) (
    .fail))
noncomputable def f80_v (ps : List P) : Option (Nat × List P) := (f80_t ps).run some
noncomputable def f80_e : EntD := ⟨80, [.imm (.slice (.pair (.int .i64) (.pair (.int .i64) .unit)))], f80_v, [fun ps ls qs => ⟨[.imm .bool (lf qs 0)], [.imm (.slice (.pair (.int .i64) (.pair (.int .i64) .unit))) (lf ps 0)]⟩]⟩
noncomputable def f80_u : List Cu := [.loop 58 f80_k58 f80_o58 f80_s58]
noncomputable def f80_c : Cx := ⟨Try.prog, envOf [], 31, lOf f80_u⟩
noncomputable def f80_b : Code := match Try.f80.body with | some b => b | none => .skip
theorem f80_q58 : (Cu.loop 58 f80_k58 f80_o58 f80_s58).Ok f80_c f80_b := ⟨by kernel_rfl, fun ls Kr Kx => by kernel_rfl⟩
theorem f80_x (ps : List P) (ls : List Nat) : execFn f80_c 80 f80_e.tm (explF ps 1 0) ls = (f80_t ps).run fun q => altR (f80_e.res.map fun f => f ps ls) 0 q some := by kernel_rfl
theorem f80_ok : OkEnt Try.prog f80_e := ent_ok (c := f80_c) (g := 80) (body := f80_b) (us := f80_u) (n := 1) (t := f80_t) (good_envOf _ trivial) Try.func80 rfl Try.call80 rfl ⟨f80_q58, trivial⟩ (by kernel_rfl) f80_x (fun _ => rfl)
/-! ### comprador/need.Check -/
noncomputable def f126_k58 : Sk := { t := [(0, .imm (.slice (.pair .str (.pair (.slice (.pair (.int .i64) (.pair (.int .i64) .unit))) .unit))) .unit), (3, .imm .str .unit), (6, .imm (.slice (.pair .str (.pair (.slice (.pair (.int .i64) (.pair (.int .i64) .unit))) .unit))) .unit), (7, .imm (.int .i64) .unit), (8, .imm (.int .i64) .unit)], h := [] }
noncomputable def f126_o58 : List (Out × Sk) := [(.ret, { t := [(2, .imm .bool .unit)], h := [] }), ((.exit 0), { t := [(0, .imm (.slice (.pair .str (.pair (.slice (.pair (.int .i64) (.pair (.int .i64) .unit))) .unit))) .unit)], h := [] })]
noncomputable def f126_s58 (ls : List P) : Tree Step :=
 .ite (decide ((lf ls 4).toInt < (lf ls 3).toInt)) (
  .ite (inb ((lf ls 4).toInt) (((lf ls 2).xs).length)) (
   .loop (f127_v [(rd ((lf ls 2).xs) (((lf ls 4).toInt).toNat)).fst]) fun x1 =>
    .ite (Nat.beq x1.1 0) (
     .ite (!((lf x1.2 0).toBool)) (
      .ret (.inr (0, [.bool false]))) (
      .ite (strLt (((rd ((lf ls 2).xs) (((lf ls 4).toInt).toNat)).fst).toStr) ((lf ls 1).toStr) || strEq (((rd ((lf ls 2).xs) (((lf ls 4).toInt).toNat)).fst).toStr) ((lf ls 1).toStr)) (
       .ret (.inr (0, [.bool false]))) (
       .ite (decide ((((((rd ((lf ls 2).xs) (((lf ls 4).toInt).toNat)).snd).fst).xs).length : Int) > (6 : Int))) (
        .ret (.inr (0, [.bool false]))) (
        .loop (f80_v [((rd ((lf ls 2).xs) (((lf ls 4).toInt).toNat)).snd).fst]) fun x2 =>
         .ite (Nat.beq x2.1 0) (
          .ite (!((lf x2.2 0).toBool)) (
           .ret (.inr (0, [.bool false]))) (
           .ret (.inl [lf ls 0, (rd ((lf ls 2).xs) (((lf ls 4).toInt).toNat)).fst, lf ls 2, lf ls 3, .int .i64 (IntKind.i64.wrap (((lf ls 4).toInt) + (1 : Int)))]))) (
          .fail))))) (
     .fail)) (
   .fail)) (
  .ret (.inr (1, [lf ls 0])))
noncomputable def f126_t (ps : List P) : Tree (Nat × List P) :=
 .loop (loopT f126_s58 FUEL [lf ps 0, .str .empty, lf ps 0, .int .i64 (((lf ps 0).xs).length : Int), .int .i64 (0 : Int)]) fun y3 =>
  .ite (Nat.beq y3.1 0) (
   .ret (0, [lf y3.2 0])) (
   .ite (Nat.beq y3.1 1) (
    .ret (0, [.bool (decide ((((lf y3.2 0).xs).length : Int) ≤ (6 : Int)))])) (
    .fail))
noncomputable def f126_v (ps : List P) : Option (Nat × List P) := (f126_t ps).run some
noncomputable def f126_e : EntD := ⟨126, [.imm (.slice (.pair .str (.pair (.slice (.pair (.int .i64) (.pair (.int .i64) .unit))) .unit)))], f126_v, [fun ps ls qs => ⟨[.imm .bool (lf qs 0)], [.imm (.slice (.pair .str (.pair (.slice (.pair (.int .i64) (.pair (.int .i64) .unit))) .unit))) (lf ps 0)]⟩]⟩
noncomputable def f126_u : List Cu := [.loop 58 f126_k58 f126_o58 f126_s58]
noncomputable def f126_c : Cx := ⟨Try.prog, envOf [f80_e, f127_e], 40, lOf f126_u⟩
noncomputable def f126_b : Code := match Try.f126.body with | some b => b | none => .skip
theorem f126_q58 : (Cu.loop 58 f126_k58 f126_o58 f126_s58).Ok f126_c f126_b := ⟨by kernel_rfl, fun ls Kr Kx => by kernel_rfl⟩
theorem f126_x (ps : List P) (ls : List Nat) : execFn f126_c 126 f126_e.tm (explF ps 1 0) ls = (f126_t ps).run fun q => altR (f126_e.res.map fun f => f ps ls) 0 q some := by kernel_rfl
theorem f126_ok : OkEnt Try.prog f126_e := ent_ok (c := f126_c) (g := 126) (body := f126_b) (us := f126_u) (n := 1) (t := f126_t) (good_envOf _ ⟨f80_ok, f127_ok, trivial⟩) Try.func126 rfl Try.call126 rfl ⟨f126_q58, trivial⟩ (by kernel_rfl) f126_x (fun _ => rfl)
/-! ### comprador/mani.Check -/
noncomputable def f53_k58 : Sk := { t := [(1, .ref 5100 [] (.pair .str (.pair (.slice (.pair (.int .i64) (.pair (.slice (.pair .str (.pair (.slice (.pair (.int .i64) (.pair (.int .i64) .unit))) .unit))) .unit))) .unit))), (3, .imm (.int .i64) .unit), (7, .imm (.slice (.pair (.int .i64) (.pair (.slice (.pair .str (.pair (.slice (.pair (.int .i64) (.pair (.int .i64) .unit))) .unit))) .unit))) .unit), (8, .imm (.int .i64) .unit), (9, .imm (.int .i64) .unit)], h := [(5100, .obj (.pair .str (.pair (.slice (.pair (.int .i64) (.pair (.slice (.pair .str (.pair (.slice (.pair (.int .i64) (.pair (.int .i64) .unit))) .unit))) .unit))) .unit)) (.imm (.pair .str (.pair (.slice (.pair (.int .i64) (.pair (.slice (.pair .str (.pair (.slice (.pair (.int .i64) (.pair (.int .i64) .unit))) .unit))) .unit))) .unit)) .unit))] }
noncomputable def f53_o58 : List (Out × Sk) := [(.ret, { t := [(2, .imm .bool .unit)], h := [] }), ((.exit 0), { t := [(1, .ref 5130 [] (.pair .str (.pair (.slice (.pair (.int .i64) (.pair (.slice (.pair .str (.pair (.slice (.pair (.int .i64) (.pair (.int .i64) .unit))) .unit))) .unit))) .unit)))], h := [(5130, .obj (.pair .str (.pair (.slice (.pair (.int .i64) (.pair (.slice (.pair .str (.pair (.slice (.pair (.int .i64) (.pair (.int .i64) .unit))) .unit))) .unit))) .unit)) (.imm (.pair .str (.pair (.slice (.pair (.int .i64) (.pair (.slice (.pair .str (.pair (.slice (.pair (.int .i64) (.pair (.int .i64) .unit))) .unit))) .unit))) .unit)) .unit))] })]
noncomputable def f53_s58 (ls : List P) : Tree Step :=
 .ite (decide ((lf ls 3).toInt < (lf ls 2).toInt)) (
  .ite (inb ((lf ls 3).toInt) (((lf ls 1).xs).length)) (
   .ite (decide (((rd ((lf ls 1).xs) (((lf ls 3).toInt).toNat)).fst).toInt ≤ (lf ls 0).toInt)) (
    .ret (.inr (0, [.bool false]))) (
    .ite (decide (((rd ((lf ls 1).xs) (((lf ls 3).toInt).toNat)).fst).toInt ≥ (1000000000 : Int))) (
     .ret (.inr (0, [.bool false]))) (
     .loop (f126_v [((rd ((lf ls 1).xs) (((lf ls 3).toInt).toNat)).snd).fst]) fun x1 =>
      .ite (Nat.beq x1.1 0) (
       .ite (!((lf x1.2 0).toBool)) (
        .ret (.inr (0, [.bool false]))) (
        .ret (.inl [(rd ((lf ls 1).xs) (((lf ls 3).toInt).toNat)).fst, lf ls 1, lf ls 2, .int .i64 (IntKind.i64.wrap (((lf ls 3).toInt) + (1 : Int))), lf ls 4]))) (
       .fail)))) (
   .fail)) (
  .ret (.inr (1, [lf ls 4])))
noncomputable def f53_t (ps : List P) : Tree (Nat × List P) :=
 .loop (loopT f53_s58 FUEL [.int .i64 (-1 : Int), ((lf ps 0).snd).fst, .int .i64 (((((lf ps 0).snd).fst).xs).length : Int), .int .i64 (0 : Int), lf ps 0]) fun y2 =>
  .ite (Nat.beq y2.1 0) (
   .ret (0, [lf y2.2 0])) (
   .ite (Nat.beq y2.1 1) (
    .loop (f127_v [(lf y2.2 0).fst]) fun x3 =>
     .ite (Nat.beq x3.1 0) (
      .ite ((lf x3.2 0).toBool) (
       .ret (0, [.bool (decide ((((((lf y2.2 0).snd).fst).xs).length : Int) ≤ (8 : Int)))])) (
       .ret (0, [.bool false]))) (
      .fail)) (
    .fail))
noncomputable def f53_v (ps : List P) : Option (Nat × List P) := (f53_t ps).run some
noncomputable def f53_e : EntD := ⟨53, [.imm (.pair .str (.pair (.slice (.pair (.int .i64) (.pair (.slice (.pair .str (.pair (.slice (.pair (.int .i64) (.pair (.int .i64) .unit))) .unit))) .unit))) .unit))], f53_v, [fun ps ls qs => ⟨[.imm .bool (lf qs 0)], [.imm (.pair .str (.pair (.slice (.pair (.int .i64) (.pair (.slice (.pair .str (.pair (.slice (.pair (.int .i64) (.pair (.int .i64) .unit))) .unit))) .unit))) .unit)) (lf ps 0)]⟩]⟩
noncomputable def f53_u : List Cu := [.loop 58 f53_k58 f53_o58 f53_s58]
noncomputable def f53_c : Cx := ⟨Try.prog, envOf [f126_e, f127_e], 40, lOf f53_u⟩
noncomputable def f53_b : Code := match Try.f53.body with | some b => b | none => .skip
theorem f53_q58 : (Cu.loop 58 f53_k58 f53_o58 f53_s58).Ok f53_c f53_b := ⟨by kernel_rfl, fun ls Kr Kx => by kernel_rfl⟩
theorem f53_x (ps : List P) (ls : List Nat) : execFn f53_c 53 f53_e.tm (explF ps 1 0) ls = (f53_t ps).run fun q => altR (f53_e.res.map fun f => f ps ls) 0 q some := by kernel_rfl
theorem f53_ok : OkEnt Try.prog f53_e := ent_ok (c := f53_c) (g := 53) (body := f53_b) (us := f53_u) (n := 1) (t := f53_t) (good_envOf _ ⟨f126_ok, f127_ok, trivial⟩) Try.func53 rfl Try.call53 rfl ⟨f53_q58, trivial⟩ (by kernel_rfl) f53_x (fun _ => rfl)
/-! ### comprador/compradorlaw09.awake -/
noncomputable def f52_t (ps : List P) : Tree (Nat × List P) :=
 .loop (f124_v [.pair (.str ⟨#[97]⟩) (.pair (.list false [.pair (.int .i64 (1000000 : Int)) (.pair (.list true []) .unit), .pair (.int .i64 (2000000 : Int)) (.pair (.list true []) .unit)]) .unit), .list false [.pair (.int .i64 (0 : Int)) (.pair (.int .i64 (2000000 : Int)) .unit)]]) fun x1 =>
  .ite (Nat.beq x1.1 0) (
   .loop (down125_v [.pair (.str ⟨#[97]⟩) (.pair (.list false [.pair (.int .i64 (1000000 : Int)) (.pair (.list true []) .unit), .pair (.int .i64 (2000000 : Int)) (.pair (.list true []) .unit)]) .unit), .list false [.pair (.int .i64 (0 : Int)) (.pair (.int .i64 (1000000000 : Int)) .unit)]]) fun x2 =>
    .ite (Nat.beq x2.1 0) (
     .loop (f53_v [.pair (.str ⟨#[97]⟩) (.pair (.list false [.pair (.int .i64 (1000000 : Int)) (.pair (.list true []) .unit), .pair (.int .i64 (2000000 : Int)) (.pair (.list true []) .unit)]) .unit)]) fun x3 =>
      .ite (Nat.beq x3.1 0) (
       .ite ((lf x3.2 0).toBool) (
        .ite (((lf x1.2 0).toInt) == (1000000 : Int)) (
         .ite ((lf x1.2 1).toBool) (
          .ite ((((lf x2.2 0).xs).length : Int) == (2 : Int)) (
           .ite (inb (0 : Int) (((lf x2.2 0).xs).length)) (
            .ret (0, [.bool (((rd ((lf x2.2 0).xs) 0).toInt) == (2000000 : Int))])) (
            .fail)) (
           .ret (0, [.bool false]))) (
          .ret (0, [.bool false]))) (
         .ret (0, [.bool false]))) (
        .ret (0, [.bool false]))) (
       .fail)) (
     .fail)) (
   .fail)
noncomputable def f52_v (ps : List P) : Option (Nat × List P) := (f52_t ps).run some
noncomputable def f52_e : EntD := ⟨52, [], f52_v, [fun ps ls qs => ⟨[.imm .bool (lf qs 0)], []⟩]⟩
noncomputable def f52_u : List Cu := []
noncomputable def f52_c : Cx := ⟨Try.prog, envOf [f53_e, f124_e, down125_e], 40, lOf f52_u⟩
noncomputable def f52_b : Code := match Try.f52.body with | some b => b | none => .skip
theorem f52_x (ps : List P) (ls : List Nat) : execFn f52_c 52 f52_e.tm (explF ps 0 0) ls = (f52_t ps).run fun q => altR (f52_e.res.map fun f => f ps ls) 0 q some := by kernel_rfl
theorem f52_ok : OkEnt Try.prog f52_e := ent_ok (c := f52_c) (g := 52) (body := f52_b) (us := f52_u) (n := 0) (t := f52_t) (good_envOf _ ⟨f53_ok, f124_ok, down125_ok, trivial⟩) Try.func52 rfl Try.call52 rfl trivial (by kernel_rfl) f52_x (fun _ => rfl)
/-! ### comprador/compradorref05.Fit -/
noncomputable def f128_t (ps : List P) : Tree (Nat × List P) :=
 .ite (decide ((lf ps 0).toInt ≥ (0 : Int))) (
  .ret (0, [.bool (decide ((lf ps 0).toInt < (1000000000 : Int)))])) (
  .ret (0, [.bool false]))
noncomputable def f128_v (ps : List P) : Option (Nat × List P) := (f128_t ps).run some
noncomputable def f128_e : EntD := ⟨128, [.imm (.int .i64)], f128_v, [fun ps ls qs => ⟨[.imm .bool (lf qs 0)], [.imm (.int .i64) (lf ps 0)]⟩]⟩
noncomputable def f128_u : List Cu := []
noncomputable def f128_c : Cx := ⟨Try.prog, envOf [], 9, lOf f128_u⟩
noncomputable def f128_b : Code := match Try.f128.body with | some b => b | none => .skip
theorem f128_x (ps : List P) (ls : List Nat) : execFn f128_c 128 f128_e.tm (explF ps 1 0) ls = (f128_t ps).run fun q => altR (f128_e.res.map fun f => f ps ls) 0 q some := by kernel_rfl
theorem f128_ok : OkEnt Try.prog f128_e := ent_ok (c := f128_c) (g := 128) (body := f128_b) (us := f128_u) (n := 1) (t := f128_t) (good_envOf _ trivial) Try.func128 rfl Try.call128 rfl trivial (by kernel_rfl) f128_x (fun _ => rfl)
end Go.Proofs.Ytjemihhhkhdbeaa
