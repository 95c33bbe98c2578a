/- Functions: what each tells. Conditions: none. -/
import Derived.Test.YtjemihhhkhdbeaaFTfh
open Go Go.Eng Go.Proofs
set_option pp.deepTerms true
set_option linter.unusedVariables false
namespace Go.Proofs.Ytjemihhhkhdbeaa
/-! ### comprador/compradorlaw35.skip -/
noncomputable def f24_k58 : Sk := { t := [(0, .imm (.slice (.pair (.int .i64) (.pair (.int .i64) (.pair .str .unit)))) .unit), (3, .imm (.int .i64) .unit)], h := [] }
noncomputable def f24_o58 : List (Out × Sk) := [(.ret, { t := [(2, .imm .bool .unit)], h := [] }), ((.exit 0), { t := [], h := [] })]
noncomputable def f24_s58 (ls : List P) : Tree Step :=
 .ite (decide ((lf ls 1).toInt < (((lf ls 0).xs).length : Int))) (
  .ite (inb ((lf ls 1).toInt) (((lf ls 0).xs).length)) (
   .ite (decide (((((((rd ((lf ls 0).xs) (((lf ls 1).toInt).toNat)).snd).snd).fst).toStr).size : Int) > (60 : Int))) (
    .ret (.inr (0, [.bool true]))) (
    .ret (.inl [lf ls 0, .int .i64 (IntKind.i64.wrap (((lf ls 1).toInt) + (1 : Int)))]))) (
   .fail)) (
  .ret (.inr (1, [])))
noncomputable def f24_t (ps : List P) : Tree (Nat × List P) :=
 .ite (decide ((((lf ps 0).xs).length : Int) > (150 : Int))) (
  .ret (0, [.bool true])) (
  .loop (loopT f24_s58 FUEL [lf ps 0, .int .i64 (0 : Int)]) fun y1 =>
   .ite (Nat.beq y1.1 0) (
    .ret (0, [lf y1.2 0])) (
    .ite (Nat.beq y1.1 1) (
     .ret (0, [.bool false])) (
     .fail)))
noncomputable def f24_v (ps : List P) : Option (Nat × List P) := (f24_t ps).run some
noncomputable def f24_e : EntD := ⟨24, [.imm (.slice (.pair (.int .i64) (.pair (.int .i64) (.pair .str .unit))))], f24_v, [fun ps ls qs => ⟨[.imm .bool (lf qs 0)], [.imm (.slice (.pair (.int .i64) (.pair (.int .i64) (.pair .str .unit)))) (lf ps 0)]⟩]⟩
noncomputable def f24_u : List Cu := [.loop 58 f24_k58 f24_o58 f24_s58]
noncomputable def f24_c : Cx := ⟨Try.prog, envOf [], 20, lOf f24_u, fun _ => false⟩
noncomputable def f24_b : Code := match Try.f24.body with | some b => b | none => .skip
theorem f24_q58 : (Cu.loop 58 f24_k58 f24_o58 f24_s58).Ok f24_c f24_b := ⟨by kernel_rfl, fun ls Kr Kx => by kernel_rfl⟩
theorem f24_x (ps : List P) (ls : List Nat) : execFn f24_c 24 f24_e.tm (explF ps 1 0) ls = (f24_t ps).run fun q => altR (f24_e.res.map fun f => f ps ls) 0 q some := by kernel_rfl
theorem f24_ok : OkEnt Try.prog f24_e := ent_ok (c := f24_c) (g := 24) (body := f24_b) (us := f24_u) (n := 1) (t := f24_t) (good_envOf _ trivial) Try.func24 rfl Try.call24 rfl ⟨f24_q58, trivial⟩ (by kernel_rfl) f24_x (fun _ => rfl)
/-! ### comprador/turn.New -/
noncomputable def f26_t (ps : List P) : Tree (Nat × List P) :=
 .ite (decide ((lf ps 0).toInt < (1 : Int))) (
  .ret (0, [.nilp])) (
  .ite (decide ((lf ps 0).toInt > (100 : Int))) (
   .ret (0, [.nilp])) (
   .ite (decide ((0 : Int) ≤ (lf ps 0).toInt ∧ (lf ps 0).toInt ≤ (lf ps 0).toInt ∧ ((lf ps 0).toInt) * 24 ≤ 140737488355328 ∧ (lf ps 0).toInt ≤ 140737488355328)) (
    .ret (1, [.list false (List.replicate (((lf ps 0).toInt).toNat) (.pair (.list true []) .unit)), .pair (.int .i64 (IntKind.i64.wrap (((lf ps 0).toInt) - (1 : Int)))) .unit])) (
    .fail)))
noncomputable def f26_v (ps : List P) : Option (Nat × List P) := (f26_t ps).run some
noncomputable def f26_e : EntD := ⟨26, [.imm (.int .i64)], f26_v, [fun ps ls qs => ⟨[.imm .ptr (lf qs 0)], [.imm (.int .i64) (lf ps 0)]⟩, fun ps ls qs => ⟨[.box 0 (.pair (.slice (.pair (.slice .str) .unit)) (.pair (.int .i64) .unit)) (.pair (.blk 0 (.at (.pair (.slice .str) .unit)) (lf qs 0)) (.imm (.pair (.int .i64) .unit) (lf qs 1)))], [.imm (.int .i64) (lf ps 0)]⟩]⟩
noncomputable def f26_u : List Cu := []
noncomputable def f26_c : Cx := ⟨Try.prog, envOf [], 15, lOf f26_u, fun d => memB d [10]⟩
noncomputable def f26_b : Code := match Try.f26.body with | some b => b | none => .skip
theorem f26_x (ps : List P) (ls : List Nat) : execFn f26_c 26 f26_e.tm (explF ps 1 0) ls = (f26_t ps).run fun q => altR (f26_e.res.map fun f => f ps ls) 0 q some := by kernel_rfl
theorem f26_ok : OkEnt Try.prog f26_e := ent_ok (c := f26_c) (g := 26) (body := f26_b) (us := f26_u) (n := 1) (t := f26_t) (good_envOf _ trivial) Try.func26 rfl Try.call26 rfl trivial (by kernel_rfl) f26_x (fun _ => rfl)
/-! ### (*comprador/turn.Turn).at -/
noncomputable def f110_t (ps : List P) : Tree (Nat × List P) :=
 .ite (decide ((lf ps 2).toInt < (0 : Int))) (
  .ret (0, [.nilp])) (
  .ite (decide ((lf ps 2).toInt ≥ (((lf ps 0).xs).length : Int))) (
   .ret (0, [.nilp])) (
   .ite (inb ((lf ps 2).toInt) (((lf ps 0).xs).length)) (
    .ret (1, [])) (
    .fail)))
noncomputable def f110_v (ps : List P) : Option (Nat × List P) := (f110_t ps).run some
noncomputable def f110_e : EntD := ⟨110, [.box (.pair (.slice (.pair (.slice .str) .unit)) (.pair (.int .i64) .unit)) (.pair (.blk (.at (.pair (.slice .str) .unit))) (.imm (.pair (.int .i64) .unit))), .imm (.int .i64)], f110_v, [fun ps ls qs => ⟨[.imm .ptr (lf qs 0)], [.box (ls.getD 0 0) (.pair (.slice (.pair (.slice .str) .unit)) (.pair (.int .i64) .unit)) (.pair (.blk (ls.getD 1 0) (.at (.pair (.slice .str) .unit)) (lf ps 0)) (.imm (.pair (.int .i64) .unit) (lf ps 1))), .imm (.int .i64) (lf ps 2)]⟩, fun ps ls qs => ⟨[.ref (ls.getD 1 0) [.i ((lf ps 2)).toInt.toNat] (.pair (.slice .str) .unit)], [.box (ls.getD 0 0) (.pair (.slice (.pair (.slice .str) .unit)) (.pair (.int .i64) .unit)) (.pair (.blk (ls.getD 1 0) (.at (.pair (.slice .str) .unit)) (lf ps 0)) (.imm (.pair (.int .i64) .unit) (lf ps 1))), .imm (.int .i64) (lf ps 2)]⟩]⟩
noncomputable def f110_u : List Cu := []
noncomputable def f110_c : Cx := ⟨Try.prog, envOf [], 26, lOf f110_u, fun _ => false⟩
noncomputable def f110_b : Code := match Try.f110.body with | some b => b | none => .skip
theorem f110_x (ps : List P) (ls : List Nat) : execFn f110_c 110 f110_e.tm (explF ps 3 0) ls = (f110_t ps).run fun q => altR (f110_e.res.map fun f => f ps ls) 0 q some := by kernel_rfl
theorem f110_ok : OkEnt Try.prog f110_e := ent_ok (c := f110_c) (g := 110) (body := f110_b) (us := f110_u) (n := 3) (t := f110_t) (good_envOf _ trivial) Try.func110 rfl Try.call110 rfl trivial (by kernel_rfl) f110_x (fun _ => rfl)
/-! ### slices.Index[[]string,string] -/
noncomputable def f191_k26 : Sk := { t := [(0, .imm (.slice .str) .unit), (1, .imm .str .unit), (7, .imm (.int .i64) .unit), (8, .imm (.int .i64) .unit)], h := [] }
noncomputable def f191_o26 : List (Out × Sk) := [(.ret, { t := [(4, .imm (.int .i64) .unit)], h := [] }), ((.exit 0), { t := [], h := [] })]
noncomputable def f191_s26 (ls : List P) : Tree Step :=
 .ite (decide ((lf ls 3).toInt < (lf ls 2).toInt)) (
  .ite (inb ((lf ls 3).toInt) (((lf ls 0).xs).length)) (
   .ite (strEq ((lf ls 1).toStr) ((rd ((lf ls 0).xs) (((lf ls 3).toInt).toNat)).toStr)) (
    .ret (.inr (0, [lf ls 3]))) (
    .ret (.inl [lf ls 0, lf ls 1, lf ls 2, .int .i64 (IntKind.i64.wrap (((lf ls 3).toInt) + (1 : Int)))]))) (
   .fail)) (
  .ret (.inr (1, [])))
noncomputable def f191_t (ps : List P) : Tree (Nat × List P) :=
 .loop (loopT f191_s26 FUEL [lf ps 0, lf ps 1, .int .i64 (((lf ps 0).xs).length : Int), .int .i64 (0 : Int)]) fun y1 =>
  .ite (Nat.beq y1.1 0) (
   .ret (0, [lf y1.2 0])) (
   .ite (Nat.beq y1.1 1) (
    .ret (0, [.int .i64 (-1 : Int)])) (
    .fail))
noncomputable def f191_v (ps : List P) : Option (Nat × List P) := (f191_t ps).run some
noncomputable def f191_e : EntD := ⟨191, [.imm (.slice .str), .imm .str], f191_v, [fun ps ls qs => ⟨[.imm (.int .i64) (lf qs 0)], [.imm (.slice .str) (lf ps 0), .imm .str (lf ps 1)]⟩]⟩
noncomputable def f191_u : List Cu := [.loop 26 f191_k26 f191_o26 f191_s26]
noncomputable def f191_c : Cx := ⟨Try.prog, envOf [], 19, lOf f191_u, fun _ => false⟩
noncomputable def f191_b : Code := match Try.f191.body with | some b => b | none => .skip
theorem f191_q26 : (Cu.loop 26 f191_k26 f191_o26 f191_s26).Ok f191_c f191_b := ⟨by kernel_rfl, fun ls Kr Kx => by kernel_rfl⟩
theorem f191_x (ps : List P) (ls : List Nat) : execFn f191_c 191 f191_e.tm (explF ps 2 0) ls = (f191_t ps).run fun q => altR (f191_e.res.map fun f => f ps ls) 0 q some := by kernel_rfl
theorem f191_ok : OkEnt Try.prog f191_e := ent_ok (c := f191_c) (g := 191) (body := f191_b) (us := f191_u) (n := 2) (t := f191_t) (good_envOf _ trivial) Try.func191 rfl Try.call191 rfl ⟨f191_q26, trivial⟩ (by kernel_rfl) f191_x (fun _ => rfl)
/-! ### slices.Contains[[]string,string] -/
noncomputable def f168_t (ps : List P) : Tree (Nat × List P) :=
 .loop (f191_v [lf ps 0, lf ps 1]) fun x1 =>
  .ite (Nat.beq x1.1 0) (
   .ret (0, [.bool (decide ((lf x1.2 0).toInt ≥ (0 : Int)))])) (
   .fail)
noncomputable def f168_v (ps : List P) : Option (Nat × List P) := (f168_t ps).run some
noncomputable def f168_e : EntD := ⟨168, [.imm (.slice .str), .imm .str], f168_v, [fun ps ls qs => ⟨[.imm .bool (lf qs 0)], [.imm (.slice .str) (lf ps 0), .imm .str (lf ps 1)]⟩]⟩
noncomputable def f168_u : List Cu := []
noncomputable def f168_c : Cx := ⟨Try.prog, envOf [f191_e], 9, lOf f168_u, fun _ => false⟩
noncomputable def f168_b : Code := match Try.f168.body with | some b => b | none => .skip
theorem f168_x (ps : List P) (ls : List Nat) : execFn f168_c 168 f168_e.tm (explF ps 2 0) ls = (f168_t ps).run fun q => altR (f168_e.res.map fun f => f ps ls) 0 q some := by kernel_rfl
theorem f168_ok : OkEnt Try.prog f168_e := ent_ok (c := f168_c) (g := 168) (body := f168_b) (us := f168_u) (n := 2) (t := f168_t) (good_envOf _ ⟨f191_ok, trivial⟩) Try.func168 rfl Try.call168 rfl trivial (by kernel_rfl) f168_x (fun _ => rfl)
/-! ### (*comprador/turn.queue[string]).push -/
noncomputable def f111_t (ps : List P) : Tree (Nat × List P) :=
 .loop (f168_v [(rd ((lf ps 0).xs) (((lf ps 1).toInt).toNat)).fst, lf ps 2]) fun x1 =>
  .ite (Nat.beq x1.1 0) (
   .ite ((lf x1.2 0).toBool) (
    .ret (0, [.bool false, lf ps 0])) (
    .ite (decide (((((rd ((lf ps 0).xs) (((lf ps 1).toInt).toNat)).fst).xs).length + 1) * 16 ≤ 140737488355328)) (
     .ite (Nat.beq (((lf ps 1).toInt).toNat) (((lf ps 1).toInt).toNat)) (
      .ite (Nat.beq (((lf ps 1).toInt).toNat) (((lf ps 1).toInt).toNat)) (
       .ret (0, [.bool true, .list false (((lf ps 0).xs).set (((lf ps 1).toInt).toNat) (.pair (.list ((((rd ((lf ps 0).xs) (((lf ps 1).toInt).toNat)).fst).isNil) && false) ((((rd ((lf ps 0).xs) (((lf ps 1).toInt).toNat)).fst).xs) ++ ([lf ps 2] : List P))) ((rd ((lf ps 0).xs) (((lf ps 1).toInt).toNat)).snd)))])) (
       .fail)) (
      .fail)) (
     .fail))) (
   .fail)
noncomputable def f111_v (ps : List P) : Option (Nat × List P) := (f111_t ps).run some
noncomputable def f111_e : EntD := ⟨111, [.pel (.pair (.slice .str) .unit), .imm .str], f111_v, [fun ps ls qs => ⟨[.imm .bool (lf qs 0)], [.pel (ls.getD 0 0) (.pair (.slice .str) .unit) ((lf ps 1)).toInt.toNat (lf qs 1), .imm .str (lf ps 2)]⟩]⟩
noncomputable def f111_u : List Cu := []
noncomputable def f111_c : Cx := ⟨Try.prog, envOf [f168_e], 21, lOf f111_u, fun _ => false⟩
noncomputable def f111_b : Code := match Try.f111.body with | some b => b | none => .skip
theorem f111_x (ps : List P) (ls : List Nat) : execFn f111_c 111 f111_e.tm (explF ps 3 0) ls = (f111_t ps).run fun q => altR (f111_e.res.map fun f => f ps ls) 0 q some := by kernel_rfl
theorem f111_ok : OkEnt Try.prog f111_e := ent_ok (c := f111_c) (g := 111) (body := f111_b) (us := f111_u) (n := 3) (t := f111_t) (good_envOf _ ⟨f168_ok, trivial⟩) Try.func111 rfl Try.call111 rfl trivial (by kernel_rfl) f111_x (fun _ => rfl)
/-! ### (*comprador/turn.Turn).Push -/
noncomputable def f27_t (ps : List P) : Tree (Nat × List P) :=
 .loop (f110_v [lf ps 0, lf ps 1, lf ps 2]) fun x1 =>
  .ite (Nat.beq x1.1 0) (
   .ret (0, [.bool false, lf ps 0])) (
   .ite (Nat.beq x1.1 1) (
    .loop (f111_v [lf ps 0, .int .i64 (((lf ps 2).toInt).toNat : Int), lf ps 3]) fun x2 =>
     .ite (Nat.beq x2.1 0) (
      .ret (0, [lf x2.2 0, lf x2.2 1])) (
      .fail)) (
    .fail))
noncomputable def f27_v (ps : List P) : Option (Nat × List P) := (f27_t ps).run some
noncomputable def f27_e : EntD := ⟨27, [.box (.pair (.slice (.pair (.slice .str) .unit)) (.pair (.int .i64) .unit)) (.pair (.blk (.at (.pair (.slice .str) .unit))) (.imm (.pair (.int .i64) .unit))), .imm (.int .i64), .imm .str], f27_v, [fun ps ls qs => ⟨[.imm .bool (lf qs 0)], [.box (ls.getD 0 0) (.pair (.slice (.pair (.slice .str) .unit)) (.pair (.int .i64) .unit)) (.pair (.blk (ls.getD 1 0) (.at (.pair (.slice .str) .unit)) (lf qs 1)) (.imm (.pair (.int .i64) .unit) (lf ps 1))), .imm (.int .i64) (lf ps 2), .imm .str (lf ps 3)]⟩]⟩
noncomputable def f27_u : List Cu := []
noncomputable def f27_c : Cx := ⟨Try.prog, envOf [f110_e, f111_e], 18, lOf f27_u, fun _ => false⟩
noncomputable def f27_b : Code := match Try.f27.body with | some b => b | none => .skip
theorem f27_x (ps : List P) (ls : List Nat) : execFn f27_c 27 f27_e.tm (explF ps 4 0) ls = (f27_t ps).run fun q => altR (f27_e.res.map fun f => f ps ls) 0 q some := by kernel_rfl
theorem f27_ok : OkEnt Try.prog f27_e := ent_ok (c := f27_c) (g := 27) (body := f27_b) (us := f27_u) (n := 4) (t := f27_t) (good_envOf _ ⟨f110_ok, f111_ok, trivial⟩) Try.func27 rfl Try.call27 rfl trivial (by kernel_rfl) f27_x (fun _ => rfl)
/-! ### (*comprador/turn.queue[string]).pop -/
noncomputable def f112_t (ps : List P) : Tree (Nat × List P) :=
 .ite (inb (0 : Int) ((((rd ((lf ps 0).xs) (((lf ps 1).toInt).toNat)).fst).xs).length)) (
  .ite (decide ((0 : Int) ≤ (1 : Int) ∧ (1 : Int) ≤ ((((rd ((lf ps 0).xs) (((lf ps 1).toInt).toNat)).fst).xs).length : Int) ∧ ((((rd ((lf ps 0).xs) (((lf ps 1).toInt).toNat)).fst).xs).length : Int) ≤ ((((rd ((lf ps 0).xs) (((lf ps 1).toInt).toNat)).fst).xs).length : Int))) (
   .ite (Nat.beq (((lf ps 1).toInt).toNat) (((lf ps 1).toInt).toNat)) (
    .ret (0, [rd (((rd ((lf ps 0).xs) (((lf ps 1).toInt).toNat)).fst).xs) 0, .list false (((lf ps 0).xs).set (((lf ps 1).toInt).toNat) (.pair (.list (((rd ((lf ps 0).xs) (((lf ps 1).toInt).toNat)).fst).isNil) (((((rd ((lf ps 0).xs) (((lf ps 1).toInt).toNat)).fst).xs).take (((((rd ((lf ps 0).xs) (((lf ps 1).toInt).toNat)).fst).xs).length : Int).toNat)).drop 1)) ((rd ((lf ps 0).xs) (((lf ps 1).toInt).toNat)).snd)))])) (
    .fail)) (
   .fail)) (
  .fail)
noncomputable def f112_v (ps : List P) : Option (Nat × List P) := (f112_t ps).run some
noncomputable def f112_e : EntD := ⟨112, [.pel (.pair (.slice .str) .unit)], f112_v, [fun ps ls qs => ⟨[.imm .str (lf qs 0)], [.pel (ls.getD 0 0) (.pair (.slice .str) .unit) ((lf ps 1)).toInt.toNat (lf qs 1)]⟩]⟩
noncomputable def f112_u : List Cu := []
noncomputable def f112_c : Cx := ⟨Try.prog, envOf [], 19, lOf f112_u, fun _ => false⟩
noncomputable def f112_b : Code := match Try.f112.body with | some b => b | none => .skip
theorem f112_x (ps : List P) (ls : List Nat) : execFn f112_c 112 f112_e.tm (explF ps 2 0) ls = (f112_t ps).run fun q => altR (f112_e.res.map fun f => f ps ls) 0 q some := by kernel_rfl
theorem f112_ok : OkEnt Try.prog f112_e := ent_ok (c := f112_c) (g := 112) (body := f112_b) (us := f112_u) (n := 2) (t := f112_t) (good_envOf _ trivial) Try.func112 rfl Try.call112 rfl trivial (by kernel_rfl) f112_x (fun _ => rfl)
/-! ### (*comprador/turn.Turn).Pop -/
noncomputable def f28_k58 : Sk := { t := [(0, .ref 2001 [] (.pair (.slice (.pair (.slice .str) .unit)) (.pair (.int .i64) .unit))), (13, .imm (.int .i64) .unit), (14, .imm (.int .i64) .unit)], h := [(2001, .obj (.pair (.slice (.pair (.slice .str) .unit)) (.pair (.int .i64) .unit)) (.pair (.blk 2002 (.at (.pair (.slice .str) .unit))) (.imm (.pair (.int .i64) .unit) .unit))), (2002, .blk (.at (.pair (.slice .str) .unit)) .unit)] }
noncomputable def f28_o58 : List (Out × Sk) := [(.ret, { t := [(0, .ref 2001 [] (.pair (.slice (.pair (.slice .str) .unit)) (.pair (.int .i64) .unit))), (2, .imm (.int .i64) .unit), (3, .imm .str .unit), (4, .imm .bool .unit)], h := [(2001, .obj (.pair (.slice (.pair (.slice .str) .unit)) (.pair (.int .i64) .unit)) (.pair (.blk 2002 (.at (.pair (.slice .str) .unit))) (.imm (.pair (.int .i64) .unit) .unit))), (2002, .blk (.at (.pair (.slice .str) .unit)) .unit)] }), ((.exit 0), { t := [(0, .ref 2001 [] (.pair (.slice (.pair (.slice .str) .unit)) (.pair (.int .i64) .unit)))], h := [(2001, .obj (.pair (.slice (.pair (.slice .str) .unit)) (.pair (.int .i64) .unit)) (.pair (.blk 2002 (.at (.pair (.slice .str) .unit))) (.imm (.pair (.int .i64) .unit) .unit))), (2002, .blk (.at (.pair (.slice .str) .unit)) .unit)] })]
noncomputable def f28_s58 (ls : List P) : Tree Step :=
 .ite (decide ((lf ls 1).toInt < (lf ls 0).toInt)) (
  .ite ((((lf ls 3).xs).length : Int) == 0) (
   .fail) (
   .ite (inb ((IntKind.i64.wrap ((IntKind.i64.wrap ((((lf ls 2).fst).toInt) + (1 : Int))) + ((lf ls 1).toInt))).tmod (((lf ls 3).xs).length : Int)) (((lf ls 3).xs).length)) (
    .ite (decide (((((rd ((lf ls 3).xs) (((IntKind.i64.wrap ((IntKind.i64.wrap ((((lf ls 2).fst).toInt) + (1 : Int))) + ((lf ls 1).toInt))).tmod (((lf ls 3).xs).length : Int)).toNat)).fst).xs).length : Int) > (0 : Int))) (
     .ite (inb ((IntKind.i64.wrap ((IntKind.i64.wrap ((((lf ls 2).fst).toInt) + (1 : Int))) + ((lf ls 1).toInt))).tmod (((lf ls 3).xs).length : Int)) (((lf ls 3).xs).length)) (
      .loop (f112_v [lf ls 3, .int .i64 (((IntKind.i64.wrap ((IntKind.i64.wrap ((((lf ls 2).fst).toInt) + (1 : Int))) + ((lf ls 1).toInt))).tmod (((lf ls 3).xs).length : Int)).toNat : Int)]) fun x1 =>
       .ite (Nat.beq x1.1 0) (
        .ret (.inr (0, [.int .i64 ((IntKind.i64.wrap ((IntKind.i64.wrap ((((lf ls 2).fst).toInt) + (1 : Int))) + ((lf ls 1).toInt))).tmod (((lf ls 3).xs).length : Int)), lf x1.2 0, .bool true, .pair (.int .i64 ((IntKind.i64.wrap ((IntKind.i64.wrap ((((lf ls 2).fst).toInt) + (1 : Int))) + ((lf ls 1).toInt))).tmod (((lf ls 3).xs).length : Int))) ((lf ls 2).snd), lf x1.2 1]))) (
        .fail)) (
      .fail)) (
     .ret (.inl [lf ls 0, .int .i64 (IntKind.i64.wrap (((lf ls 1).toInt) + (1 : Int))), lf ls 2, lf ls 3]))) (
    .fail))) (
  .ret (.inr (1, [lf ls 2, lf ls 3])))
noncomputable def f28_t (ps : List P) : Tree (Nat × List P) :=
 .loop (loopT f28_s58 FUEL [.int .i64 (((lf ps 0).xs).length : Int), .int .i64 (0 : Int), lf ps 1, lf ps 0]) fun y2 =>
  .ite (Nat.beq y2.1 0) (
   .ret (0, [lf y2.2 0, lf y2.2 1, lf y2.2 2, lf y2.2 4, lf y2.2 3])) (
   .ite (Nat.beq y2.1 1) (
    .ret (0, [.int .i64 (0 : Int), .str .empty, .bool false, lf y2.2 1, lf y2.2 0])) (
    .fail))
noncomputable def f28_v (ps : List P) : Option (Nat × List P) := (f28_t ps).run some
noncomputable def f28_e : EntD := ⟨28, [.box (.pair (.slice (.pair (.slice .str) .unit)) (.pair (.int .i64) .unit)) (.pair (.blk (.at (.pair (.slice .str) .unit))) (.imm (.pair (.int .i64) .unit)))], f28_v, [fun ps ls qs => ⟨[.imm (.int .i64) (lf qs 0), .imm .str (lf qs 1), .imm .bool (lf qs 2)], [.box (ls.getD 0 0) (.pair (.slice (.pair (.slice .str) .unit)) (.pair (.int .i64) .unit)) (.pair (.blk (ls.getD 1 0) (.at (.pair (.slice .str) .unit)) (lf qs 3)) (.imm (.pair (.int .i64) .unit) (lf qs 4)))]⟩]⟩
noncomputable def f28_u : List Cu := [.loop 58 f28_k58 f28_o58 f28_s58]
noncomputable def f28_c : Cx := ⟨Try.prog, envOf [f112_e], 53, lOf f28_u, fun _ => false⟩
noncomputable def f28_b : Code := match Try.f28.body with | some b => b | none => .skip
theorem f28_q58 : (Cu.loop 58 f28_k58 f28_o58 f28_s58).Ok f28_c f28_b := ⟨by kernel_rfl, fun ls Kr Kx => by kernel_rfl⟩
theorem f28_x (ps : List P) (ls : List Nat) : execFn f28_c 28 f28_e.tm (explF ps 2 0) ls = (f28_t ps).run fun q => altR (f28_e.res.map fun f => f ps ls) 0 q some := by kernel_rfl
theorem f28_ok : OkEnt Try.prog f28_e := ent_ok (c := f28_c) (g := 28) (body := f28_b) (us := f28_u) (n := 2) (t := f28_t) (good_envOf _ ⟨f112_ok, trivial⟩) Try.func28 rfl Try.call28 rfl ⟨f28_q58, trivial⟩ (by kernel_rfl) f28_x (fun _ => rfl)
/-! ### (*comprador/turn.Turn).at -/
noncomputable def f110_1_t (ps : List P) : Tree (Nat × List P) :=
 .ret (0, [.nilp])
noncomputable def f110_1_v (ps : List P) : Option (Nat × List P) := (f110_1_t ps).run some
noncomputable def f110_1_e : EntD := ⟨110, [.imm .ptr, .imm (.int .i64)], f110_1_v, [fun ps ls qs => ⟨[.imm .ptr (lf qs 0)], [.imm .ptr (lf ps 0), .imm (.int .i64) (lf ps 1)]⟩]⟩
noncomputable def f110_1_u : List Cu := []
noncomputable def f110_1_c : Cx := ⟨Try.prog, envOf [], 26, lOf f110_1_u, fun _ => false⟩
noncomputable def f110_1_b : Code := match Try.f110.body with | some b => b | none => .skip
theorem f110_1_x (ps : List P) (ls : List Nat) : execFn f110_1_c 110 f110_1_e.tm (explF ps 2 0) ls = (f110_1_t ps).run fun q => altR (f110_1_e.res.map fun f => f ps ls) 0 q some := by kernel_rfl
theorem f110_1_ok : OkEnt Try.prog f110_1_e := ent_ok (c := f110_1_c) (g := 110) (body := f110_1_b) (us := f110_1_u) (n := 2) (t := f110_1_t) (good_envOf _ trivial) Try.func110 rfl Try.call110 rfl trivial (by kernel_rfl) f110_1_x (fun _ => rfl)
/-! ### (*comprador/turn.Turn).Push -/
noncomputable def f27_1_t (ps : List P) : Tree (Nat × List P) :=
 .loop (f110_1_v [lf ps 0, lf ps 1]) fun x1 =>
  .ite (Nat.beq x1.1 0) (
   .ret (0, [.bool false])) (
   .fail)
noncomputable def f27_1_v (ps : List P) : Option (Nat × List P) := (f27_1_t ps).run some
noncomputable def f27_1_e : EntD := ⟨27, [.imm .ptr, .imm (.int .i64), .imm .str], f27_1_v, [fun ps ls qs => ⟨[.imm .bool (lf qs 0)], [.imm .ptr (lf ps 0), .imm (.int .i64) (lf ps 1), .imm .str (lf ps 2)]⟩]⟩
noncomputable def f27_1_u : List Cu := []
noncomputable def f27_1_c : Cx := ⟨Try.prog, envOf [f110_1_e], 18, lOf f27_1_u, fun _ => false⟩
noncomputable def f27_1_b : Code := match Try.f27.body with | some b => b | none => .skip
theorem f27_1_x (ps : List P) (ls : List Nat) : execFn f27_1_c 27 f27_1_e.tm (explF ps 3 0) ls = (f27_1_t ps).run fun q => altR (f27_1_e.res.map fun f => f ps ls) 0 q some := by kernel_rfl
theorem f27_1_ok : OkEnt Try.prog f27_1_e := ent_ok (c := f27_1_c) (g := 27) (body := f27_1_b) (us := f27_1_u) (n := 3) (t := f27_1_t) (good_envOf _ ⟨f110_1_ok, trivial⟩) Try.func27 rfl Try.call27 rfl trivial (by kernel_rfl) f27_1_x (fun _ => rfl)
/-! ### (*comprador/turn.Turn).Pop -/
noncomputable def f28_1_t (ps : List P) : Tree (Nat × List P) :=
 .ret (0, [.int .i64 (0 : Int), .str .empty, .bool false])
noncomputable def f28_1_v (ps : List P) : Option (Nat × List P) := (f28_1_t ps).run some
noncomputable def f28_1_e : EntD := ⟨28, [.imm .ptr], f28_1_v, [fun ps ls qs => ⟨[.imm (.int .i64) (lf qs 0), .imm .str (lf qs 1), .imm .bool (lf qs 2)], [.imm .ptr (lf ps 0)]⟩]⟩
noncomputable def f28_1_u : List Cu := []
noncomputable def f28_1_c : Cx := ⟨Try.prog, envOf [], 53, lOf f28_1_u, fun _ => false⟩
noncomputable def f28_1_b : Code := match Try.f28.body with | some b => b | none => .skip
theorem f28_1_x (ps : List P) (ls : List Nat) : execFn f28_1_c 28 f28_1_e.tm (explF ps 1 0) ls = (f28_1_t ps).run fun q => altR (f28_1_e.res.map fun f => f ps ls) 0 q some := by kernel_rfl
theorem f28_1_ok : OkEnt Try.prog f28_1_e := ent_ok (c := f28_1_c) (g := 28) (body := f28_1_b) (us := f28_1_u) (n := 1) (t := f28_1_t) (good_envOf _ trivial) Try.func28 rfl Try.call28 rfl trivial (by kernel_rfl) f28_1_x (fun _ => rfl)
/-! ### comprador/compradorlaw35.awake -/
noncomputable def f25_t (ps : List P) : Tree (Nat × List P) :=
 .loop (f26_v [.int .i64 (2 : Int)]) fun x1 =>
  .ite (Nat.beq x1.1 0) (
   .loop (f27_1_v [lf x1.2 0, .int .i64 (0 : Int), .str ⟨#[97]⟩]) fun x14 =>
    .ite (Nat.beq x14.1 0) (
     .ite ((lf x14.2 0).toBool) (
      .loop (f27_1_v [lf x1.2 0, .int .i64 (0 : Int), .str ⟨#[98]⟩]) fun x15 =>
       .ite (Nat.beq x15.1 0) (
        .ite ((lf x15.2 0).toBool) (
         .loop (f27_1_v [lf x1.2 0, .int .i64 (1 : Int), .str ⟨#[99]⟩]) fun x16 =>
          .ite (Nat.beq x16.1 0) (
           .loop (f28_1_v [lf x1.2 0]) fun x17 =>
            .ite (Nat.beq x17.1 0) (
             .loop (f28_1_v [lf x1.2 0]) fun x18 =>
              .ite (Nat.beq x18.1 0) (
               .loop (f28_1_v [lf x1.2 0]) fun x19 =>
                .ite (Nat.beq x19.1 0) (
                 .ite ((lf x16.2 0).toBool) (
                  .ite (strEq ((lf x17.2 1).toStr) ⟨#[97]⟩) (
                   .ite (strEq ((lf x18.2 1).toStr) ⟨#[99]⟩) (
                    .ret (0, [.bool (strEq ((lf x19.2 1).toStr) ⟨#[98]⟩)])) (
                    .ret (0, [.bool false]))) (
                   .ret (0, [.bool false]))) (
                  .ret (0, [.bool false]))) (
                 .fail)) (
               .fail)) (
             .fail)) (
           .fail)) (
         .loop (f28_1_v [lf x1.2 0]) fun x20 =>
          .ite (Nat.beq x20.1 0) (
           .loop (f28_1_v [lf x1.2 0]) fun x21 =>
            .ite (Nat.beq x21.1 0) (
             .loop (f28_1_v [lf x1.2 0]) fun x22 =>
              .ite (Nat.beq x22.1 0) (
               .ret (0, [.bool false])) (
               .fail)) (
             .fail)) (
           .fail))) (
        .fail)) (
      .loop (f28_1_v [lf x1.2 0]) fun x23 =>
       .ite (Nat.beq x23.1 0) (
        .loop (f28_1_v [lf x1.2 0]) fun x24 =>
         .ite (Nat.beq x24.1 0) (
          .loop (f28_1_v [lf x1.2 0]) fun x25 =>
           .ite (Nat.beq x25.1 0) (
            .ret (0, [.bool false])) (
            .fail)) (
          .fail)) (
        .fail))) (
     .fail)) (
   .ite (Nat.beq x1.1 1) (
    .loop (f27_v [lf x1.2 0, lf x1.2 1, .int .i64 (0 : Int), .str ⟨#[97]⟩]) fun x2 =>
     .ite (Nat.beq x2.1 0) (
      .ite ((lf x2.2 0).toBool) (
       .loop (f27_v [lf x2.2 1, lf x1.2 1, .int .i64 (0 : Int), .str ⟨#[98]⟩]) fun x3 =>
        .ite (Nat.beq x3.1 0) (
         .ite ((lf x3.2 0).toBool) (
          .loop (f27_v [lf x3.2 1, lf x1.2 1, .int .i64 (1 : Int), .str ⟨#[99]⟩]) fun x4 =>
           .ite (Nat.beq x4.1 0) (
            .loop (f28_v [lf x4.2 1, lf x1.2 1]) fun x5 =>
             .ite (Nat.beq x5.1 0) (
              .loop (f28_v [lf x5.2 3, lf x5.2 4]) fun x6 =>
               .ite (Nat.beq x6.1 0) (
                .loop (f28_v [lf x6.2 3, lf x6.2 4]) fun x7 =>
                 .ite (Nat.beq x7.1 0) (
                  .ite ((lf x4.2 0).toBool) (
                   .ite (strEq ((lf x5.2 1).toStr) ⟨#[97]⟩) (
                    .ite (strEq ((lf x6.2 1).toStr) ⟨#[99]⟩) (
                     .ret (0, [.bool (strEq ((lf x7.2 1).toStr) ⟨#[98]⟩)])) (
                     .ret (0, [.bool false]))) (
                    .ret (0, [.bool false]))) (
                   .ret (0, [.bool false]))) (
                  .fail)) (
                .fail)) (
              .fail)) (
            .fail)) (
          .loop (f28_v [lf x3.2 1, lf x1.2 1]) fun x8 =>
           .ite (Nat.beq x8.1 0) (
            .loop (f28_v [lf x8.2 3, lf x8.2 4]) fun x9 =>
             .ite (Nat.beq x9.1 0) (
              .loop (f28_v [lf x9.2 3, lf x9.2 4]) fun x10 =>
               .ite (Nat.beq x10.1 0) (
                .ret (0, [.bool false])) (
                .fail)) (
              .fail)) (
            .fail))) (
         .fail)) (
       .loop (f28_v [lf x2.2 1, lf x1.2 1]) fun x11 =>
        .ite (Nat.beq x11.1 0) (
         .loop (f28_v [lf x11.2 3, lf x11.2 4]) fun x12 =>
          .ite (Nat.beq x12.1 0) (
           .loop (f28_v [lf x12.2 3, lf x12.2 4]) fun x13 =>
            .ite (Nat.beq x13.1 0) (
             .ret (0, [.bool false])) (
             .fail)) (
           .fail)) (
         .fail))) (
      .fail)) (
    .fail))
noncomputable def f25_v (ps : List P) : Option (Nat × List P) := (f25_t ps).run some
noncomputable def f25_e : EntD := ⟨25, [], f25_v, [fun ps ls qs => ⟨[.imm .bool (lf qs 0)], []⟩]⟩
noncomputable def f25_u : List Cu := []
noncomputable def f25_c : Cx := ⟨Try.prog, envOf [f26_e, f27_e, f27_1_e, f28_e, f28_1_e], 54, lOf f25_u, fun _ => false⟩
noncomputable def f25_b : Code := match Try.f25.body with | some b => b | none => .skip
theorem f25_x (ps : List P) (ls : List Nat) : execFn f25_c 25 f25_e.tm (explF ps 0 0) ls = (f25_t ps).run fun q => altR (f25_e.res.map fun f => f ps ls) 0 q some := by kernel_rfl
theorem f25_ok : OkEnt Try.prog f25_e := ent_ok (c := f25_c) (g := 25) (body := f25_b) (us := f25_u) (n := 0) (t := f25_t) (good_envOf _ ⟨f26_ok, f27_ok, f27_1_ok, f28_ok, f28_1_ok, trivial⟩) Try.func25 rfl Try.call25 rfl trivial (by kernel_rfl) f25_x (fun _ => rfl)
/-! ### (*comprador/turn.Turn).Len -/
noncomputable def f29_k234 : Sk := { t := [(0, .ref 2001 [] (.pair (.slice (.pair (.slice .str) .unit)) (.pair (.int .i64) .unit))), (3, .imm (.int .i64) .unit), (11, .blk 2002 (.at (.pair (.slice .str) .unit))), (12, .imm (.int .i64) .unit), (13, .imm (.int .i64) .unit)], h := [(2001, .obj (.pair (.slice (.pair (.slice .str) .unit)) (.pair (.int .i64) .unit)) (.pair (.blk 2002 (.at (.pair (.slice .str) .unit))) (.imm (.pair (.int .i64) .unit) .unit))), (2002, .blk (.at (.pair (.slice .str) .unit)) .unit)] }
noncomputable def f29_o234 : List (Out × Sk) := [((.exit 0), { t := [(0, .ref 2001 [] (.pair (.slice (.pair (.slice .str) .unit)) (.pair (.int .i64) .unit))), (3, .imm (.int .i64) .unit)], h := [(2001, .obj (.pair (.slice (.pair (.slice .str) .unit)) (.pair (.int .i64) .unit)) (.pair (.blk 2002 (.at (.pair (.slice .str) .unit))) (.imm (.pair (.int .i64) .unit) .unit))), (2002, .blk (.at (.pair (.slice .str) .unit)) .unit)] })]
noncomputable def f29_s234 (ls : List P) : Tree Step :=
 .ite (decide ((lf ls 2).toInt < (lf ls 1).toInt)) (
  .ite (inb ((lf ls 2).toInt) (((lf ls 4).xs).length)) (
   .ret (.inl [.int .i64 (IntKind.i64.wrap (((lf ls 0).toInt) + ((((rd ((lf ls 4).xs) (((lf ls 2).toInt).toNat)).fst).xs).length : Int))), lf ls 1, .int .i64 (IntKind.i64.wrap (((lf ls 2).toInt) + (1 : Int))), lf ls 3, lf ls 4])) (
   .fail)) (
  .ret (.inr (0, [lf ls 0, lf ls 3, lf ls 4])))
noncomputable def f29_t (ps : List P) : Tree (Nat × List P) :=
 .loop (loopT f29_s234 FUEL [.int .i64 (0 : Int), .int .i64 (((lf ps 0).xs).length : Int), .int .i64 (0 : Int), lf ps 1, lf ps 0]) fun y1 =>
  .ite (Nat.beq y1.1 0) (
   .ret (0, [lf y1.2 0, lf y1.2 2, lf y1.2 1])) (
   .fail)
noncomputable def f29_v (ps : List P) : Option (Nat × List P) := (f29_t ps).run some
noncomputable def f29_e : EntD := ⟨29, [.box (.pair (.slice (.pair (.slice .str) .unit)) (.pair (.int .i64) .unit)) (.pair (.blk (.at (.pair (.slice .str) .unit))) (.imm (.pair (.int .i64) .unit)))], f29_v, [fun ps ls qs => ⟨[.imm (.int .i64) (lf qs 0)], [.box (ls.getD 0 0) (.pair (.slice (.pair (.slice .str) .unit)) (.pair (.int .i64) .unit)) (.pair (.blk (ls.getD 1 0) (.at (.pair (.slice .str) .unit)) (lf qs 1)) (.imm (.pair (.int .i64) .unit) (lf qs 2)))]⟩]⟩
noncomputable def f29_u : List Cu := [.loop 234 f29_k234 f29_o234 f29_s234]
noncomputable def f29_c : Cx := ⟨Try.prog, envOf [], 24, lOf f29_u, fun _ => false⟩
noncomputable def f29_b : Code := match Try.f29.body with | some b => b | none => .skip
theorem f29_q234 : (Cu.loop 234 f29_k234 f29_o234 f29_s234).Ok f29_c f29_b := ⟨by kernel_rfl, fun ls Kr Kx => by kernel_rfl⟩
theorem f29_x (ps : List P) (ls : List Nat) : execFn f29_c 29 f29_e.tm (explF ps 2 0) ls = (f29_t ps).run fun q => altR (f29_e.res.map fun f => f ps ls) 0 q some := by kernel_rfl
theorem f29_ok : OkEnt Try.prog f29_e := ent_ok (c := f29_c) (g := 29) (body := f29_b) (us := f29_u) (n := 2) (t := f29_t) (good_envOf _ trivial) Try.func29 rfl Try.call29 rfl ⟨f29_q234, trivial⟩ (by kernel_rfl) f29_x (fun _ => rfl)
/-! ### slices.Clone[[]string,string] -/
noncomputable def f113_k1 : Sk := { t := [(0, .imm (.slice .str) .unit)], h := [] }
noncomputable def f113_o1 : List (Out × Sk) := [(.ret, { t := [(2, .slf 4030 .str)], h := [(4030, .arr .str true [])] })]
noncomputable def f113_s1 (ls : List P) : Tree (Nat × List P) :=
 .ite ((lf ls 0).isNil) (
  .ret (0, [.list true []])) (
  .ite (decide ((0 + ((lf ls 0).xs).length) * 16 ≤ 140737488355328)) (
   .ret (0, [.list false ((lf ls 0).xs)])) (
   .fail))
noncomputable def f113_t (ps : List P) : Tree (Nat × List P) :=
 .loop ((f113_s1 [lf ps 0]).run some) fun y1 =>
  .ite (Nat.beq y1.1 0) (
   .ret (0, [.list ((lf y1.2 0).isNil) ((lf y1.2 0).xs)])) (
   .fail)
noncomputable def f113_v (ps : List P) : Option (Nat × List P) := (f113_t ps).run some
noncomputable def f113_e : EntD := ⟨113, [.imm (.slice .str)], f113_v, [fun ps ls qs => ⟨[.own (ls.getD 2029 0) .str (lf qs 0).isNil (lf qs 0).xs], [.imm (.slice .str) (lf ps 0)]⟩]⟩
noncomputable def f113_u : List Cu := [.cut 1 f113_k1 f113_o1 f113_s1]
noncomputable def f113_c : Cx := ⟨Try.prog, envOf [], 8, lOf f113_u, fun _ => false⟩
noncomputable def f113_b : Code := match Try.f113.body with | some b => b | none => .skip
theorem f113_q1 : (Cu.cut 1 f113_k1 f113_o1 f113_s1).Ok f113_c f113_b := ⟨by kernel_rfl, fun ls Kx => by kernel_rfl⟩
theorem f113_x (ps : List P) (ls : List Nat) : execFn f113_c 113 f113_e.tm (explF ps 1 0) ls = (f113_t ps).run fun q => altR (f113_e.res.map fun f => f ps ls) 0 q some := by kernel_rfl
theorem f113_ok : OkEnt Try.prog f113_e := ent_ok (c := f113_c) (g := 113) (body := f113_b) (us := f113_u) (n := 1) (t := f113_t) (good_envOf _ trivial) Try.func113 rfl Try.call113 rfl ⟨f113_q1, trivial⟩ (by kernel_rfl) f113_x (fun _ => rfl)
/-! ### (*comprador/turn.Turn).List -/
noncomputable def f30_k1 : Sk := { t := [(0, .ref 2001 [] (.pair (.slice (.pair (.slice .str) .unit)) (.pair (.int .i64) .unit))), (1, .imm (.int .i64) .unit)], h := [(2001, .obj (.pair (.slice (.pair (.slice .str) .unit)) (.pair (.int .i64) .unit)) (.pair (.blk 2002 (.at (.pair (.slice .str) .unit))) (.imm (.pair (.int .i64) .unit) .unit))), (2002, .blk (.at (.pair (.slice .str) .unit)) .unit)] }
noncomputable def f30_o1 : List (Out × Sk) := [(.ret, { t := [(0, .ref 2001 [] (.pair (.slice (.pair (.slice .str) .unit)) (.pair (.int .i64) .unit))), (4, .slf 4031 .str)], h := [(2001, .obj (.pair (.slice (.pair (.slice .str) .unit)) (.pair (.int .i64) .unit)) (.pair (.blk 2002 (.at (.pair (.slice .str) .unit))) (.imm (.pair (.int .i64) .unit) .unit))), (4031, .arr .str true []), (2002, .blk (.at (.pair (.slice .str) .unit)) .unit)] })]
noncomputable def f30_s1 (ls : List P) : Tree (Nat × List P) :=
 .loop (f110_v [lf ls 2, lf ls 1, lf ls 0]) fun x1 =>
  .ite (Nat.beq x1.1 0) (
   .ret (0, [lf ls 1, .list true [], lf ls 2])) (
   .ite (Nat.beq x1.1 1) (
    .loop (f113_v [(rd ((lf ls 2).xs) (((lf ls 0).toInt).toNat)).fst]) fun x2 =>
     .ite (Nat.beq x2.1 0) (
      .ret (0, [lf ls 1, .list ((lf x2.2 0).isNil) ((lf x2.2 0).xs), lf ls 2])) (
      .fail)) (
    .fail))
noncomputable def f30_t (ps : List P) : Tree (Nat × List P) :=
 .loop ((f30_s1 [lf ps 2, lf ps 1, lf ps 0]).run some) fun y3 =>
  .ite (Nat.beq y3.1 0) (
   .ret (0, [.list ((lf y3.2 1).isNil) ((lf y3.2 1).xs), lf y3.2 2, lf y3.2 0])) (
   .fail)
noncomputable def f30_v (ps : List P) : Option (Nat × List P) := (f30_t ps).run some
noncomputable def f30_e : EntD := ⟨30, [.box (.pair (.slice (.pair (.slice .str) .unit)) (.pair (.int .i64) .unit)) (.pair (.blk (.at (.pair (.slice .str) .unit))) (.imm (.pair (.int .i64) .unit))), .imm (.int .i64)], f30_v, [fun ps ls qs => ⟨[.own (ls.getD 2030 0) .str (lf qs 0).isNil (lf qs 0).xs], [.box (ls.getD 0 0) (.pair (.slice (.pair (.slice .str) .unit)) (.pair (.int .i64) .unit)) (.pair (.blk (ls.getD 1 0) (.at (.pair (.slice .str) .unit)) (lf qs 1)) (.imm (.pair (.int .i64) .unit) (lf qs 2))), .imm (.int .i64) (lf ps 2)]⟩]⟩
noncomputable def f30_u : List Cu := [.cut 1 f30_k1 f30_o1 f30_s1]
noncomputable def f30_c : Cx := ⟨Try.prog, envOf [f110_e, f113_e], 16, lOf f30_u, fun _ => false⟩
noncomputable def f30_b : Code := match Try.f30.body with | some b => b | none => .skip
theorem f30_q1 : (Cu.cut 1 f30_k1 f30_o1 f30_s1).Ok f30_c f30_b := ⟨by kernel_rfl, fun ls Kx => by kernel_rfl⟩
theorem f30_x (ps : List P) (ls : List Nat) : execFn f30_c 30 f30_e.tm (explF ps 3 0) ls = (f30_t ps).run fun q => altR (f30_e.res.map fun f => f ps ls) 0 q some := by kernel_rfl
theorem f30_ok : OkEnt Try.prog f30_e := ent_ok (c := f30_c) (g := 30) (body := f30_b) (us := f30_u) (n := 3) (t := f30_t) (good_envOf _ ⟨f110_ok, f113_ok, trivial⟩) Try.func30 rfl Try.call30 rfl ⟨f30_q1, trivial⟩ (by kernel_rfl) f30_x (fun _ => rfl)
/-! ### comprador/compradorlaw35.TurnFair -/
noncomputable def f4_k521374 : Sk := { t := [(5, .imm (.int .i64) .unit), (6, .ref 10700 [] (.pair (.slice (.pair (.slice .str) .unit)) (.pair (.int .i64) .unit))), (8, .ref 10701 [] (.arr 9 (.arr 9 (.int .i64)))), (9, .imm (.int .i64) .unit), (10, .imm (.int .i64) .unit), (13, .imm (.int .i64) .unit), (69, .imm (.int .i64) .unit), (70, .imm (.int .i64) .unit), (71, .imm .bool .unit), (74, .imm .str .unit), (75, .imm (.int .i64) .unit), (76, .imm .bool .unit)], h := [(10700, .obj (.pair (.slice (.pair (.slice .str) .unit)) (.pair (.int .i64) .unit)) (.pair (.blk 10702 (.at (.pair (.slice .str) .unit))) (.imm (.pair (.int .i64) .unit) .unit))), (10701, .obj (.arr 9 (.arr 9 (.int .i64))) (.imm (.arr 9 (.arr 9 (.int .i64))) .unit)), (10702, .blk (.at (.pair (.slice .str) .unit)) .unit)] }
noncomputable def f4_o521374 : List (Out × Sk) := [(.ret, { t := [(4, .imm .bool .unit)], h := [] }), ((.exit 4), { t := [(5, .imm (.int .i64) .unit), (6, .ref 10730 [] (.pair (.slice (.pair (.slice .str) .unit)) (.pair (.int .i64) .unit))), (8, .ref 10731 [] (.arr 9 (.arr 9 (.int .i64)))), (9, .imm (.int .i64) .unit), (69, .imm (.int .i64) .unit), (70, .imm (.int .i64) .unit), (71, .imm .bool .unit), (74, .imm .str .unit), (75, .imm (.int .i64) .unit), (76, .imm .bool .unit)], h := [(10730, .obj (.pair (.slice (.pair (.slice .str) .unit)) (.pair (.int .i64) .unit)) (.pair (.blk 10732 (.at (.pair (.slice .str) .unit))) (.imm (.pair (.int .i64) .unit) .unit))), (10731, .obj (.arr 9 (.arr 9 (.int .i64))) (.imm (.arr 9 (.arr 9 (.int .i64))) .unit)), (10732, .blk (.at (.pair (.slice .str) .unit)) .unit)] })]
noncomputable def f4_s521374 (ls : List P) : Tree Step :=
 .ite (decide ((lf ls 3).toInt < (lf ls 0).toInt)) (
  .ite (inb ((lf ls 3).toInt) 9) (
   .ite (inb ((lf ls 2).toInt) 9) (
    .ite (inb ((lf ls 3).toInt) 9) (
     .ite (inb ((lf ls 2).toInt) 9) (
      .ite (((lf ls 3).toInt) != ((lf ls 2).toInt)) (
       .loop (f30_v [lf ls 12, lf ls 10, lf ls 3]) fun x9 =>
        .ite (Nat.beq x9.1 0) (
         .ite (decide ((((lf x9.2 0).xs).length : Int) > (0 : Int))) (
          .ite (inb ((lf ls 3).toInt) 9) (
           .ite (inb ((lf ls 2).toInt) 9) (
            .ite (decide ((rd ((rd (((lf ls 11).xs).set (((lf ls 3).toInt).toNat) (.list false (((rd ((lf ls 11).xs) (((lf ls 3).toInt).toNat)).xs).set (((lf ls 2).toInt).toNat) (.int .i64 (IntKind.i64.wrap (((rd ((rd ((lf ls 11).xs) (((lf ls 3).toInt).toNat)).xs) (((lf ls 2).toInt).toNat)).toInt) + (1 : Int))))))) (((lf ls 3).toInt).toNat)).xs) (((lf ls 2).toInt).toNat)).toInt > (1 : Int))) (
             .ret (.inr (0, [.bool false]))) (
             .ite (inb ((lf ls 2).toInt) 9) (
              .ite (inb ((lf ls 3).toInt) 9) (
               .ret (.inl [lf ls 0, lf ls 1, lf ls 2, .int .i64 (IntKind.i64.wrap (((lf ls 3).toInt) + (1 : Int))), lf ls 4, lf ls 5, lf ls 6, lf ls 7, lf ls 8, lf ls 9, lf x9.2 2, .list false ((((lf ls 11).xs).set (((lf ls 3).toInt).toNat) (.list false (((rd ((lf ls 11).xs) (((lf ls 3).toInt).toNat)).xs).set (((lf ls 2).toInt).toNat) (.int .i64 (IntKind.i64.wrap (((rd ((rd ((lf ls 11).xs) (((lf ls 3).toInt).toNat)).xs) (((lf ls 2).toInt).toNat)).toInt) + (1 : Int))))))).set (((lf ls 2).toInt).toNat) (.list false (((rd (((lf ls 11).xs).set (((lf ls 3).toInt).toNat) (.list false (((rd ((lf ls 11).xs) (((lf ls 3).toInt).toNat)).xs).set (((lf ls 2).toInt).toNat) (.int .i64 (IntKind.i64.wrap (((rd ((rd ((lf ls 11).xs) (((lf ls 3).toInt).toNat)).xs) (((lf ls 2).toInt).toNat)).toInt) + (1 : Int))))))) (((lf ls 2).toInt).toNat)).xs).set (((lf ls 3).toInt).toNat) (.int .i64 (0 : Int))))), lf x9.2 1])) (
               .fail)) (
              .fail))) (
            .fail)) (
           .fail)) (
          .ite (inb ((lf ls 2).toInt) 9) (
           .ite (inb ((lf ls 3).toInt) 9) (
            .ret (.inl [lf ls 0, lf ls 1, lf ls 2, .int .i64 (IntKind.i64.wrap (((lf ls 3).toInt) + (1 : Int))), lf ls 4, lf ls 5, lf ls 6, lf ls 7, lf ls 8, lf ls 9, lf x9.2 2, .list false ((((lf ls 11).xs).set (((lf ls 3).toInt).toNat) (.list false (((rd ((lf ls 11).xs) (((lf ls 3).toInt).toNat)).xs).set (((lf ls 2).toInt).toNat) (.int .i64 (IntKind.i64.wrap (((rd ((rd ((lf ls 11).xs) (((lf ls 3).toInt).toNat)).xs) (((lf ls 2).toInt).toNat)).toInt) + (1 : Int))))))).set (((lf ls 2).toInt).toNat) (.list false (((rd (((lf ls 11).xs).set (((lf ls 3).toInt).toNat) (.list false (((rd ((lf ls 11).xs) (((lf ls 3).toInt).toNat)).xs).set (((lf ls 2).toInt).toNat) (.int .i64 (IntKind.i64.wrap (((rd ((rd ((lf ls 11).xs) (((lf ls 3).toInt).toNat)).xs) (((lf ls 2).toInt).toNat)).toInt) + (1 : Int))))))) (((lf ls 2).toInt).toNat)).xs).set (((lf ls 3).toInt).toNat) (.int .i64 (0 : Int))))), lf x9.2 1])) (
            .fail)) (
           .fail))) (
         .fail)) (
       .ite (inb ((lf ls 2).toInt) 9) (
        .ite (inb ((lf ls 3).toInt) 9) (
         .ret (.inl [lf ls 0, lf ls 1, lf ls 2, .int .i64 (IntKind.i64.wrap (((lf ls 3).toInt) + (1 : Int))), lf ls 4, lf ls 5, lf ls 6, lf ls 7, lf ls 8, lf ls 9, lf ls 10, .list false ((((lf ls 11).xs).set (((lf ls 3).toInt).toNat) (.list false (((rd ((lf ls 11).xs) (((lf ls 3).toInt).toNat)).xs).set (((lf ls 2).toInt).toNat) (.int .i64 (IntKind.i64.wrap (((rd ((rd ((lf ls 11).xs) (((lf ls 3).toInt).toNat)).xs) (((lf ls 2).toInt).toNat)).toInt) + (1 : Int))))))).set (((lf ls 2).toInt).toNat) (.list false (((rd (((lf ls 11).xs).set (((lf ls 3).toInt).toNat) (.list false (((rd ((lf ls 11).xs) (((lf ls 3).toInt).toNat)).xs).set (((lf ls 2).toInt).toNat) (.int .i64 (IntKind.i64.wrap (((rd ((rd ((lf ls 11).xs) (((lf ls 3).toInt).toNat)).xs) (((lf ls 2).toInt).toNat)).toInt) + (1 : Int))))))) (((lf ls 2).toInt).toNat)).xs).set (((lf ls 3).toInt).toNat) (.int .i64 (0 : Int))))), lf ls 12])) (
         .fail)) (
        .fail))) (
      .fail)) (
     .fail)) (
    .fail)) (
   .fail)) (
  .ret (.inr (1, [lf ls 0, lf ls 1, lf ls 4, lf ls 5, lf ls 6, lf ls 7, lf ls 8, lf ls 9, lf ls 10, lf ls 11, lf ls 12])))
noncomputable def f4_k1018 : Sk := { t := [(5, .imm (.int .i64) .unit), (6, .ref 7100 [] (.pair (.slice (.pair (.slice .str) .unit)) (.pair (.int .i64) .unit))), (8, .ref 7101 [] (.arr 9 (.arr 9 (.int .i64)))), (9, .imm (.int .i64) .unit)], h := [(7100, .obj (.pair (.slice (.pair (.slice .str) .unit)) (.pair (.int .i64) .unit)) (.pair (.blk 7102 (.at (.pair (.slice .str) .unit))) (.imm (.pair (.int .i64) .unit) .unit))), (7101, .obj (.arr 9 (.arr 9 (.int .i64))) (.imm (.arr 9 (.arr 9 (.int .i64))) .unit)), (7102, .blk (.at (.pair (.slice .str) .unit)) .unit)] }
noncomputable def f4_o1018 : List (Out × Sk) := [(.ret, { t := [(4, .imm .bool .unit)], h := [] }), ((.exit 2), { t := [], h := [] })]
noncomputable def f4_s1018 (ls : List P) : Tree Step :=
 .ite (decide ((lf ls 1).toInt < (200 : Int))) (
  .loop (f28_v [lf ls 4, lf ls 2]) fun x6 =>
   .ite (Nat.beq x6.1 0) (
    .ite (!((lf x6.2 2).toBool)) (
     .loop (f29_v [lf x6.2 3, lf x6.2 4]) fun x7 =>
      .ite (Nat.beq x7.1 0) (
       .ite (((lf x7.2 0).toInt) == (0 : Int)) (
        .loop (f25_v []) fun x8 =>
         .ite (Nat.beq x8.1 0) (
          .ret (.inr (0, [lf x8.2 0]))) (
          .fail)) (
        .ret (.inr (0, [.bool false])))) (
       .fail)) (
     .ite (decide ((lf x6.2 0).toInt < (0 : Int))) (
      .ret (.inr (0, [.bool false]))) (
      .ite (decide ((lf x6.2 0).toInt ≥ (lf ls 0).toInt)) (
       .ret (.inr (0, [.bool false]))) (
       .ite (decide ((((lf x6.2 1).toStr).size : Int) > (60 : Int))) (
        .ret (.inr (0, [.bool false]))) (
        .loop (loopT f4_s521374 FUEL [lf ls 0, lf ls 1, lf x6.2 0, .int .i64 (0 : Int), lf x6.2 0, lf ls 0, .bool (decide ((lf x6.2 0).toInt ≥ (lf ls 0).toInt)), lf x6.2 1, .int .i64 (((lf x6.2 1).toStr).size : Int), .bool (decide ((((lf x6.2 1).toStr).size : Int) > (60 : Int))), lf x6.2 4, lf ls 3, lf x6.2 3]) fun y10 =>
         .ite (Nat.beq y10.1 0) (
          .ret (.inr (0, [lf y10.2 0]))) (
          .ite (Nat.beq y10.1 1) (
           .ret (.inl [lf y10.2 0, .int .i64 (IntKind.i64.wrap (((lf y10.2 1).toInt) + (1 : Int))), lf y10.2 8, lf y10.2 9, lf y10.2 10])) (
           .fail))))))) (
    .fail)) (
  .ret (.inr (1, [])))
noncomputable def f4_k250 : Sk := { t := [(1, .imm (.slice (.pair (.int .i64) (.pair (.int .i64) (.pair .str .unit)))) .unit), (5, .imm (.int .i64) .unit), (6, .ref 6100 [] (.pair (.slice (.pair (.slice .str) .unit)) (.pair (.int .i64) .unit))), (7, .imm (.int .i64) .unit)], h := [(6100, .obj (.pair (.slice (.pair (.slice .str) .unit)) (.pair (.int .i64) .unit)) (.pair (.blk 6101 (.at (.pair (.slice .str) .unit))) (.imm (.pair (.int .i64) .unit) .unit))), (6101, .blk (.at (.pair (.slice .str) .unit)) .unit)] }
noncomputable def f4_o250 : List (Out × Sk) := [((.exit 0), { t := [(5, .imm (.int .i64) .unit), (6, .ref 6130 [] (.pair (.slice (.pair (.slice .str) .unit)) (.pair (.int .i64) .unit)))], h := [(6130, .obj (.pair (.slice (.pair (.slice .str) .unit)) (.pair (.int .i64) .unit)) (.pair (.blk 6131 (.at (.pair (.slice .str) .unit))) (.imm (.pair (.int .i64) .unit) .unit))), (6131, .blk (.at (.pair (.slice .str) .unit)) .unit)] })]
noncomputable def f4_s250 (ls : List P) : Tree Step :=
 .ite (decide ((lf ls 2).toInt < (((lf ls 0).xs).length : Int))) (
  .ite (inb ((lf ls 2).toInt) (((lf ls 0).xs).length)) (
   .ite (((lf ls 1).toInt) == 0) (
    .fail) (
    .ite (((lf ls 1).toInt) == 0) (
     .fail) (
     .ite (inb ((lf ls 2).toInt) (((lf ls 0).xs).length)) (
      .loop (f27_v [lf ls 4, lf ls 3, .int .i64 ((IntKind.i64.wrap ((((((rd ((lf ls 0).xs) (((lf ls 2).toInt).toNat)).snd).fst).toInt).tmod ((lf ls 1).toInt)) + ((lf ls 1).toInt))).tmod ((lf ls 1).toInt)), (((rd ((lf ls 0).xs) (((lf ls 2).toInt).toNat)).snd).snd).fst]) fun x4 =>
       .ite (Nat.beq x4.1 0) (
        .ret (.inl [lf ls 0, lf ls 1, .int .i64 (IntKind.i64.wrap (((lf ls 2).toInt) + (1 : Int))), lf ls 3, lf x4.2 1])) (
        .fail)) (
      .fail)))) (
   .fail)) (
  .ret (.inr (0, [lf ls 1, lf ls 3, lf ls 4])))
noncomputable def f4_t (ps : List P) : Tree (Nat × List P) :=
 .loop (f24_v [lf ps 1]) fun x1 =>
  .ite (Nat.beq x1.1 0) (
   .ite ((lf x1.2 0).toBool) (
    .loop (f25_v []) fun x2 =>
     .ite (Nat.beq x2.1 0) (
      .ret (0, [lf x2.2 0])) (
      .fail)) (
    .loop (f26_v [.int .i64 (IntKind.i64.wrap ((2 : Int) + ((IntKind.i64.wrap ((((lf ps 0).toInt).tmod (8 : Int)) + (8 : Int))).tmod (8 : Int))))]) fun x3 =>
     .ite (Nat.beq x3.1 0) (
      .fail) (
      .ite (Nat.beq x3.1 1) (
       .loop (loopT f4_s250 FUEL [lf ps 1, .int .i64 (IntKind.i64.wrap ((2 : Int) + ((IntKind.i64.wrap ((((lf ps 0).toInt).tmod (8 : Int)) + (8 : Int))).tmod (8 : Int)))), .int .i64 (0 : Int), lf x3.2 1, lf x3.2 0]) fun y5 =>
        .ite (Nat.beq y5.1 0) (
         .loop (loopT f4_s1018 FUEL [lf y5.2 0, .int .i64 (0 : Int), lf y5.2 1, .list false [.list false [.int .i64 (0 : Int), .int .i64 (0 : Int), .int .i64 (0 : Int), .int .i64 (0 : Int), .int .i64 (0 : Int), .int .i64 (0 : Int), .int .i64 (0 : Int), .int .i64 (0 : Int), .int .i64 (0 : Int)], .list false [.int .i64 (0 : Int), .int .i64 (0 : Int), .int .i64 (0 : Int), .int .i64 (0 : Int), .int .i64 (0 : Int), .int .i64 (0 : Int), .int .i64 (0 : Int), .int .i64 (0 : Int), .int .i64 (0 : Int)], .list false [.int .i64 (0 : Int), .int .i64 (0 : Int), .int .i64 (0 : Int), .int .i64 (0 : Int), .int .i64 (0 : Int), .int .i64 (0 : Int), .int .i64 (0 : Int), .int .i64 (0 : Int), .int .i64 (0 : Int)], .list false [.int .i64 (0 : Int), .int .i64 (0 : Int), .int .i64 (0 : Int), .int .i64 (0 : Int), .int .i64 (0 : Int), .int .i64 (0 : Int), .int .i64 (0 : Int), .int .i64 (0 : Int), .int .i64 (0 : Int)], .list false [.int .i64 (0 : Int), .int .i64 (0 : Int), .int .i64 (0 : Int), .int .i64 (0 : Int), .int .i64 (0 : Int), .int .i64 (0 : Int), .int .i64 (0 : Int), .int .i64 (0 : Int), .int .i64 (0 : Int)], .list false [.int .i64 (0 : Int), .int .i64 (0 : Int), .int .i64 (0 : Int), .int .i64 (0 : Int), .int .i64 (0 : Int), .int .i64 (0 : Int), .int .i64 (0 : Int), .int .i64 (0 : Int), .int .i64 (0 : Int)], .list false [.int .i64 (0 : Int), .int .i64 (0 : Int), .int .i64 (0 : Int), .int .i64 (0 : Int), .int .i64 (0 : Int), .int .i64 (0 : Int), .int .i64 (0 : Int), .int .i64 (0 : Int), .int .i64 (0 : Int)], .list false [.int .i64 (0 : Int), .int .i64 (0 : Int), .int .i64 (0 : Int), .int .i64 (0 : Int), .int .i64 (0 : Int), .int .i64 (0 : Int), .int .i64 (0 : Int), .int .i64 (0 : Int), .int .i64 (0 : Int)], .list false [.int .i64 (0 : Int), .int .i64 (0 : Int), .int .i64 (0 : Int), .int .i64 (0 : Int), .int .i64 (0 : Int), .int .i64 (0 : Int), .int .i64 (0 : Int), .int .i64 (0 : Int), .int .i64 (0 : Int)]], lf y5.2 2]) fun y11 =>
          .ite (Nat.beq y11.1 0) (
           .ret (0, [lf y11.2 0])) (
           .ite (Nat.beq y11.1 1) (
            .loop (f25_v []) fun x12 =>
             .ite (Nat.beq x12.1 0) (
              .ret (0, [lf x12.2 0])) (
              .fail)) (
            .fail))) (
         .fail)) (
       .fail)))) (
   .fail)
noncomputable def f4_v (ps : List P) : Option (Nat × List P) := (f4_t ps).run some
noncomputable def f4_e : EntD := ⟨4, [.imm (.int .i64), .imm (.slice (.pair (.int .i64) (.pair (.int .i64) (.pair .str .unit))))], f4_v, [fun ps ls qs => ⟨[.imm .bool (lf qs 0)], [.imm (.int .i64) (lf ps 0), .imm (.slice (.pair (.int .i64) (.pair (.int .i64) (.pair .str .unit)))) (lf ps 1)]⟩]⟩
noncomputable def f4_u : List Cu := [.loop 521374 f4_k521374 f4_o521374 f4_s521374, .loop 1018 f4_k1018 f4_o1018 f4_s1018, .loop 250 f4_k250 f4_o250 f4_s250]
noncomputable def f4_c : Cx := ⟨Try.prog, envOf [f24_e, f25_e, f26_e, f27_e, f28_e, f29_e, f30_e], 116, lOf f4_u, fun _ => false⟩
noncomputable def f4_b : Code := match Try.f4.body with | some b => b | none => .skip
theorem f4_q521374 : (Cu.loop 521374 f4_k521374 f4_o521374 f4_s521374).Ok f4_c f4_b := ⟨by kernel_rfl, fun ls Kr Kx => by kernel_rfl⟩
theorem f4_q1018 : (Cu.loop 1018 f4_k1018 f4_o1018 f4_s1018).Ok f4_c f4_b := ⟨by kernel_rfl, fun ls Kr Kx => by kernel_rfl⟩
theorem f4_q250 : (Cu.loop 250 f4_k250 f4_o250 f4_s250).Ok f4_c f4_b := ⟨by kernel_rfl, fun ls Kr Kx => by kernel_rfl⟩
theorem f4_x (ps : List P) (ls : List Nat) : execFn f4_c 4 f4_e.tm (explF ps 2 0) ls = (f4_t ps).run fun q => altR (f4_e.res.map fun f => f ps ls) 0 q some := by kernel_rfl
theorem f4_ok : OkEnt Try.prog f4_e := ent_ok (c := f4_c) (g := 4) (body := f4_b) (us := f4_u) (n := 2) (t := f4_t) (good_envOf _ ⟨f24_ok, f25_ok, f26_ok, f27_ok, f28_ok, f29_ok, f30_ok, trivial⟩) Try.func4 rfl Try.call4 rfl ⟨f4_q521374, f4_q1018, f4_q250, trivial⟩ (by kernel_rfl) f4_x (fun _ => rfl)
end Go.Proofs.Ytjemihhhkhdbeaa
