/- Functions: what each tells. Conditions: none. -/
import Derived.Test.YtjemihhhkhdbeaaFTph
open Go Go.Eng Go.Proofs
set_option pp.deepTerms true
set_option linter.unusedVariables false
namespace Go.Proofs.Ytjemihhhkhdbeaa
/-! ### comprador/compradorlaw35.skip -/
noncomputable def f24_k58 : Sk := { t := [(0, .imm (.slice (.pair (.int .i64) (.pair (.int .i64) (.pair .str .unit)))) .unit), (3, .imm (.int .i64) .unit)], h := [] }
noncomputable def f24_o58 : List (Out × Sk) := [(.ret, { t := [(2, .imm .bool .unit)], h := [] }), ((.exit 0), { t := [], h := [] })]
noncomputable def f24_s58 (ls : List P) : Tree Step :=
 .ite (decide ((lf ls 1).toInt < (((lf ls 0).xs).length : Int))) (
  .ite (inb ((lf ls 1).toInt) (((lf ls 0).xs).length)) (
   .ite (decide (((((((rd ((lf ls 0).xs) (((lf ls 1).toInt).toNat)).snd).snd).fst).toStr).size : Int) > (60 : Int))) (
    .ret (.inr (0, [.bool true]))) (
    .ret (.inl [lf ls 0, .int .i64 (IntKind.i64.wrap (((lf ls 1).toInt) + (1 : Int)))]))) (
   .fail)) (
  .ret (.inr (1, [])))
noncomputable def f24_t (ps : List P) : Tree (Nat × List P) :=
 .ite (decide ((((lf ps 0).xs).length : Int) > (150 : Int))) (
  .ret (0, [.bool true])) (
  .loop (loopT f24_s58 FUEL [lf ps 0, .int .i64 (0 : Int)]) fun y1 =>
   .ite (Nat.beq y1.1 0) (
    .ret (0, [lf y1.2 0])) (
    .ite (Nat.beq y1.1 1) (
     .ret (0, [.bool false])) (
     .fail)))
noncomputable def f24_v (ps : List P) : Option (Nat × List P) := (f24_t ps).run some
noncomputable def f24_e : EntD := ⟨24, [.imm (.slice (.pair (.int .i64) (.pair (.int .i64) (.pair .str .unit))))], f24_v, [fun ps ls qs => ⟨[.imm .bool (lf qs 0)], [.imm (.slice (.pair (.int .i64) (.pair (.int .i64) (.pair .str .unit)))) (lf ps 0)]⟩]⟩
noncomputable def f24_u : List Cu := [.loop 58 f24_k58 f24_o58 f24_s58]
noncomputable def f24_c : Cx := ⟨Try.prog, envOf [], 20, lOf f24_u, fun _ => false⟩
noncomputable def f24_b : Code := match Try.f24.body with | some b => b | none => .skip
theorem f24_q58 : (Cu.loop 58 f24_k58 f24_o58 f24_s58).Ok f24_c f24_b := ⟨by kernel_rfl, fun ls Kr Kx => by kernel_rfl⟩
theorem f24_x (ps : List P) (ls : List Nat) : execFn f24_c 24 f24_e.tm (explF ps 1 0) ls = (f24_t ps).run fun q => altR (f24_e.res.map fun f => f ps ls) 0 q some := by kernel_rfl
theorem f24_ok : OkEnt Try.prog f24_e := ent_ok (c := f24_c) (g := 24) (body := f24_b) (us := f24_u) (n := 1) (t := f24_t) (good_envOf _ trivial) Try.func24 rfl Try.call24 rfl ⟨f24_q58, trivial⟩ (by kernel_rfl) f24_x (fun _ => rfl)
/-! ### comprador/turn.New -/
noncomputable def f26_t (ps : List P) : Tree (Nat × List P) :=
 .ite (decide ((lf ps 0).toInt < (1 : Int))) (
  .ret (0, [.nilp])) (
  .ite (decide ((lf ps 0).toInt > (100 : Int))) (
   .ret (0, [.nilp])) (
   .ite (decide ((0 : Int) ≤ (lf ps 0).toInt ∧ (lf ps 0).toInt ≤ (lf ps 0).toInt ∧ ((lf ps 0).toInt) * 24 ≤ 140737488355328 ∧ (lf ps 0).toInt ≤ 140737488355328)) (
    .ret (1, [.list false (List.replicate (((lf ps 0).toInt).toNat) (.pair (.list true []) .unit)), .pair (.int .i64 (IntKind.i64.wrap (((lf ps 0).toInt) - (1 : Int)))) .unit])) (
    .fail)))
noncomputable def f26_v (ps : List P) : Option (Nat × List P) := (f26_t ps).run some
noncomputable def f26_e : EntD := ⟨26, [.imm (.int .i64)], f26_v, [fun ps ls qs => ⟨[.imm .ptr (lf qs 0)], [.imm (.int .i64) (lf ps 0)]⟩, fun ps ls qs => ⟨[.box 0 (.pair (.slice (.pair (.slice .str) .unit)) (.pair (.int .i64) .unit)) (.pair (.blk 0 (.at (.pair (.slice .str) .unit)) (lf qs 0)) (.imm (.pair (.int .i64) .unit) (lf qs 1)))], [.imm (.int .i64) (lf ps 0)]⟩]⟩
noncomputable def f26_u : List Cu := []
noncomputable def f26_c : Cx := ⟨Try.prog, envOf [], 15, lOf f26_u, fun d => memB d [10]⟩
noncomputable def f26_b : Code := match Try.f26.body with | some b => b | none => .skip
theorem f26_x (ps : List P) (ls : List Nat) : execFn f26_c 26 f26_e.tm (explF ps 1 0) ls = (f26_t ps).run fun q => altR (f26_e.res.map fun f => f ps ls) 0 q some := by kernel_rfl
theorem f26_ok : OkEnt Try.prog f26_e := ent_ok (c := f26_c) (g := 26) (body := f26_b) (us := f26_u) (n := 1) (t := f26_t) (good_envOf _ trivial) Try.func26 rfl Try.call26 rfl trivial (by kernel_rfl) f26_x (fun _ => rfl)
/-! ### (*comprador/turn.Turn).at -/
noncomputable def f110_t (ps : List P) : Tree (Nat × List P) :=
 .ite (decide ((lf ps 2).toInt < (0 : Int))) (
  .ret (0, [.nilp])) (
  .ite (decide ((lf ps 2).toInt ≥ (((lf ps 0).xs).length : Int))) (
   .ret (0, [.nilp])) (
   .ite (inb ((lf ps 2).toInt) (((lf ps 0).xs).length)) (
    .ret (1, [])) (
    .fail)))
noncomputable def f110_v (ps : List P) : Option (Nat × List P) := (f110_t ps).run some
noncomputable def f110_e : EntD := ⟨110, [.box (.pair (.slice (.pair (.slice .str) .unit)) (.pair (.int .i64) .unit)) (.pair (.blk (.at (.pair (.slice .str) .unit))) (.imm (.pair (.int .i64) .unit))), .imm (.int .i64)], f110_v, [fun ps ls qs => ⟨[.imm .ptr (lf qs 0)], [.box (ls.getD 0 0) (.pair (.slice (.pair (.slice .str) .unit)) (.pair (.int .i64) .unit)) (.pair (.blk (ls.getD 1 0) (.at (.pair (.slice .str) .unit)) (lf ps 0)) (.imm (.pair (.int .i64) .unit) (lf ps 1))), .imm (.int .i64) (lf ps 2)]⟩, fun ps ls qs => ⟨[.ref (ls.getD 1 0) [.i ((lf ps 2)).toInt.toNat] (.pair (.slice .str) .unit)], [.box (ls.getD 0 0) (.pair (.slice (.pair (.slice .str) .unit)) (.pair (.int .i64) .unit)) (.pair (.blk (ls.getD 1 0) (.at (.pair (.slice .str) .unit)) (lf ps 0)) (.imm (.pair (.int .i64) .unit) (lf ps 1))), .imm (.int .i64) (lf ps 2)]⟩]⟩
noncomputable def f110_u : List Cu := []
noncomputable def f110_c : Cx := ⟨Try.prog, envOf [], 26, lOf f110_u, fun _ => false⟩
noncomputable def f110_b : Code := match Try.f110.body with | some b => b | none => .skip
theorem f110_x (ps : List P) (ls : List Nat) : execFn f110_c 110 f110_e.tm (explF ps 3 0) ls = (f110_t ps).run fun q => altR (f110_e.res.map fun f => f ps ls) 0 q some := by kernel_rfl
theorem f110_ok : OkEnt Try.prog f110_e := ent_ok (c := f110_c) (g := 110) (body := f110_b) (us := f110_u) (n := 3) (t := f110_t) (good_envOf _ trivial) Try.func110 rfl Try.call110 rfl trivial (by kernel_rfl) f110_x (fun _ => rfl)
/-! ### slices.Index[[]string,string] -/
noncomputable def f191_k26 : Sk := { t := [(0, .imm (.slice .str) .unit), (1, .imm .str .unit), (7, .imm (.int .i64) .unit), (8, .imm (.int .i64) .unit)], h := [] }
noncomputable def f191_o26 : List (Out × Sk) := [(.ret, { t := [(4, .imm (.int .i64) .unit)], h := [] }), ((.exit 0), { t := [], h := [] })]
noncomputable def f191_s26 (ls : List P) : Tree Step :=
 .ite (decide ((lf ls 3).toInt < (lf ls 2).toInt)) (
  .ite (inb ((lf ls 3).toInt) (((lf ls 0).xs).length)) (
   .ite (strEq ((lf ls 1).toStr) ((rd ((lf ls 0).xs) (((lf ls 3).toInt).toNat)).toStr)) (
    .ret (.inr (0, [lf ls 3]))) (
    .ret (.inl [lf ls 0, lf ls 1, lf ls 2, .int .i64 (IntKind.i64.wrap (((lf ls 3).toInt) + (1 : Int)))]))) (
   .fail)) (
  .ret (.inr (1, [])))
noncomputable def f191_t (ps : List P) : Tree (Nat × List P) :=
 .loop (loopT f191_s26 FUEL [lf ps 0, lf ps 1, .int .i64 (((lf ps 0).xs).length : Int), .int .i64 (0 : Int)]) fun y1 =>
  .ite (Nat.beq y1.1 0) (
   .ret (0, [lf y1.2 0])) (
   .ite (Nat.beq y1.1 1) (
    .ret (0, [.int .i64 (-1 : Int)])) (
    .fail))
noncomputable def f191_v (ps : List P) : Option (Nat × List P) := (f191_t ps).run some
noncomputable def f191_e : EntD := ⟨191, [.imm (.slice .str), .imm .str], f191_v, [fun ps ls qs => ⟨[.imm (.int .i64) (lf qs 0)], [.imm (.slice .str) (lf ps 0), .imm .str (lf ps 1)]⟩]⟩
noncomputable def f191_u : List Cu := [.loop 26 f191_k26 f191_o26 f191_s26]
noncomputable def f191_c : Cx := ⟨Try.prog, envOf [], 19, lOf f191_u, fun _ => false⟩
noncomputable def f191_b : Code := match Try.f191.body with | some b => b | none => .skip
theorem f191_q26 : (Cu.loop 26 f191_k26 f191_o26 f191_s26).Ok f191_c f191_b := ⟨by kernel_rfl, fun ls Kr Kx => by kernel_rfl⟩
theorem f191_x (ps : List P) (ls : List Nat) : execFn f191_c 191 f191_e.tm (explF ps 2 0) ls = (f191_t ps).run fun q => altR (f191_e.res.map fun f => f ps ls) 0 q some := by kernel_rfl
theorem f191_ok : OkEnt Try.prog f191_e := ent_ok (c := f191_c) (g := 191) (body := f191_b) (us := f191_u) (n := 2) (t := f191_t) (good_envOf _ trivial) Try.func191 rfl Try.call191 rfl ⟨f191_q26, trivial⟩ (by kernel_rfl) f191_x (fun _ => rfl)
/-! ### slices.Contains[[]string,string] -/
noncomputable def f168_t (ps : List P) : Tree (Nat × List P) :=
 .loop (f191_v [lf ps 0, lf ps 1]) fun x1 =>
  .ite (Nat.beq x1.1 0) (
   .ret (0, [.bool (decide ((lf x1.2 0).toInt ≥ (0 : Int)))])) (
   .fail)
noncomputable def f168_v (ps : List P) : Option (Nat × List P) := (f168_t ps).run some
noncomputable def f168_e : EntD := ⟨168, [.imm (.slice .str), .imm .str], f168_v, [fun ps ls qs => ⟨[.imm .bool (lf qs 0)], [.imm (.slice .str) (lf ps 0), .imm .str (lf ps 1)]⟩]⟩
noncomputable def f168_u : List Cu := []
noncomputable def f168_c : Cx := ⟨Try.prog, envOf [f191_e], 9, lOf f168_u, fun _ => false⟩
noncomputable def f168_b : Code := match Try.f168.body with | some b => b | none => .skip
theorem f168_x (ps : List P) (ls : List Nat) : execFn f168_c 168 f168_e.tm (explF ps 2 0) ls = (f168_t ps).run fun q => altR (f168_e.res.map fun f => f ps ls) 0 q some := by kernel_rfl
theorem f168_ok : OkEnt Try.prog f168_e := ent_ok (c := f168_c) (g := 168) (body := f168_b) (us := f168_u) (n := 2) (t := f168_t) (good_envOf _ ⟨f191_ok, trivial⟩) Try.func168 rfl Try.call168 rfl trivial (by kernel_rfl) f168_x (fun _ => rfl)
/-! ### (*comprador/turn.queue[string]).push -/
noncomputable def f111_t (ps : List P) : Tree (Nat × List P) :=
 .loop (f168_v [(rd ((lf ps 0).xs) (((lf ps 1).toInt).toNat)).fst, lf ps 2]) fun x1 =>
  .ite (Nat.beq x1.1 0) (
   .ite ((lf x1.2 0).toBool) (
    .ret (0, [.bool false, lf ps 0])) (
    .ite (decide (((((rd ((lf ps 0).xs) (((lf ps 1).toInt).toNat)).fst).xs).length + 1) * 16 ≤ 140737488355328)) (
     .ite (Nat.beq (((lf ps 1).toInt).toNat) (((lf ps 1).toInt).toNat)) (
      .ite (Nat.beq (((lf ps 1).toInt).toNat) (((lf ps 1).toInt).toNat)) (
       .ret (0, [.bool true, .list false (((lf ps 0).xs).set (((lf ps 1).toInt).toNat) (.pair (.list ((((rd ((lf ps 0).xs) (((lf ps 1).toInt).toNat)).fst).isNil) && false) ((((rd ((lf ps 0).xs) (((lf ps 1).toInt).toNat)).fst).xs) ++ ([lf ps 2] : List P))) ((rd ((lf ps 0).xs) (((lf ps 1).toInt).toNat)).snd)))])) (
       .fail)) (
      .fail)) (
     .fail))) (
   .fail)
noncomputable def f111_v (ps : List P) : Option (Nat × List P) := (f111_t ps).run some
noncomputable def f111_e : EntD := ⟨111, [.pel (.pair (.slice .str) .unit), .imm .str], f111_v, [fun ps ls qs => ⟨[.imm .bool (lf qs 0)], [.pel (ls.getD 0 0) (.pair (.slice .str) .unit) ((lf ps 1)).toInt.toNat (lf qs 1), .imm .str (lf ps 2)]⟩]⟩
noncomputable def f111_u : List Cu := []
noncomputable def f111_c : Cx := ⟨Try.prog, envOf [f168_e], 21, lOf f111_u, fun _ => false⟩
noncomputable def f111_b : Code := match Try.f111.body with | some b => b | none => .skip
theorem f111_x (ps : List P) (ls : List Nat) : execFn f111_c 111 f111_e.tm (explF ps 3 0) ls = (f111_t ps).run fun q => altR (f111_e.res.map fun f => f ps ls) 0 q some := by kernel_rfl
theorem f111_ok : OkEnt Try.prog f111_e := ent_ok (c := f111_c) (g := 111) (body := f111_b) (us := f111_u) (n := 3) (t := f111_t) (good_envOf _ ⟨f168_ok, trivial⟩) Try.func111 rfl Try.call111 rfl trivial (by kernel_rfl) f111_x (fun _ => rfl)
/-! ### (*comprador/turn.Turn).Push -/
noncomputable def f27_t (ps : List P) : Tree (Nat × List P) :=
 .loop (f110_v [lf ps 0, lf ps 1, lf ps 2]) fun x1 =>
  .ite (Nat.beq x1.1 0) (
   .ret (0, [.bool false, lf ps 0])) (
   .ite (Nat.beq x1.1 1) (
    .loop (f111_v [lf ps 0, .int .i64 (((lf ps 2).toInt).toNat : Int), lf ps 3]) fun x2 =>
     .ite (Nat.beq x2.1 0) (
      .ret (0, [lf x2.2 0, lf x2.2 1])) (
      .fail)) (
    .fail))
noncomputable def f27_v (ps : List P) : Option (Nat × List P) := (f27_t ps).run some
noncomputable def f27_e : EntD := ⟨27, [.box (.pair (.slice (.pair (.slice .str) .unit)) (.pair (.int .i64) .unit)) (.pair (.blk (.at (.pair (.slice .str) .unit))) (.imm (.pair (.int .i64) .unit))), .imm (.int .i64), .imm .str], f27_v, [fun ps ls qs => ⟨[.imm .bool (lf qs 0)], [.box (ls.getD 0 0) (.pair (.slice (.pair (.slice .str) .unit)) (.pair (.int .i64) .unit)) (.pair (.blk (ls.getD 1 0) (.at (.pair (.slice .str) .unit)) (lf qs 1)) (.imm (.pair (.int .i64) .unit) (lf ps 1))), .imm (.int .i64) (lf ps 2), .imm .str (lf ps 3)]⟩]⟩
noncomputable def f27_u : List Cu := []
noncomputable def f27_c : Cx := ⟨Try.prog, envOf [f110_e, f111_e], 18, lOf f27_u, fun _ => false⟩
noncomputable def f27_b : Code := match Try.f27.body with | some b => b | none => .skip
theorem f27_x (ps : List P) (ls : List Nat) : execFn f27_c 27 f27_e.tm (explF ps 4 0) ls = (f27_t ps).run fun q => altR (f27_e.res.map fun f => f ps ls) 0 q some := by kernel_rfl
theorem f27_ok : OkEnt Try.prog f27_e := ent_ok (c := f27_c) (g := 27) (body := f27_b) (us := f27_u) (n := 4) (t := f27_t) (good_envOf _ ⟨f110_ok, f111_ok, trivial⟩) Try.func27 rfl Try.call27 rfl trivial (by kernel_rfl) f27_x (fun _ => rfl)
/-! ### (*comprador/turn.queue[string]).pop -/
noncomputable def f112_t (ps : List P) : Tree (Nat × List P) :=
 .ite (inb (0 : Int) ((((rd ((lf ps 0).xs) (((lf ps 1).toInt).toNat)).fst).xs).length)) (
  .ite (decide ((0 : Int) ≤ (1 : Int) ∧ (1 : Int) ≤ ((((rd ((lf ps 0).xs) (((lf ps 1).toInt).toNat)).fst).xs).length : Int) ∧ ((((rd ((lf ps 0).xs) (((lf ps 1).toInt).toNat)).fst).xs).length : Int) ≤ ((((rd ((lf ps 0).xs) (((lf ps 1).toInt).toNat)).fst).xs).length : Int))) (
   .ite (Nat.beq (((lf ps 1).toInt).toNat) (((lf ps 1).toInt).toNat)) (
    .ret (0, [rd (((rd ((lf ps 0).xs) (((lf ps 1).toInt).toNat)).fst).xs) 0, .list false (((lf ps 0).xs).set (((lf ps 1).toInt).toNat) (.pair (.list (((rd ((lf ps 0).xs) (((lf ps 1).toInt).toNat)).fst).isNil) (((((rd ((lf ps 0).xs) (((lf ps 1).toInt).toNat)).fst).xs).take (((((rd ((lf ps 0).xs) (((lf ps 1).toInt).toNat)).fst).xs).length : Int).toNat)).drop 1)) ((rd ((lf ps 0).xs) (((lf ps 1).toInt).toNat)).snd)))])) (
    .fail)) (
   .fail)) (
  .fail)
noncomputable def f112_v (ps : List P) : Option (Nat × List P) := (f112_t ps).run some
noncomputable def f112_e : EntD := ⟨112, [.pel (.pair (.slice .str) .unit)], f112_v, [fun ps ls qs => ⟨[.imm .str (lf qs 0)], [.pel (ls.getD 0 0) (.pair (.slice .str) .unit) ((lf ps 1)).toInt.toNat (lf qs 1)]⟩]⟩
noncomputable def f112_u : List Cu := []
noncomputable def f112_c : Cx := ⟨Try.prog, envOf [], 19, lOf f112_u, fun _ => false⟩
noncomputable def f112_b : Code := match Try.f112.body with | some b => b | none => .skip
theorem f112_x (ps : List P) (ls : List Nat) : execFn f112_c 112 f112_e.tm (explF ps 2 0) ls = (f112_t ps).run fun q => altR (f112_e.res.map fun f => f ps ls) 0 q some := by kernel_rfl
theorem f112_ok : OkEnt Try.prog f112_e := ent_ok (c := f112_c) (g := 112) (body := f112_b) (us := f112_u) (n := 2) (t := f112_t) (good_envOf _ trivial) Try.func112 rfl Try.call112 rfl trivial (by kernel_rfl) f112_x (fun _ => rfl)
/-! ### (*comprador/turn.Turn).Pop -/
noncomputable def f28_k58 : Sk := { t := [(0, .ref 2001 [] (.pair (.slice (.pair (.slice .str) .unit)) (.pair (.int .i64) .unit))), (13, .imm (.int .i64) .unit), (14, .imm (.int .i64) .unit)], h := [(2001, .obj (.pair (.slice (.pair (.slice .str) .unit)) (.pair (.int .i64) .unit)) (.pair (.blk 2002 (.at (.pair (.slice .str) .unit))) (.imm (.pair (.int .i64) .unit) .unit))), (2002, .blk (.at (.pair (.slice .str) .unit)) .unit)] }
noncomputable def f28_o58 : List (Out × Sk) := [(.ret, { t := [(0, .ref 2001 [] (.pair (.slice (.pair (.slice .str) .unit)) (.pair (.int .i64) .unit))), (2, .imm (.int .i64) .unit), (3, .imm .str .unit), (4, .imm .bool .unit)], h := [(2001, .obj (.pair (.slice (.pair (.slice .str) .unit)) (.pair (.int .i64) .unit)) (.pair (.blk 2002 (.at (.pair (.slice .str) .unit))) (.imm (.pair (.int .i64) .unit) .unit))), (2002, .blk (.at (.pair (.slice .str) .unit)) .unit)] }), ((.exit 0), { t := [(0, .ref 2001 [] (.pair (.slice (.pair (.slice .str) .unit)) (.pair (.int .i64) .unit)))], h := [(2001, .obj (.pair (.slice (.pair (.slice .str) .unit)) (.pair (.int .i64) .unit)) (.pair (.blk 2002 (.at (.pair (.slice .str) .unit))) (.imm (.pair (.int .i64) .unit) .unit))), (2002, .blk (.at (.pair (.slice .str) .unit)) .unit)] })]
noncomputable def f28_s58 (ls : List P) : Tree Step :=
 .ite (decide ((lf ls 1).toInt < (lf ls 0).toInt)) (
  .ite ((((lf ls 3).xs).length : Int) == 0) (
   .fail) (
   .ite (inb ((IntKind.i64.wrap ((IntKind.i64.wrap ((((lf ls 2).fst).toInt) + (1 : Int))) + ((lf ls 1).toInt))).tmod (((lf ls 3).xs).length : Int)) (((lf ls 3).xs).length)) (
    .ite (decide (((((rd ((lf ls 3).xs) (((IntKind.i64.wrap ((IntKind.i64.wrap ((((lf ls 2).fst).toInt) + (1 : Int))) + ((lf ls 1).toInt))).tmod (((lf ls 3).xs).length : Int)).toNat)).fst).xs).length : Int) > (0 : Int))) (
     .ite (inb ((IntKind.i64.wrap ((IntKind.i64.wrap ((((lf ls 2).fst).toInt) + (1 : Int))) + ((lf ls 1).toInt))).tmod (((lf ls 3).xs).length : Int)) (((lf ls 3).xs).length)) (
      .loop (f112_v [lf ls 3, .int .i64 (((IntKind.i64.wrap ((IntKind.i64.wrap ((((lf ls 2).fst).toInt) + (1 : Int))) + ((lf ls 1).toInt))).tmod (((lf ls 3).xs).length : Int)).toNat : Int)]) fun x1 =>
       .ite (Nat.beq x1.1 0) (
        .ret (.inr (0, [.int .i64 ((IntKind.i64.wrap ((IntKind.i64.wrap ((((lf ls 2).fst).toInt) + (1 : Int))) + ((lf ls 1).toInt))).tmod (((lf ls 3).xs).length : Int)), lf x1.2 0, .bool true, .pair (.int .i64 ((IntKind.i64.wrap ((IntKind.i64.wrap ((((lf ls 2).fst).toInt) + (1 : Int))) + ((lf ls 1).toInt))).tmod (((lf ls 3).xs).length : Int))) ((lf ls 2).snd), lf x1.2 1]))) (
        .fail)) (
      .fail)) (
     .ret (.inl [lf ls 0, .int .i64 (IntKind.i64.wrap (((lf ls 1).toInt) + (1 : Int))), lf ls 2, lf ls 3]))) (
    .fail))) (
  .ret (.inr (1, [lf ls 2, lf ls 3])))
noncomputable def f28_t (ps : List P) : Tree (Nat × List P) :=
 .loop (loopT f28_s58 FUEL [.int .i64 (((lf ps 0).xs).length : Int), .int .i64 (0 : Int), lf ps 1, lf ps 0]) fun y2 =>
  .ite (Nat.beq y2.1 0) (
   .ret (0, [lf y2.2 0, lf y2.2 1, lf y2.2 2, lf y2.2 4, lf y2.2 3])) (
   .ite (Nat.beq y2.1 1) (
    .ret (0, [.int .i64 (0 : Int), .str .empty, .bool false, lf y2.2 1, lf y2.2 0])) (
    .fail))
noncomputable def f28_v (ps : List P) : Option (Nat × List P) := (f28_t ps).run some
noncomputable def f28_e : EntD := ⟨28, [.box (.pair (.slice (.pair (.slice .str) .unit)) (.pair (.int .i64) .unit)) (.pair (.blk (.at (.pair (.slice .str) .unit))) (.imm (.pair (.int .i64) .unit)))], f28_v, [fun ps ls qs => ⟨[.imm (.int .i64) (lf qs 0), .imm .str (lf qs 1), .imm .bool (lf qs 2)], [.box (ls.getD 0 0) (.pair (.slice (.pair (.slice .str) .unit)) (.pair (.int .i64) .unit)) (.pair (.blk (ls.getD 1 0) (.at (.pair (.slice .str) .unit)) (lf qs 3)) (.imm (.pair (.int .i64) .unit) (lf qs 4)))]⟩]⟩
noncomputable def f28_u : List Cu := [.loop 58 f28_k58 f28_o58 f28_s58]
noncomputable def f28_c : Cx := ⟨Try.prog, envOf [f112_e], 53, lOf f28_u, fun _ => false⟩
noncomputable def f28_b : Code := match Try.f28.body with | some b => b | none => .skip
theorem f28_q58 : (Cu.loop 58 f28_k58 f28_o58 f28_s58).Ok f28_c f28_b := ⟨by kernel_rfl, fun ls Kr Kx => by kernel_rfl⟩
theorem f28_x (ps : List P) (ls : List Nat) : execFn f28_c 28 f28_e.tm (explF ps 2 0) ls = (f28_t ps).run fun q => altR (f28_e.res.map fun f => f ps ls) 0 q some := by kernel_rfl
theorem f28_ok : OkEnt Try.prog f28_e := ent_ok (c := f28_c) (g := 28) (body := f28_b) (us := f28_u) (n := 2) (t := f28_t) (good_envOf _ ⟨f112_ok, trivial⟩) Try.func28 rfl Try.call28 rfl ⟨f28_q58, trivial⟩ (by kernel_rfl) f28_x (fun _ => rfl)
/-! ### (*comprador/turn.Turn).at -/
noncomputable def f110_1_t (ps : List P) : Tree (Nat × List P) :=
 .ret (0, [.nilp])
noncomputable def f110_1_v (ps : List P) : Option (Nat × List P) := (f110_1_t ps).run some
noncomputable def f110_1_e : EntD := ⟨110, [.imm .ptr, .imm (.int .i64)], f110_1_v, [fun ps ls qs => ⟨[.imm .ptr (lf qs 0)], [.imm .ptr (lf ps 0), .imm (.int .i64) (lf ps 1)]⟩]⟩
noncomputable def f110_1_u : List Cu := []
noncomputable def f110_1_c : Cx := ⟨Try.prog, envOf [], 26, lOf f110_1_u, fun _ => false⟩
noncomputable def f110_1_b : Code := match Try.f110.body with | some b => b | none => .skip
theorem f110_1_x (ps : List P) (ls : List Nat) : execFn f110_1_c 110 f110_1_e.tm (explF ps 2 0) ls = (f110_1_t ps).run fun q => altR (f110_1_e.res.map fun f => f ps ls) 0 q some := by kernel_rfl
theorem f110_1_ok : OkEnt Try.prog f110_1_e := ent_ok (c := f110_1_c) (g := 110) (body := f110_1_b) (us := f110_1_u) (n := 2) (t := f110_1_t) (good_envOf _ trivial) Try.func110 rfl Try.call110 rfl trivial (by kernel_rfl) f110_1_x (fun _ => rfl)
/-! ### (*comprador/turn.Turn).Push -/
noncomputable def f27_1_t (ps : List P) : Tree (Nat × List P) :=
 .loop (f110_1_v [lf ps 0, lf ps 1]) fun x1 =>
  .ite (Nat.beq x1.1 0) (
   .ret (0, [.bool false])) (
   .fail)
noncomputable def f27_1_v (ps : List P) : Option (Nat × List P) := (f27_1_t ps).run some
noncomputable def f27_1_e : EntD := ⟨27, [.imm .ptr, .imm (.int .i64), .imm .str], f27_1_v, [fun ps ls qs => ⟨[.imm .bool (lf qs 0)], [.imm .ptr (lf ps 0), .imm (.int .i64) (lf ps 1), .imm .str (lf ps 2)]⟩]⟩
noncomputable def f27_1_u : List Cu := []
noncomputable def f27_1_c : Cx := ⟨Try.prog, envOf [f110_1_e], 18, lOf f27_1_u, fun _ => false⟩
noncomputable def f27_1_b : Code := match Try.f27.body with | some b => b | none => .skip
theorem f27_1_x (ps : List P) (ls : List Nat) : execFn f27_1_c 27 f27_1_e.tm (explF ps 3 0) ls = (f27_1_t ps).run fun q => altR (f27_1_e.res.map fun f => f ps ls) 0 q some := by kernel_rfl
theorem f27_1_ok : OkEnt Try.prog f27_1_e := ent_ok (c := f27_1_c) (g := 27) (body := f27_1_b) (us := f27_1_u) (n := 3) (t := f27_1_t) (good_envOf _ ⟨f110_1_ok, trivial⟩) Try.func27 rfl Try.call27 rfl trivial (by kernel_rfl) f27_1_x (fun _ => rfl)
/-! ### (*comprador/turn.Turn).Pop -/
noncomputable def f28_1_t (ps : List P) : Tree (Nat × List P) :=
 .ret (0, [.int .i64 (0 : Int), .str .empty, .bool false])
noncomputable def f28_1_v (ps : List P) : Option (Nat × List P) := (f28_1_t ps).run some
noncomputable def f28_1_e : EntD := ⟨28, [.imm .ptr], f28_1_v, [fun ps ls qs => ⟨[.imm (.int .i64) (lf qs 0), .imm .str (lf qs 1), .imm .bool (lf qs 2)], [.imm .ptr (lf ps 0)]⟩]⟩
noncomputable def f28_1_u : List Cu := []
noncomputable def f28_1_c : Cx := ⟨Try.prog, envOf [], 53, lOf f28_1_u, fun _ => false⟩
noncomputable def f28_1_b : Code := match Try.f28.body with | some b => b | none => .skip
theorem f28_1_x (ps : List P) (ls : List Nat) : execFn f28_1_c 28 f28_1_e.tm (explF ps 1 0) ls = (f28_1_t ps).run fun q => altR (f28_1_e.res.map fun f => f ps ls) 0 q some := by kernel_rfl
theorem f28_1_ok : OkEnt Try.prog f28_1_e := ent_ok (c := f28_1_c) (g := 28) (body := f28_1_b) (us := f28_1_u) (n := 1) (t := f28_1_t) (good_envOf _ trivial) Try.func28 rfl Try.call28 rfl trivial (by kernel_rfl) f28_1_x (fun _ => rfl)
/-! ### comprador/compradorlaw35.awake -/
noncomputable def f25_t (ps : List P) : Tree (Nat × List P) :=
 .loop (f26_v [.int .i64 (2 : Int)]) fun x1 =>
  .ite (Nat.beq x1.1 0) (
   .loop (f27_1_v [lf x1.2 0, .int .i64 (0 : Int), .str ⟨#[97]⟩]) fun x14 =>
    .ite (Nat.beq x14.1 0) (
     .ite ((lf x14.2 0).toBool) (
      .loop (f27_1_v [lf x1.2 0, .int .i64 (0 : Int), .str ⟨#[98]⟩]) fun x15 =>
       .ite (Nat.beq x15.1 0) (
        .ite ((lf x15.2 0).toBool) (
         .loop (f27_1_v [lf x1.2 0, .int .i64 (1 : Int), .str ⟨#[99]⟩]) fun x16 =>
          .ite (Nat.beq x16.1 0) (
           .loop (f28_1_v [lf x1.2 0]) fun x17 =>
            .ite (Nat.beq x17.1 0) (
             .loop (f28_1_v [lf x1.2 0]) fun x18 =>
              .ite (Nat.beq x18.1 0) (
               .loop (f28_1_v [lf x1.2 0]) fun x19 =>
                .ite (Nat.beq x19.1 0) (
                 .ite ((lf x16.2 0).toBool) (
                  .ite (strEq ((lf x17.2 1).toStr) ⟨#[97]⟩) (
                   .ite (strEq ((lf x18.2 1).toStr) ⟨#[99]⟩) (
                    .ret (0, [.bool (strEq ((lf x19.2 1).toStr) ⟨#[98]⟩)])) (
                    .ret (0, [.bool false]))) (
                   .ret (0, [.bool false]))) (
                  .ret (0, [.bool false]))) (
                 .fail)) (
               .fail)) (
             .fail)) (
           .fail)) (
         .loop (f28_1_v [lf x1.2 0]) fun x20 =>
          .ite (Nat.beq x20.1 0) (
           .loop (f28_1_v [lf x1.2 0]) fun x21 =>
            .ite (Nat.beq x21.1 0) (
             .loop (f28_1_v [lf x1.2 0]) fun x22 =>
              .ite (Nat.beq x22.1 0) (
               .ret (0, [.bool false])) (
               .fail)) (
             .fail)) (
           .fail))) (
        .fail)) (
      .loop (f28_1_v [lf x1.2 0]) fun x23 =>
       .ite (Nat.beq x23.1 0) (
        .loop (f28_1_v [lf x1.2 0]) fun x24 =>
         .ite (Nat.beq x24.1 0) (
          .loop (f28_1_v [lf x1.2 0]) fun x25 =>
           .ite (Nat.beq x25.1 0) (
            .ret (0, [.bool false])) (
            .fail)) (
          .fail)) (
        .fail))) (
     .fail)) (
   .ite (Nat.beq x1.1 1) (
    .loop (f27_v [lf x1.2 0, lf x1.2 1, .int .i64 (0 : Int), .str ⟨#[97]⟩]) fun x2 =>
     .ite (Nat.beq x2.1 0) (
      .ite ((lf x2.2 0).toBool) (
       .loop (f27_v [lf x2.2 1, lf x1.2 1, .int .i64 (0 : Int), .str ⟨#[98]⟩]) fun x3 =>
        .ite (Nat.beq x3.1 0) (
         .ite ((lf x3.2 0).toBool) (
          .loop (f27_v [lf x3.2 1, lf x1.2 1, .int .i64 (1 : Int), .str ⟨#[99]⟩]) fun x4 =>
           .ite (Nat.beq x4.1 0) (
            .loop (f28_v [lf x4.2 1, lf x1.2 1]) fun x5 =>
             .ite (Nat.beq x5.1 0) (
              .loop (f28_v [lf x5.2 3, lf x5.2 4]) fun x6 =>
               .ite (Nat.beq x6.1 0) (
                .loop (f28_v [lf x6.2 3, lf x6.2 4]) fun x7 =>
                 .ite (Nat.beq x7.1 0) (
                  .ite ((lf x4.2 0).toBool) (
                   .ite (strEq ((lf x5.2 1).toStr) ⟨#[97]⟩) (
                    .ite (strEq ((lf x6.2 1).toStr) ⟨#[99]⟩) (
                     .ret (0, [.bool (strEq ((lf x7.2 1).toStr) ⟨#[98]⟩)])) (
                     .ret (0, [.bool false]))) (
                    .ret (0, [.bool false]))) (
                   .ret (0, [.bool false]))) (
                  .fail)) (
                .fail)) (
              .fail)) (
            .fail)) (
          .loop (f28_v [lf x3.2 1, lf x1.2 1]) fun x8 =>
           .ite (Nat.beq x8.1 0) (
            .loop (f28_v [lf x8.2 3, lf x8.2 4]) fun x9 =>
             .ite (Nat.beq x9.1 0) (
              .loop (f28_v [lf x9.2 3, lf x9.2 4]) fun x10 =>
               .ite (Nat.beq x10.1 0) (
                .ret (0, [.bool false])) (
                .fail)) (
              .fail)) (
            .fail))) (
         .fail)) (
       .loop (f28_v [lf x2.2 1, lf x1.2 1]) fun x11 =>
        .ite (Nat.beq x11.1 0) (
         .loop (f28_v [lf x11.2 3, lf x11.2 4]) fun x12 =>
          .ite (Nat.beq x12.1 0) (
           .loop (f28_v [lf x12.2 3, lf x12.2 4]) fun x13 =>
            .ite (Nat.beq x13.1 0) (
             .ret (0, [.bool false])) (
             .fail)) (
           .fail)) (
         .fail))) (
      .fail)) (
    .fail))
noncomputable def f25_v (ps : List P) : Option (Nat × List P) := (f25_t ps).run some
noncomputable def f25_e : EntD := ⟨25, [], f25_v, [fun ps ls qs => ⟨[.imm .bool (lf qs 0)], []⟩]⟩
noncomputable def f25_u : List Cu := []
noncomputable def f25_c : Cx := ⟨Try.prog, envOf [f26_e, f27_e, f27_1_e, f28_e, f28_1_e], 54, lOf f25_u, fun _ => false⟩
noncomputable def f25_b : Code := match Try.f25.body with | some b => b | none => .skip
theorem f25_x (ps : List P) (ls : List Nat) : execFn f25_c 25 f25_e.tm (explF ps 0 0) ls = (f25_t ps).run fun q => altR (f25_e.res.map fun f => f ps ls) 0 q some := by kernel_rfl
theorem f25_ok : OkEnt Try.prog f25_e := ent_ok (c := f25_c) (g := 25) (body := f25_b) (us := f25_u) (n := 0) (t := f25_t) (good_envOf _ ⟨f26_ok, f27_ok, f27_1_ok, f28_ok, f28_1_ok, trivial⟩) Try.func25 rfl Try.call25 rfl trivial (by kernel_rfl) f25_x (fun _ => rfl)
/-! ### comprador/compradorref35.New -/
noncomputable def f41_k1 : Sk := { t := [(0, .imm (.int .i64) .unit)], h := [] }
noncomputable def f41_o1 : List (Out × Sk) := [(.ret, { t := [(2, .ref 4030 [] (.pair (.slice (.slice .str)) (.pair (.int .i64) .unit))), (3, .imm .bool .unit)], h := [(4030, .obj (.pair (.slice (.slice .str)) (.pair (.int .i64) .unit)) (.pair (.slf 4031 (.slice .str)) (.imm (.pair (.int .i64) .unit) .unit))), (4031, .arr (.slice .str) true [])] })]
noncomputable def f41_s1 (ls : List P) : Tree (Nat × List P) :=
 .ite (decide ((lf ls 0).toInt < (1 : Int))) (
  .ret (0, [.bool false, .pair (.int .i64 (0 : Int)) .unit, .list true []])) (
  .ite (decide ((lf ls 0).toInt > (100 : Int))) (
   .ret (0, [.bool false, .pair (.int .i64 (0 : Int)) .unit, .list true []])) (
   .ite (decide ((0 : Int) ≤ (lf ls 0).toInt ∧ (lf ls 0).toInt ≤ (lf ls 0).toInt ∧ ((lf ls 0).toInt) * 24 ≤ 140737488355328 ∧ (lf ls 0).toInt ≤ 140737488355328)) (
    .ret (0, [.bool true, .pair (.int .i64 (-1 : Int)) .unit, .list false (List.replicate (((lf ls 0).toInt).toNat) (.list true []))])) (
    .fail)))
noncomputable def f41_t (ps : List P) : Tree (Nat × List P) :=
 .loop ((f41_s1 [lf ps 0]).run some) fun y1 =>
  .ite (Nat.beq y1.1 0) (
   .ret (0, [.list ((lf y1.2 2).isNil) ((lf y1.2 2).xs), lf y1.2 1, lf y1.2 0])) (
   .fail)
noncomputable def f41_v (ps : List P) : Option (Nat × List P) := (f41_t ps).run some
noncomputable def f41_e : EntD := ⟨41, [.imm (.int .i64)], f41_v, [fun ps ls qs => ⟨[.pair (.own (ls.getD 2030 0) (.slice .str) (lf qs 0).isNil (lf qs 0).xs) (.imm (.pair (.int .i64) .unit) (lf qs 1)), .imm .bool (lf qs 2)], [.imm (.int .i64) (lf ps 0)]⟩]⟩
noncomputable def f41_u : List Cu := [.cut 1 f41_k1 f41_o1 f41_s1]
noncomputable def f41_c : Cx := ⟨Try.prog, envOf [], 14, lOf f41_u, fun _ => false⟩
noncomputable def f41_b : Code := match Try.f41.body with | some b => b | none => .skip
theorem f41_q1 : (Cu.cut 1 f41_k1 f41_o1 f41_s1).Ok f41_c f41_b := ⟨by kernel_rfl, fun ls Kx => by kernel_rfl⟩
theorem f41_x (ps : List P) (ls : List Nat) : execFn f41_c 41 f41_e.tm (explF ps 1 0) ls = (f41_t ps).run fun q => altR (f41_e.res.map fun f => f ps ls) 0 q some := by kernel_rfl
theorem f41_ok : OkEnt Try.prog f41_e := ent_ok (c := f41_c) (g := 41) (body := f41_b) (us := f41_u) (n := 1) (t := f41_t) (good_envOf _ trivial) Try.func41 rfl Try.call41 rfl ⟨f41_q1, trivial⟩ (by kernel_rfl) f41_x (fun _ => rfl)
/-! ### (*comprador/compradorref35.X).put -/
noncomputable def f121_t (ps : List P) : Tree (Nat × List P) :=
 .ite (decide ((0 + ((lf ps 0).xs).length) * 24 ≤ 140737488355328)) (
  .ite (inb ((lf ps 2).toInt) (((lf ps 0).xs).length)) (
   .ret (0, [.list (((lf ps 0).xs).isEmpty) (((lf ps 0).xs).set (((lf ps 2).toInt).toNat) (lf ps 3))])) (
   .fail)) (
  .fail)
noncomputable def f121_v (ps : List P) : Option (Nat × List P) := (f121_t ps).run some
noncomputable def f121_e : EntD := ⟨121, [.box (.pair (.slice (.slice .str)) (.pair (.int .i64) .unit)) (.pair (.own (.slice .str)) (.imm (.pair (.int .i64) .unit))), .imm (.int .i64), .imm (.slice .str)], f121_v, [fun ps ls qs => ⟨[], [.box (ls.getD 0 0) (.pair (.slice (.slice .str)) (.pair (.int .i64) .unit)) (.pair (.own 0 (.slice .str) (lf qs 0).isNil (lf qs 0).xs) (.imm (.pair (.int .i64) .unit) (lf ps 1))), .imm (.int .i64) (lf ps 2), .imm (.slice .str) (lf ps 3)]⟩]⟩
noncomputable def f121_u : List Cu := []
noncomputable def f121_c : Cx := ⟨Try.prog, envOf [], 21, lOf f121_u, fun _ => false⟩
noncomputable def f121_b : Code := match Try.f121.body with | some b => b | none => .skip
theorem f121_x (ps : List P) (ls : List Nat) : execFn f121_c 121 f121_e.tm (explF ps 4 0) ls = (f121_t ps).run fun q => altR (f121_e.res.map fun f => f ps ls) 0 q some := by kernel_rfl
theorem f121_ok : OkEnt Try.prog f121_e := ent_ok (c := f121_c) (g := 121) (body := f121_b) (us := f121_u) (n := 4) (t := f121_t) (good_envOf _ trivial) Try.func121 rfl Try.call121 rfl trivial (by kernel_rfl) f121_x (fun _ => rfl)
/-! ### (*comprador/compradorref35.X).Push -/
noncomputable def f44_k122 : Sk := { t := [(0, .ref 2001 [] (.pair (.slice (.slice .str)) (.pair (.int .i64) .unit))), (1, .imm (.int .i64) .unit), (2, .imm .str .unit), (7, .slf 5901 .str), (8, .imm (.int .i64) .unit)], h := [(2001, .obj (.pair (.slice (.slice .str)) (.pair (.int .i64) .unit)) (.pair (.slf 2002 (.slice .str)) (.imm (.pair (.int .i64) .unit) .unit))), (5901, .arr .str true []), (2002, .arr (.slice .str) true [])] }
noncomputable def f44_o122 : List (Out × Sk) := [(.ret, { t := [(0, .ref 2001 [] (.pair (.slice (.slice .str)) (.pair (.int .i64) .unit))), (6, .imm .bool .unit)], h := [(2001, .obj (.pair (.slice (.slice .str)) (.pair (.int .i64) .unit)) (.pair (.slf 2002 (.slice .str)) (.imm (.pair (.int .i64) .unit) .unit))), (2002, .arr (.slice .str) true [])] }), ((.exit 0), { t := [(0, .ref 2001 [] (.pair (.slice (.slice .str)) (.pair (.int .i64) .unit))), (1, .imm (.int .i64) .unit), (2, .imm .str .unit), (7, .slf 5931 .str)], h := [(2001, .obj (.pair (.slice (.slice .str)) (.pair (.int .i64) .unit)) (.pair (.slf 2002 (.slice .str)) (.imm (.pair (.int .i64) .unit) .unit))), (5931, .arr .str true []), (2002, .arr (.slice .str) true [])] })]
noncomputable def f44_s122 (ls : List P) : Tree Step :=
 .ite (inb ((lf ls 0).toInt) (((lf ls 5).xs).length)) (
  .ite (decide ((lf ls 2).toInt < (((rd ((lf ls 5).xs) (((lf ls 0).toInt).toNat)).xs).length : Int))) (
   .ite (inb ((lf ls 0).toInt) (((lf ls 5).xs).length)) (
    .ite (inb ((lf ls 2).toInt) (((rd ((lf ls 5).xs) (((lf ls 0).toInt).toNat)).xs).length)) (
     .ite (strEq ((rd ((rd ((lf ls 5).xs) (((lf ls 0).toInt).toNat)).xs) (((lf ls 2).toInt).toNat)).toStr) ((lf ls 1).toStr)) (
      .ret (.inr (0, [.bool false, lf ls 3, .list ((lf ls 5).isNil) ((lf ls 5).xs)]))) (
      .ite (inb ((lf ls 0).toInt) (((lf ls 5).xs).length)) (
       .ite (inb ((lf ls 2).toInt) (((rd ((lf ls 5).xs) (((lf ls 0).toInt).toNat)).xs).length)) (
        .ite (decide ((((lf ls 4).xs).length + 1) * 16 ≤ 140737488355328)) (
         .ret (.inl [lf ls 0, lf ls 1, .int .i64 (IntKind.i64.wrap (((lf ls 2).toInt) + (1 : Int))), lf ls 3, .list (((lf ls 4).isNil) && false) (((lf ls 4).xs) ++ ([rd ((rd ((lf ls 5).xs) (((lf ls 0).toInt).toNat)).xs) (((lf ls 2).toInt).toNat)] : List P)), .list ((lf ls 5).isNil) ((lf ls 5).xs)])) (
         .fail)) (
        .fail)) (
       .fail))) (
     .fail)) (
    .fail)) (
   .ret (.inr (1, [lf ls 0, lf ls 1, lf ls 3, .list ((lf ls 4).isNil) ((lf ls 4).xs), .list ((lf ls 5).isNil) ((lf ls 5).xs)])))) (
  .fail)
noncomputable def f44_k1 : Sk := { t := [(0, .ref 2001 [] (.pair (.slice (.slice .str)) (.pair (.int .i64) .unit))), (1, .imm (.int .i64) .unit), (2, .imm .str .unit)], h := [(2001, .obj (.pair (.slice (.slice .str)) (.pair (.int .i64) .unit)) (.pair (.slf 2002 (.slice .str)) (.imm (.pair (.int .i64) .unit) .unit))), (2002, .arr (.slice .str) true [])] }
noncomputable def f44_o1 : List (Out × Sk) := [(.ret, { t := [(0, .ref 2001 [] (.pair (.slice (.slice .str)) (.pair (.int .i64) .unit))), (6, .imm .bool .unit)], h := [(2001, .obj (.pair (.slice (.slice .str)) (.pair (.int .i64) .unit)) (.pair (.slf 4031 (.slice .str)) (.imm (.pair (.int .i64) .unit) .unit))), (4031, .arr (.slice .str) true [])] })]
noncomputable def f44_s1 (ls : List P) : Tree (Nat × List P) :=
 .ite (decide ((lf ls 0).toInt < (0 : Int))) (
  .ret (0, [.bool false, lf ls 2, .list ((lf ls 3).isNil) ((lf ls 3).xs)])) (
  .ite (decide ((lf ls 0).toInt ≥ (((lf ls 3).xs).length : Int))) (
   .ret (0, [.bool false, lf ls 2, .list ((lf ls 3).isNil) ((lf ls 3).xs)])) (
   .loop (loopT f44_s122 FUEL [lf ls 0, lf ls 1, .int .i64 (0 : Int), lf ls 2, .list true [], .list ((lf ls 3).isNil) ((lf ls 3).xs)]) fun y1 =>
    .ite (Nat.beq y1.1 0) (
     .ret (0, [lf y1.2 0, lf y1.2 1, .list ((lf y1.2 2).isNil) ((lf y1.2 2).xs)])) (
     .ite (Nat.beq y1.1 1) (
      .ite (decide ((((lf y1.2 3).xs).length + 1) * 16 ≤ 140737488355328)) (
       .loop (f121_v [.list ((lf y1.2 4).isNil) ((lf y1.2 4).xs), lf y1.2 2, lf y1.2 0, .list (((lf y1.2 3).isNil) && false) (((lf y1.2 3).xs) ++ ([lf y1.2 1] : List P))]) fun x2 =>
        .ite (Nat.beq x2.1 0) (
         .ret (0, [.bool true, lf y1.2 2, .list ((lf x2.2 0).isNil) ((lf x2.2 0).xs)])) (
         .fail)) (
       .fail)) (
      .fail))))
noncomputable def f44_t (ps : List P) : Tree (Nat × List P) :=
 .loop ((f44_s1 [lf ps 2, lf ps 3, lf ps 1, .list ((lf ps 0).isNil) ((lf ps 0).xs)]).run some) fun y3 =>
  .ite (Nat.beq y3.1 0) (
   .ret (0, [lf y3.2 0, .list ((lf y3.2 2).isNil) ((lf y3.2 2).xs), lf y3.2 1])) (
   .fail)
noncomputable def f44_v (ps : List P) : Option (Nat × List P) := (f44_t ps).run some
noncomputable def f44_e : EntD := ⟨44, [.box (.pair (.slice (.slice .str)) (.pair (.int .i64) .unit)) (.pair (.own (.slice .str)) (.imm (.pair (.int .i64) .unit))), .imm (.int .i64), .imm .str], f44_v, [fun ps ls qs => ⟨[.imm .bool (lf qs 0)], [.box (ls.getD 0 0) (.pair (.slice (.slice .str)) (.pair (.int .i64) .unit)) (.pair (.own (ls.getD 2030 0) (.slice .str) (lf qs 1).isNil (lf qs 1).xs) (.imm (.pair (.int .i64) .unit) (lf qs 2))), .imm (.int .i64) (lf ps 2), .imm .str (lf ps 3)]⟩]⟩
noncomputable def f44_u : List Cu := [.loop 122 f44_k122 f44_o122 f44_s122, .cut 1 f44_k1 f44_o1 f44_s1]
noncomputable def f44_c : Cx := ⟨Try.prog, envOf [f121_e], 65, lOf f44_u, fun _ => false⟩
noncomputable def f44_b : Code := match Try.f44.body with | some b => b | none => .skip
theorem f44_q122 : (Cu.loop 122 f44_k122 f44_o122 f44_s122).Ok f44_c f44_b := ⟨by kernel_rfl, fun ls Kr Kx => by kernel_rfl⟩
theorem f44_q1 : (Cu.cut 1 f44_k1 f44_o1 f44_s1).Ok f44_c f44_b := ⟨by kernel_rfl, fun ls Kx => by kernel_rfl⟩
theorem f44_x (ps : List P) (ls : List Nat) : execFn f44_c 44 f44_e.tm (explF ps 4 0) ls = (f44_t ps).run fun q => altR (f44_e.res.map fun f => f ps ls) 0 q some := by kernel_rfl
theorem f44_ok : OkEnt Try.prog f44_e := ent_ok (c := f44_c) (g := 44) (body := f44_b) (us := f44_u) (n := 4) (t := f44_t) (good_envOf _ ⟨f121_ok, trivial⟩) Try.func44 rfl Try.call44 rfl ⟨f44_q122, f44_q1, trivial⟩ (by kernel_rfl) f44_x (fun _ => rfl)
/-! ### (*comprador/compradorref35.X).Pop -/
noncomputable def f45_k58 : Sk := { t := [(0, .ref 2001 [] (.pair (.slice (.slice .str)) (.pair (.int .i64) .unit))), (5, .imm (.int .i64) .unit), (6, .imm (.int .i64) .unit)], h := [(2001, .obj (.pair (.slice (.slice .str)) (.pair (.int .i64) .unit)) (.pair (.slf 2002 (.slice .str)) (.imm (.pair (.int .i64) .unit) .unit))), (2002, .arr (.slice .str) true [])] }
noncomputable def f45_o58 : List (Out × Sk) := [(.ret, { t := [(0, .ref 2001 [] (.pair (.slice (.slice .str)) (.pair (.int .i64) .unit))), (2, .imm (.int .i64) .unit), (3, .imm .str .unit), (4, .imm .bool .unit)], h := [(2001, .obj (.pair (.slice (.slice .str)) (.pair (.int .i64) .unit)) (.pair (.slf 5131 (.slice .str)) (.imm (.pair (.int .i64) .unit) .unit))), (5131, .arr (.slice .str) true [])] }), ((.exit 0), { t := [(0, .ref 2001 [] (.pair (.slice (.slice .str)) (.pair (.int .i64) .unit)))], h := [(2001, .obj (.pair (.slice (.slice .str)) (.pair (.int .i64) .unit)) (.pair (.slf 2002 (.slice .str)) (.imm (.pair (.int .i64) .unit) .unit))), (2002, .arr (.slice .str) true [])] })]
noncomputable def f45_s58 (ls : List P) : Tree Step :=
 .ite (decide ((lf ls 1).toInt ≤ (lf ls 0).toInt)) (
  .ite (((lf ls 0).toInt) == 0) (
   .fail) (
   .ite (inb ((IntKind.i64.wrap ((((lf ls 2).fst).toInt) + ((lf ls 1).toInt))).tmod ((lf ls 0).toInt)) (((lf ls 3).xs).length)) (
    .ite (decide ((((rd ((lf ls 3).xs) (((IntKind.i64.wrap ((((lf ls 2).fst).toInt) + ((lf ls 1).toInt))).tmod ((lf ls 0).toInt)).toNat)).xs).length : Int) > (0 : Int))) (
     .ite (inb ((IntKind.i64.wrap ((((lf ls 2).fst).toInt) + ((lf ls 1).toInt))).tmod ((lf ls 0).toInt)) (((lf ls 3).xs).length)) (
      .ite (inb (0 : Int) (((rd ((lf ls 3).xs) (((IntKind.i64.wrap ((((lf ls 2).fst).toInt) + ((lf ls 1).toInt))).tmod ((lf ls 0).toInt)).toNat)).xs).length)) (
       .ite (inb ((IntKind.i64.wrap ((((lf ls 2).fst).toInt) + ((lf ls 1).toInt))).tmod ((lf ls 0).toInt)) (((lf ls 3).xs).length)) (
        .ite (decide ((0 : Int) ≤ (1 : Int) ∧ (1 : Int) ≤ (((rd ((lf ls 3).xs) (((IntKind.i64.wrap ((((lf ls 2).fst).toInt) + ((lf ls 1).toInt))).tmod ((lf ls 0).toInt)).toNat)).xs).length : Int) ∧ (((rd ((lf ls 3).xs) (((IntKind.i64.wrap ((((lf ls 2).fst).toInt) + ((lf ls 1).toInt))).tmod ((lf ls 0).toInt)).toNat)).xs).length : Int) ≤ (((rd ((lf ls 3).xs) (((IntKind.i64.wrap ((((lf ls 2).fst).toInt) + ((lf ls 1).toInt))).tmod ((lf ls 0).toInt)).toNat)).xs).length : Int))) (
         .loop (f121_v [.list ((lf ls 3).isNil) ((lf ls 3).xs), lf ls 2, .int .i64 ((IntKind.i64.wrap ((((lf ls 2).fst).toInt) + ((lf ls 1).toInt))).tmod ((lf ls 0).toInt)), .list ((rd ((lf ls 3).xs) (((IntKind.i64.wrap ((((lf ls 2).fst).toInt) + ((lf ls 1).toInt))).tmod ((lf ls 0).toInt)).toNat)).isNil) ((((rd ((lf ls 3).xs) (((IntKind.i64.wrap ((((lf ls 2).fst).toInt) + ((lf ls 1).toInt))).tmod ((lf ls 0).toInt)).toNat)).xs).take ((((rd ((lf ls 3).xs) (((IntKind.i64.wrap ((((lf ls 2).fst).toInt) + ((lf ls 1).toInt))).tmod ((lf ls 0).toInt)).toNat)).xs).length : Int).toNat)).drop 1)]) fun x1 =>
          .ite (Nat.beq x1.1 0) (
           .ret (.inr (0, [.int .i64 ((IntKind.i64.wrap ((((lf ls 2).fst).toInt) + ((lf ls 1).toInt))).tmod ((lf ls 0).toInt)), rd ((rd ((lf ls 3).xs) (((IntKind.i64.wrap ((((lf ls 2).fst).toInt) + ((lf ls 1).toInt))).tmod ((lf ls 0).toInt)).toNat)).xs) 0, .bool true, .pair (.int .i64 ((IntKind.i64.wrap ((((lf ls 2).fst).toInt) + ((lf ls 1).toInt))).tmod ((lf ls 0).toInt))) ((lf ls 2).snd), .list ((lf x1.2 0).isNil) ((lf x1.2 0).xs)]))) (
           .fail)) (
         .fail)) (
        .fail)) (
       .fail)) (
      .fail)) (
     .ret (.inl [lf ls 0, .int .i64 (IntKind.i64.wrap (((lf ls 1).toInt) + (1 : Int))), lf ls 2, .list ((lf ls 3).isNil) ((lf ls 3).xs)]))) (
    .fail))) (
  .ret (.inr (1, [lf ls 2, .list ((lf ls 3).isNil) ((lf ls 3).xs)])))
noncomputable def f45_k1 : Sk := { t := [(0, .ref 2001 [] (.pair (.slice (.slice .str)) (.pair (.int .i64) .unit)))], h := [(2001, .obj (.pair (.slice (.slice .str)) (.pair (.int .i64) .unit)) (.pair (.slf 2002 (.slice .str)) (.imm (.pair (.int .i64) .unit) .unit))), (2002, .arr (.slice .str) true [])] }
noncomputable def f45_o1 : List (Out × Sk) := [(.ret, { t := [(0, .ref 2001 [] (.pair (.slice (.slice .str)) (.pair (.int .i64) .unit))), (2, .imm (.int .i64) .unit), (3, .imm .str .unit), (4, .imm .bool .unit)], h := [(2001, .obj (.pair (.slice (.slice .str)) (.pair (.int .i64) .unit)) (.pair (.slf 4031 (.slice .str)) (.imm (.pair (.int .i64) .unit) .unit))), (4031, .arr (.slice .str) true [])] })]
noncomputable def f45_s1 (ls : List P) : Tree (Nat × List P) :=
 .loop (loopT f45_s58 FUEL [.int .i64 (((lf ls 1).xs).length : Int), .int .i64 (1 : Int), lf ls 0, .list ((lf ls 1).isNil) ((lf ls 1).xs)]) fun y2 =>
  .ite (Nat.beq y2.1 0) (
   .ret (0, [lf y2.2 0, lf y2.2 1, lf y2.2 2, lf y2.2 3, .list ((lf y2.2 4).isNil) ((lf y2.2 4).xs)])) (
   .ite (Nat.beq y2.1 1) (
    .ret (0, [.int .i64 (0 : Int), .str .empty, .bool false, lf y2.2 0, .list ((lf y2.2 1).isNil) ((lf y2.2 1).xs)])) (
    .fail))
noncomputable def f45_t (ps : List P) : Tree (Nat × List P) :=
 .loop ((f45_s1 [lf ps 1, .list ((lf ps 0).isNil) ((lf ps 0).xs)]).run some) fun y3 =>
  .ite (Nat.beq y3.1 0) (
   .ret (0, [lf y3.2 0, lf y3.2 1, lf y3.2 2, .list ((lf y3.2 4).isNil) ((lf y3.2 4).xs), lf y3.2 3])) (
   .fail)
noncomputable def f45_v (ps : List P) : Option (Nat × List P) := (f45_t ps).run some
noncomputable def f45_e : EntD := ⟨45, [.box (.pair (.slice (.slice .str)) (.pair (.int .i64) .unit)) (.pair (.own (.slice .str)) (.imm (.pair (.int .i64) .unit)))], f45_v, [fun ps ls qs => ⟨[.imm (.int .i64) (lf qs 0), .imm .str (lf qs 1), .imm .bool (lf qs 2)], [.box (ls.getD 0 0) (.pair (.slice (.slice .str)) (.pair (.int .i64) .unit)) (.pair (.own (ls.getD 2030 0) (.slice .str) (lf qs 3).isNil (lf qs 3).xs) (.imm (.pair (.int .i64) .unit) (lf qs 4)))]⟩]⟩
noncomputable def f45_u : List Cu := [.loop 58 f45_k58 f45_o58 f45_s58, .cut 1 f45_k1 f45_o1 f45_s1]
noncomputable def f45_c : Cx := ⟨Try.prog, envOf [f121_e], 62, lOf f45_u, fun _ => false⟩
noncomputable def f45_b : Code := match Try.f45.body with | some b => b | none => .skip
theorem f45_q58 : (Cu.loop 58 f45_k58 f45_o58 f45_s58).Ok f45_c f45_b := ⟨by kernel_rfl, fun ls Kr Kx => by kernel_rfl⟩
theorem f45_q1 : (Cu.cut 1 f45_k1 f45_o1 f45_s1).Ok f45_c f45_b := ⟨by kernel_rfl, fun ls Kx => by kernel_rfl⟩
theorem f45_x (ps : List P) (ls : List Nat) : execFn f45_c 45 f45_e.tm (explF ps 2 0) ls = (f45_t ps).run fun q => altR (f45_e.res.map fun f => f ps ls) 0 q some := by kernel_rfl
theorem f45_ok : OkEnt Try.prog f45_e := ent_ok (c := f45_c) (g := 45) (body := f45_b) (us := f45_u) (n := 2) (t := f45_t) (good_envOf _ ⟨f121_ok, trivial⟩) Try.func45 rfl Try.call45 rfl ⟨f45_q58, f45_q1, trivial⟩ (by kernel_rfl) f45_x (fun _ => rfl)
/-! ### (*comprador/turn.queue[string]).clear -/
noncomputable def f119_t (ps : List P) : Tree (Nat × List P) :=
 .ret (0, [.int .i64 ((((rd ((lf ps 0).xs) (((lf ps 1).toInt).toNat)).fst).xs).length : Int), .list false (((lf ps 0).xs).set (((lf ps 1).toInt).toNat) (.pair (.list true []) ((rd ((lf ps 0).xs) (((lf ps 1).toInt).toNat)).snd)))])
noncomputable def f119_v (ps : List P) : Option (Nat × List P) := (f119_t ps).run some
noncomputable def f119_e : EntD := ⟨119, [.pel (.pair (.slice .str) .unit)], f119_v, [fun ps ls qs => ⟨[.imm (.int .i64) (lf qs 0)], [.pel (ls.getD 0 0) (.pair (.slice .str) .unit) ((lf ps 1)).toInt.toNat (lf qs 1)]⟩]⟩
noncomputable def f119_u : List Cu := []
noncomputable def f119_c : Cx := ⟨Try.prog, envOf [], 13, lOf f119_u, fun _ => false⟩
noncomputable def f119_b : Code := match Try.f119.body with | some b => b | none => .skip
theorem f119_x (ps : List P) (ls : List Nat) : execFn f119_c 119 f119_e.tm (explF ps 2 0) ls = (f119_t ps).run fun q => altR (f119_e.res.map fun f => f ps ls) 0 q some := by kernel_rfl
theorem f119_ok : OkEnt Try.prog f119_e := ent_ok (c := f119_c) (g := 119) (body := f119_b) (us := f119_u) (n := 2) (t := f119_t) (good_envOf _ trivial) Try.func119 rfl Try.call119 rfl trivial (by kernel_rfl) f119_x (fun _ => rfl)
/-! ### (*comprador/turn.Turn).Clear -/
noncomputable def f42_t (ps : List P) : Tree (Nat × List P) :=
 .loop (f110_v [lf ps 0, lf ps 1, lf ps 2]) fun x1 =>
  .ite (Nat.beq x1.1 0) (
   .ret (0, [.int .i64 (0 : Int), lf ps 0])) (
   .ite (Nat.beq x1.1 1) (
    .loop (f119_v [lf ps 0, .int .i64 (((lf ps 2).toInt).toNat : Int)]) fun x2 =>
     .ite (Nat.beq x2.1 0) (
      .ret (0, [lf x2.2 0, lf x2.2 1])) (
      .fail)) (
    .fail))
noncomputable def f42_v (ps : List P) : Option (Nat × List P) := (f42_t ps).run some
noncomputable def f42_e : EntD := ⟨42, [.box (.pair (.slice (.pair (.slice .str) .unit)) (.pair (.int .i64) .unit)) (.pair (.blk (.at (.pair (.slice .str) .unit))) (.imm (.pair (.int .i64) .unit))), .imm (.int .i64)], f42_v, [fun ps ls qs => ⟨[.imm (.int .i64) (lf qs 0)], [.box (ls.getD 0 0) (.pair (.slice (.pair (.slice .str) .unit)) (.pair (.int .i64) .unit)) (.pair (.blk (ls.getD 1 0) (.at (.pair (.slice .str) .unit)) (lf qs 1)) (.imm (.pair (.int .i64) .unit) (lf ps 1))), .imm (.int .i64) (lf ps 2)]⟩]⟩
noncomputable def f42_u : List Cu := []
noncomputable def f42_c : Cx := ⟨Try.prog, envOf [f110_e, f119_e], 13, lOf f42_u, fun _ => false⟩
noncomputable def f42_b : Code := match Try.f42.body with | some b => b | none => .skip
theorem f42_x (ps : List P) (ls : List Nat) : execFn f42_c 42 f42_e.tm (explF ps 3 0) ls = (f42_t ps).run fun q => altR (f42_e.res.map fun f => f ps ls) 0 q some := by kernel_rfl
theorem f42_ok : OkEnt Try.prog f42_e := ent_ok (c := f42_c) (g := 42) (body := f42_b) (us := f42_u) (n := 3) (t := f42_t) (good_envOf _ ⟨f110_ok, f119_ok, trivial⟩) Try.func42 rfl Try.call42 rfl trivial (by kernel_rfl) f42_x (fun _ => rfl)
/-! ### (comprador/compradorref35.X).at -/
noncomputable def f122_t (ps : List P) : Tree (Nat × List P) :=
 .ite (decide ((lf ps 1).toInt < (0 : Int))) (
  .ret (0, [.list true []])) (
  .ite (decide ((lf ps 1).toInt ≥ ((((lf ps 0).fst).xs).length : Int))) (
   .ret (0, [.list true []])) (
   .ite (inb ((lf ps 1).toInt) ((((lf ps 0).fst).xs).length)) (
    .ret (0, [rd (((lf ps 0).fst).xs) (((lf ps 1).toInt).toNat)])) (
    .fail)))
noncomputable def f122_v (ps : List P) : Option (Nat × List P) := (f122_t ps).run some
noncomputable def f122_e : EntD := ⟨122, [.imm (.pair (.slice (.slice .str)) (.pair (.int .i64) .unit)), .imm (.int .i64)], f122_v, [fun ps ls qs => ⟨[.imm (.slice .str) (lf qs 0)], [.imm (.pair (.slice (.slice .str)) (.pair (.int .i64) .unit)) (lf ps 0), .imm (.int .i64) (lf ps 1)]⟩]⟩
noncomputable def f122_u : List Cu := []
noncomputable def f122_c : Cx := ⟨Try.prog, envOf [], 19, lOf f122_u, fun _ => false⟩
noncomputable def f122_b : Code := match Try.f122.body with | some b => b | none => .skip
theorem f122_x (ps : List P) (ls : List Nat) : execFn f122_c 122 f122_e.tm (explF ps 2 0) ls = (f122_t ps).run fun q => altR (f122_e.res.map fun f => f ps ls) 0 q some := by kernel_rfl
theorem f122_ok : OkEnt Try.prog f122_e := ent_ok (c := f122_c) (g := 122) (body := f122_b) (us := f122_u) (n := 2) (t := f122_t) (good_envOf _ trivial) Try.func122 rfl Try.call122 rfl trivial (by kernel_rfl) f122_x (fun _ => rfl)
/-! ### (*comprador/compradorref35.X).put -/
noncomputable def f121_1_t (ps : List P) : Tree (Nat × List P) :=
 .ite (decide ((0 + (((lf ps 0).fst).xs).length) * 24 ≤ 140737488355328)) (
  .ite (inb ((lf ps 1).toInt) ((((lf ps 0).fst).xs).length)) (
   .ret (0, [.list ((((lf ps 0).fst).xs).isEmpty) ((((lf ps 0).fst).xs).set (((lf ps 1).toInt).toNat) (lf ps 2)), (lf ps 0).snd])) (
   .fail)) (
  .fail)
noncomputable def f121_1_v (ps : List P) : Option (Nat × List P) := (f121_1_t ps).run some
noncomputable def f121_1_e : EntD := ⟨121, [.box (.pair (.slice (.slice .str)) (.pair (.int .i64) .unit)) (.imm (.pair (.slice (.slice .str)) (.pair (.int .i64) .unit))), .imm (.int .i64), .imm (.slice .str)], f121_1_v, [fun ps ls qs => ⟨[], [.box (ls.getD 0 0) (.pair (.slice (.slice .str)) (.pair (.int .i64) .unit)) (.pair (.own 0 (.slice .str) (lf qs 0).isNil (lf qs 0).xs) (.imm (.pair (.int .i64) .unit) (lf qs 1))), .imm (.int .i64) (lf ps 1), .imm (.slice .str) (lf ps 2)]⟩]⟩
noncomputable def f121_1_u : List Cu := []
noncomputable def f121_1_c : Cx := ⟨Try.prog, envOf [], 21, lOf f121_1_u, fun _ => false⟩
noncomputable def f121_1_b : Code := match Try.f121.body with | some b => b | none => .skip
theorem f121_1_x (ps : List P) (ls : List Nat) : execFn f121_1_c 121 f121_1_e.tm (explF ps 3 0) ls = (f121_1_t ps).run fun q => altR (f121_1_e.res.map fun f => f ps ls) 0 q some := by kernel_rfl
theorem f121_1_ok : OkEnt Try.prog f121_1_e := ent_ok (c := f121_1_c) (g := 121) (body := f121_1_b) (us := f121_1_u) (n := 3) (t := f121_1_t) (good_envOf _ trivial) Try.func121 rfl Try.call121 rfl trivial (by kernel_rfl) f121_1_x (fun _ => rfl)
/-! ### (*comprador/compradorref35.X).Clear -/
noncomputable def f46_k1 : Sk := { t := [(0, .ref 2001 [] (.pair (.slice (.slice .str)) (.pair (.int .i64) .unit))), (1, .imm (.int .i64) .unit)], h := [(2001, .obj (.pair (.slice (.slice .str)) (.pair (.int .i64) .unit)) (.pair (.slf 2002 (.slice .str)) (.imm (.pair (.int .i64) .unit) .unit))), (2002, .arr (.slice .str) true [])] }
noncomputable def f46_o1 : List (Out × Sk) := [(.ret, { t := [(0, .ref 2001 [] (.pair (.slice (.slice .str)) (.pair (.int .i64) .unit))), (4, .imm (.int .i64) .unit)], h := [(2001, .obj (.pair (.slice (.slice .str)) (.pair (.int .i64) .unit)) (.imm (.pair (.slice (.slice .str)) (.pair (.int .i64) .unit)) .unit))], z := [0] })]
noncomputable def f46_s1 (ls : List P) : Tree (Nat × List P) :=
 .loop (f122_v [.pair (.list ((lf ls 2).isNil) ((lf ls 2).xs)) (lf ls 1), lf ls 0]) fun x1 =>
  .ite (Nat.beq x1.1 0) (
   .ite (decide ((((lf x1.2 0).xs).length : Int) > (0 : Int))) (
    .loop (f121_1_v [.pair (.list ((lf ls 2).isNil) ((lf ls 2).xs)) (lf ls 1), lf ls 0, .list true []]) fun x2 =>
     .ite (Nat.beq x2.1 0) (
      .ret (0, [.int .i64 (((lf x1.2 0).xs).length : Int), .pair (.list ((lf x2.2 0).isNil) ((lf x2.2 0).xs)) (lf x2.2 1)])) (
      .fail)) (
    .ret (0, [.int .i64 (((lf x1.2 0).xs).length : Int), .pair (.list ((lf ls 2).isNil) ((lf ls 2).xs)) (lf ls 1)]))) (
   .fail)
noncomputable def f46_t (ps : List P) : Tree (Nat × List P) :=
 .loop ((f46_s1 [lf ps 2, lf ps 1, .list ((lf ps 0).isNil) ((lf ps 0).xs)]).run some) fun y3 =>
  .ite (Nat.beq y3.1 0) (
   .ret (0, [lf y3.2 0, lf y3.2 1])) (
   .fail)
noncomputable def f46_v (ps : List P) : Option (Nat × List P) := (f46_t ps).run some
noncomputable def f46_e : EntD := ⟨46, [.box (.pair (.slice (.slice .str)) (.pair (.int .i64) .unit)) (.pair (.own (.slice .str)) (.imm (.pair (.int .i64) .unit))), .imm (.int .i64)], f46_v, [fun ps ls qs => ⟨[.imm (.int .i64) (lf qs 0)], [.box (ls.getD 0 0) (.pair (.slice (.slice .str)) (.pair (.int .i64) .unit)) (.imm (.pair (.slice (.slice .str)) (.pair (.int .i64) .unit)) (lf qs 1)), .imm (.int .i64) (lf ps 2)]⟩]⟩
noncomputable def f46_u : List Cu := [.cut 1 f46_k1 f46_o1 f46_s1]
noncomputable def f46_c : Cx := ⟨Try.prog, envOf [f121_1_e, f122_e], 18, lOf f46_u, fun _ => false⟩
noncomputable def f46_b : Code := match Try.f46.body with | some b => b | none => .skip
theorem f46_q1 : (Cu.cut 1 f46_k1 f46_o1 f46_s1).Ok f46_c f46_b := ⟨by kernel_rfl, fun ls Kx => by kernel_rfl⟩
theorem f46_x (ps : List P) (ls : List Nat) : execFn f46_c 46 f46_e.tm (explF ps 3 0) ls = (f46_t ps).run fun q => altR (f46_e.res.map fun f => f ps ls) 0 q some := by kernel_rfl
theorem f46_ok : OkEnt Try.prog f46_e := ent_ok (c := f46_c) (g := 46) (body := f46_b) (us := f46_u) (n := 3) (t := f46_t) (good_envOf _ ⟨f121_1_ok, f122_ok, trivial⟩) Try.func46 rfl Try.call46 rfl ⟨f46_q1, trivial⟩ (by kernel_rfl) f46_x (fun _ => rfl)
/-! ### slices.Clone[[]string,string] -/
noncomputable def f113_k1 : Sk := { t := [(0, .imm (.slice .str) .unit)], h := [] }
noncomputable def f113_o1 : List (Out × Sk) := [(.ret, { t := [(2, .slf 4030 .str)], h := [(4030, .arr .str true [])] })]
noncomputable def f113_s1 (ls : List P) : Tree (Nat × List P) :=
 .ite ((lf ls 0).isNil) (
  .ret (0, [.list true []])) (
  .ite (decide ((0 + ((lf ls 0).xs).length) * 16 ≤ 140737488355328)) (
   .ret (0, [.list false ((lf ls 0).xs)])) (
   .fail))
noncomputable def f113_t (ps : List P) : Tree (Nat × List P) :=
 .loop ((f113_s1 [lf ps 0]).run some) fun y1 =>
  .ite (Nat.beq y1.1 0) (
   .ret (0, [.list ((lf y1.2 0).isNil) ((lf y1.2 0).xs)])) (
   .fail)
noncomputable def f113_v (ps : List P) : Option (Nat × List P) := (f113_t ps).run some
noncomputable def f113_e : EntD := ⟨113, [.imm (.slice .str)], f113_v, [fun ps ls qs => ⟨[.own (ls.getD 2029 0) .str (lf qs 0).isNil (lf qs 0).xs], [.imm (.slice .str) (lf ps 0)]⟩]⟩
noncomputable def f113_u : List Cu := [.cut 1 f113_k1 f113_o1 f113_s1]
noncomputable def f113_c : Cx := ⟨Try.prog, envOf [], 8, lOf f113_u, fun _ => false⟩
noncomputable def f113_b : Code := match Try.f113.body with | some b => b | none => .skip
theorem f113_q1 : (Cu.cut 1 f113_k1 f113_o1 f113_s1).Ok f113_c f113_b := ⟨by kernel_rfl, fun ls Kx => by kernel_rfl⟩
theorem f113_x (ps : List P) (ls : List Nat) : execFn f113_c 113 f113_e.tm (explF ps 1 0) ls = (f113_t ps).run fun q => altR (f113_e.res.map fun f => f ps ls) 0 q some := by kernel_rfl
theorem f113_ok : OkEnt Try.prog f113_e := ent_ok (c := f113_c) (g := 113) (body := f113_b) (us := f113_u) (n := 1) (t := f113_t) (good_envOf _ trivial) Try.func113 rfl Try.call113 rfl ⟨f113_q1, trivial⟩ (by kernel_rfl) f113_x (fun _ => rfl)
/-! ### (*comprador/turn.queue[string]).strike$1 -/
noncomputable def f171_t (ps : List P) : Tree (Nat × List P) :=
 .ret (0, [.bool (strEq ((lf ps 1).toStr) ((lf ps 0).toStr))])
noncomputable def f171_v (ps : List P) : Option (Nat × List P) := (f171_t ps).run some
noncomputable def f171_e : EntD := ⟨171, [.imm .str, .box .str (.imm .str)], f171_v, [fun ps ls qs => ⟨[.imm .bool (lf qs 0)], [.imm .str (lf ps 0), .box (ls.getD 0 0) .str (.imm .str (lf ps 1))]⟩]⟩
noncomputable def f171_u : List Cu := []
noncomputable def f171_c : Cx := ⟨Try.prog, envOf [], 7, lOf f171_u, fun _ => false⟩
noncomputable def f171_b : Code := match Try.f171.body with | some b => b | none => .skip
theorem f171_x (ps : List P) (ls : List Nat) : execFn f171_c 171 f171_e.tm (explF ps 2 0) ls = (f171_t ps).run fun q => altR (f171_e.res.map fun f => f ps ls) 0 q some := by kernel_rfl
theorem f171_ok : OkEnt Try.prog f171_e := ent_ok (c := f171_c) (g := 171) (body := f171_b) (us := f171_u) (n := 2) (t := f171_t) (good_envOf _ trivial) Try.func171 rfl Try.call171 rfl trivial (by kernel_rfl) f171_x (fun _ => rfl)
/-! ### slices.IndexFunc[[]string,string] -/
noncomputable def f192_k26 : Sk := { t := [(0, .imm (.slice .str) .unit), (1, .fn 171 (.pair (.ref 2001 [] .str) (.imm .unit .unit))), (7, .imm (.int .i64) .unit), (8, .imm (.int .i64) .unit)], h := [(2001, .obj .str (.imm .str .unit))] }
noncomputable def f192_o26 : List (Out × Sk) := [(.ret, { t := [(1, .fn 171 (.pair (.ref 2001 [] .str) (.imm .unit .unit))), (4, .imm (.int .i64) .unit)], h := [(2001, .obj .str (.imm .str .unit))] }), ((.exit 0), { t := [(1, .fn 171 (.pair (.ref 2001 [] .str) (.imm .unit .unit)))], h := [(2001, .obj .str (.imm .str .unit))] })]
noncomputable def f192_s26 (ls : List P) : Tree Step :=
 .ite (decide ((lf ls 3).toInt < (lf ls 2).toInt)) (
  .ite (inb ((lf ls 3).toInt) (((lf ls 0).xs).length)) (
   .loop (f171_v [rd ((lf ls 0).xs) (((lf ls 3).toInt).toNat), lf ls 4]) fun x1 =>
    .ite (Nat.beq x1.1 0) (
     .ite ((lf x1.2 0).toBool) (
      .ret (.inr (0, [lf ls 1, lf ls 3, lf ls 4]))) (
      .ret (.inl [lf ls 0, lf ls 1, lf ls 2, .int .i64 (IntKind.i64.wrap (((lf ls 3).toInt) + (1 : Int))), lf ls 4]))) (
     .fail)) (
   .fail)) (
  .ret (.inr (1, [lf ls 1, lf ls 4])))
noncomputable def f192_t (ps : List P) : Tree (Nat × List P) :=
 .loop (loopT f192_s26 FUEL [lf ps 0, lf ps 2, .int .i64 (((lf ps 0).xs).length : Int), .int .i64 (0 : Int), lf ps 1]) fun y2 =>
  .ite (Nat.beq y2.1 0) (
   .ret (0, [lf y2.2 1, lf y2.2 2])) (
   .ite (Nat.beq y2.1 1) (
    .ret (0, [.int .i64 (-1 : Int), lf y2.2 1])) (
    .fail))
noncomputable def f192_v (ps : List P) : Option (Nat × List P) := (f192_t ps).run some
noncomputable def f192_e : EntD := ⟨192, [.imm (.slice .str), .fn 171 (.pair (.box .str (.imm .str)) (.imm .unit))], f192_v, [fun ps ls qs => ⟨[.imm (.int .i64) (lf qs 0)], [.imm (.slice .str) (lf ps 0), .fn 171 (.pair (.box (ls.getD 0 0) .str (.imm .str (lf qs 1))) (.imm .unit (lf ps 2)))]⟩]⟩
noncomputable def f192_u : List Cu := [.loop 26 f192_k26 f192_o26 f192_s26]
noncomputable def f192_c : Cx := ⟨Try.prog, envOf [f171_e], 19, lOf f192_u, fun _ => false⟩
noncomputable def f192_b : Code := match Try.f192.body with | some b => b | none => .skip
theorem f192_q26 : (Cu.loop 26 f192_k26 f192_o26 f192_s26).Ok f192_c f192_b := ⟨by kernel_rfl, fun ls Kr Kx => by kernel_rfl⟩
theorem f192_x (ps : List P) (ls : List Nat) : execFn f192_c 192 f192_e.tm (explF ps 3 0) ls = (f192_t ps).run fun q => altR (f192_e.res.map fun f => f ps ls) 0 q some := by kernel_rfl
theorem f192_ok : OkEnt Try.prog f192_e := ent_ok (c := f192_c) (g := 192) (body := f192_b) (us := f192_u) (n := 3) (t := f192_t) (good_envOf _ ⟨f171_ok, trivial⟩) Try.func192 rfl Try.call192 rfl ⟨f192_q26, trivial⟩ (by kernel_rfl) f192_x (fun _ => rfl)
end Go.Proofs.Ytjemihhhkhdbeaa
