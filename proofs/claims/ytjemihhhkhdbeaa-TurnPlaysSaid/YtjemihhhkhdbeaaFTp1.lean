/- Functions: what each tells. Conditions: none. -/
import Derived.Test.YtjemihhhkhdbeaaFTp0
open Go Go.Eng Go.Proofs
set_option pp.deepTerms true
set_option linter.unusedVariables false
namespace Go.Proofs.Ytjemihhhkhdbeaa
/-! ### slices.DeleteFunc[[]string,string] -/
noncomputable def f170_k122 : Sk := { t := [(0, .imm (.slice .str) .unit), (1, .fn 171 (.pair (.ref 2001 [] .str) (.imm .unit .unit))), (5, .imm (.int .i64) .unit), (6, .imm (.int .i64) .unit)], h := [(2001, .obj .str (.imm .str .unit))] }
noncomputable def f170_o122 : List (Out × Sk) := [((.exit 0), { t := [(0, .imm (.slice .str) .unit), (1, .fn 171 (.pair (.ref 2001 [] .str) (.imm .unit .unit))), (5, .imm (.int .i64) .unit)], h := [(2001, .obj .str (.imm .str .unit))] })]
noncomputable def f170_s122 (ls : List P) : Tree Step :=
 .ite (decide ((lf ls 3).toInt < (((lf ls 0).xs).length : Int))) (
  .ite (inb ((lf ls 3).toInt) (((lf ls 0).xs).length)) (
   .loop (f171_v [rd ((lf ls 0).xs) (((lf ls 3).toInt).toNat), lf ls 4]) fun x2 =>
    .ite (Nat.beq x2.1 0) (
     .ite (!((lf x2.2 0).toBool)) (
      .ite (inb ((lf ls 2).toInt) (((lf ls 0).xs).length)) (
       .fail) (
       .fail)) (
      .ret (.inl [lf ls 0, lf ls 1, lf ls 2, .int .i64 (IntKind.i64.wrap (((lf ls 3).toInt) + (1 : Int))), lf ls 4]))) (
     .fail)) (
   .fail)) (
  .ret (.inr (0, [lf ls 0, lf ls 1, lf ls 2, lf ls 4])))
noncomputable def f170_t (ps : List P) : Tree (Nat × List P) :=
 .loop (f192_v [lf ps 0, lf ps 1, lf ps 2]) fun x1 =>
  .ite (Nat.beq x1.1 0) (
   .ite (((lf x1.2 0).toInt) == (-1 : Int)) (
    .ret (0, [lf x1.2 1])) (
    .loop (loopT f170_s122 FUEL [lf ps 0, lf ps 2, lf x1.2 0, .int .i64 (IntKind.i64.wrap (((lf x1.2 0).toInt) + (1 : Int))), lf x1.2 1]) fun y3 =>
     .ite (Nat.beq y3.1 0) (
      .ite (decide ((0 : Int) ≤ (lf y3.2 2).toInt ∧ (lf y3.2 2).toInt ≤ (((lf y3.2 0).xs).length : Int) ∧ (((lf y3.2 0).xs).length : Int) ≤ (((lf y3.2 0).xs).length : Int))) (
       .fail) (
       .fail)) (
      .fail))) (
   .fail)
noncomputable def f170_v (ps : List P) : Option (Nat × List P) := (f170_t ps).run some
noncomputable def f170_e : EntD := ⟨170, [.imm (.slice .str), .fn 171 (.pair (.box .str (.imm .str)) (.imm .unit))], f170_v, [fun ps ls qs => ⟨[.imm (.slice .str) (lf ps 0)], [.imm (.slice .str) (lf ps 0), .fn 171 (.pair (.box (ls.getD 0 0) .str (.imm .str (lf qs 0))) (.imm .unit (lf ps 2)))]⟩]⟩
noncomputable def f170_u : List Cu := [.loop 122 f170_k122 f170_o122 f170_s122]
noncomputable def f170_c : Cx := ⟨Try.prog, envOf [f171_e, f192_e], 42, lOf f170_u, fun _ => false⟩
noncomputable def f170_b : Code := match Try.f170.body with | some b => b | none => .skip
theorem f170_q122 : (Cu.loop 122 f170_k122 f170_o122 f170_s122).Ok f170_c f170_b := ⟨by kernel_rfl, fun ls Kr Kx => by kernel_rfl⟩
theorem f170_x (ps : List P) (ls : List Nat) : execFn f170_c 170 f170_e.tm (explF ps 3 0) ls = (f170_t ps).run fun q => altR (f170_e.res.map fun f => f ps ls) 0 q some := by kernel_rfl
theorem f170_ok : OkEnt Try.prog f170_e := ent_ok (c := f170_c) (g := 170) (body := f170_b) (us := f170_u) (n := 3) (t := f170_t) (good_envOf _ ⟨f171_ok, f192_ok, trivial⟩) Try.func170 rfl Try.call170 rfl ⟨f170_q122, trivial⟩ (by kernel_rfl) f170_x (fun _ => rfl)
/-! ### slices.DeleteFunc[[]string,string] -/
noncomputable def f170_1_k122 : Sk := { t := [(0, .slf 2001 .str), (1, .fn 171 (.pair (.ref 2002 [] .str) (.imm .unit .unit))), (5, .imm (.int .i64) .unit), (6, .imm (.int .i64) .unit)], h := [(2001, .arr .str true []), (2002, .obj .str (.imm .str .unit))] }
noncomputable def f170_1_o122 : List (Out × Sk) := [((.exit 0), { t := [(0, .slf 2001 .str), (1, .fn 171 (.pair (.ref 2002 [] .str) (.imm .unit .unit))), (5, .imm (.int .i64) .unit)], h := [(2001, .arr .str true []), (2002, .obj .str (.imm .str .unit))] })]
noncomputable def f170_1_s122 (ls : List P) : Tree Step :=
 .ite (decide ((lf ls 2).toInt < (((lf ls 3).xs).length : Int))) (
  .ite (inb ((lf ls 2).toInt) (((lf ls 3).xs).length)) (
   .loop (f171_v [rd ((lf ls 3).xs) (((lf ls 2).toInt).toNat), lf ls 4]) fun x2 =>
    .ite (Nat.beq x2.1 0) (
     .ite (!((lf x2.2 0).toBool)) (
      .ite (inb ((lf ls 1).toInt) (((lf ls 3).xs).length)) (
       .ret (.inl [lf ls 0, .int .i64 (IntKind.i64.wrap (((lf ls 1).toInt) + (1 : Int))), .int .i64 (IntKind.i64.wrap (((lf ls 2).toInt) + (1 : Int))), .list ((lf ls 3).isNil) (((lf ls 3).xs).set (((lf ls 1).toInt).toNat) (rd ((lf ls 3).xs) (((lf ls 2).toInt).toNat))), lf ls 4])) (
       .fail)) (
      .ret (.inl [lf ls 0, lf ls 1, .int .i64 (IntKind.i64.wrap (((lf ls 2).toInt) + (1 : Int))), .list ((lf ls 3).isNil) ((lf ls 3).xs), lf ls 4]))) (
     .fail)) (
   .fail)) (
  .ret (.inr (0, [lf ls 0, lf ls 1, .list ((lf ls 3).isNil) ((lf ls 3).xs), lf ls 4])))
noncomputable def f170_1_t (ps : List P) : Tree (Nat × List P) :=
 .loop (f192_v [.list ((lf ps 0).isNil) ((lf ps 0).xs), lf ps 1, lf ps 2]) fun x1 =>
  .ite (Nat.beq x1.1 0) (
   .ite (((lf x1.2 0).toInt) == (-1 : Int)) (
    .ret (0, [lf x1.2 1])) (
    .loop (loopT f170_1_s122 FUEL [lf ps 2, lf x1.2 0, .int .i64 (IntKind.i64.wrap (((lf x1.2 0).toInt) + (1 : Int))), .list ((lf ps 0).isNil) ((lf ps 0).xs), lf x1.2 1]) fun y3 =>
     .ite (Nat.beq y3.1 0) (
      .ite (decide ((0 : Int) ≤ (lf y3.2 1).toInt ∧ (lf y3.2 1).toInt ≤ (((lf y3.2 2).xs).length : Int) ∧ (((lf y3.2 2).xs).length : Int) ≤ (((lf y3.2 2).xs).length : Int))) (
       .ite (decide ((0 : Int) ≤ (0 : Int) ∧ (0 : Int) ≤ (lf y3.2 1).toInt ∧ (lf y3.2 1).toInt ≤ ((clr (((lf y3.2 1).toInt).toNat) (((((lf y3.2 2).xs).length : Int).toNat) - (((lf y3.2 1).toInt).toNat)) (.str .empty) ((lf y3.2 2).xs)).length : Int))) (
        .ret (1, [.int .i64 (0 : Int), .int .i64 ((((lf y3.2 1).toInt).toNat) - 0 : Int), .list ((lf y3.2 2).isNil) (clr (((lf y3.2 1).toInt).toNat) (((((lf y3.2 2).xs).length : Int).toNat) - (((lf y3.2 1).toInt).toNat)) (.str .empty) ((lf y3.2 2).xs)), lf y3.2 3])) (
        .fail)) (
       .fail)) (
      .fail))) (
   .fail)
noncomputable def f170_1_v (ps : List P) : Option (Nat × List P) := (f170_1_t ps).run some
noncomputable def f170_1_e : EntD := ⟨170, [.own .str, .fn 171 (.pair (.box .str (.imm .str)) (.imm .unit))], f170_1_v, [fun ps ls qs => ⟨[.ali (ls.getD 0 0)], [.own (ls.getD 0 0) .str (lf ps 0).isNil (lf ps 0).xs, .fn 171 (.pair (.box (ls.getD 1 0) .str (.imm .str (lf qs 0))) (.imm .unit (lf ps 2)))]⟩, fun ps ls qs => ⟨[.alw (ls.getD 0 0) ((lf qs 0)).toInt.toNat ((lf qs 1)).toInt.toNat], [.own (ls.getD 0 0) .str (lf qs 2).isNil (lf qs 2).xs, .fn 171 (.pair (.box (ls.getD 1 0) .str (.imm .str (lf qs 3))) (.imm .unit (lf ps 2)))]⟩]⟩
noncomputable def f170_1_u : List Cu := [.loop 122 f170_1_k122 f170_1_o122 f170_1_s122]
noncomputable def f170_1_c : Cx := ⟨Try.prog, envOf [f171_e, f192_e], 42, lOf f170_1_u, fun _ => false⟩
noncomputable def f170_1_b : Code := match Try.f170.body with | some b => b | none => .skip
theorem f170_1_q122 : (Cu.loop 122 f170_1_k122 f170_1_o122 f170_1_s122).Ok f170_1_c f170_1_b := ⟨by kernel_rfl, fun ls Kr Kx => by kernel_rfl⟩
theorem f170_1_x (ps : List P) (ls : List Nat) : execFn f170_1_c 170 f170_1_e.tm (explF ps 3 0) ls = (f170_1_t ps).run fun q => altR (f170_1_e.res.map fun f => f ps ls) 0 q some := by kernel_rfl
theorem f170_1_ok : OkEnt Try.prog f170_1_e := ent_ok (c := f170_1_c) (g := 170) (body := f170_1_b) (us := f170_1_u) (n := 3) (t := f170_1_t) (good_envOf _ ⟨f171_ok, f192_ok, trivial⟩) Try.func170 rfl Try.call170 rfl ⟨f170_1_q122, trivial⟩ (by kernel_rfl) f170_1_x (fun _ => rfl)
/-! ### (*comprador/turn.queue[string]).strike -/
noncomputable def f120_t (ps : List P) : Tree (Nat × List P) :=
 .loop (f113_v [(rd ((lf ps 0).xs) (((lf ps 1).toInt).toNat)).fst]) fun x1 =>
  .ite (Nat.beq x1.1 0) (
   .loop (f170_1_v [.list ((lf x1.2 0).isNil) ((lf x1.2 0).xs), lf ps 2, .unit]) fun x2 =>
    .ite (Nat.beq x2.1 0) (
     .ret (0, [.bool (decide (((((rd (((lf ps 0).xs).set (((lf ps 1).toInt).toNat) (.pair (.list ((lf x1.2 0).isNil) ((lf x1.2 0).xs)) ((rd ((lf ps 0).xs) (((lf ps 1).toInt).toNat)).snd))) (((lf ps 1).toInt).toNat)).fst).xs).length : Int) < ((((rd ((lf ps 0).xs) (((lf ps 1).toInt).toNat)).fst).xs).length : Int))), .list false (((lf ps 0).xs).set (((lf ps 1).toInt).toNat) (.pair (.list ((lf x1.2 0).isNil) ((lf x1.2 0).xs)) ((rd ((lf ps 0).xs) (((lf ps 1).toInt).toNat)).snd)))])) (
     .ite (Nat.beq x2.1 1) (
      .ret (0, [.bool (decide (((((rd (((lf ps 0).xs).set (((lf ps 1).toInt).toNat) (.pair (.list ((lf x2.2 2).isNil) (winOf (((lf x2.2 0).toInt).toNat) (((lf x2.2 1).toInt).toNat) ((lf x2.2 2).xs))) ((rd ((lf ps 0).xs) (((lf ps 1).toInt).toNat)).snd))) (((lf ps 1).toInt).toNat)).fst).xs).length : Int) < ((((rd ((lf ps 0).xs) (((lf ps 1).toInt).toNat)).fst).xs).length : Int))), .list false (((lf ps 0).xs).set (((lf ps 1).toInt).toNat) (.pair (.list ((lf x2.2 2).isNil) (winOf (((lf x2.2 0).toInt).toNat) (((lf x2.2 1).toInt).toNat) ((lf x2.2 2).xs))) ((rd ((lf ps 0).xs) (((lf ps 1).toInt).toNat)).snd)))])) (
      .fail))) (
   .fail)
noncomputable def f120_v (ps : List P) : Option (Nat × List P) := (f120_t ps).run some
noncomputable def f120_e : EntD := ⟨120, [.pel (.pair (.slice .str) .unit), .imm .str], f120_v, [fun ps ls qs => ⟨[.imm .bool (lf qs 0)], [.pel (ls.getD 0 0) (.pair (.slice .str) .unit) ((lf ps 1)).toInt.toNat (lf qs 1), .imm .str (lf ps 2)]⟩]⟩
noncomputable def f120_u : List Cu := []
noncomputable def f120_c : Cx := ⟨Try.prog, envOf [f113_e, f170_e, f170_1_e], 28, lOf f120_u, fun _ => false⟩
noncomputable def f120_b : Code := match Try.f120.body with | some b => b | none => .skip
theorem f120_x (ps : List P) (ls : List Nat) : execFn f120_c 120 f120_e.tm (explF ps 3 0) ls = (f120_t ps).run fun q => altR (f120_e.res.map fun f => f ps ls) 0 q some := by kernel_rfl
theorem f120_ok : OkEnt Try.prog f120_e := ent_ok (c := f120_c) (g := 120) (body := f120_b) (us := f120_u) (n := 3) (t := f120_t) (good_envOf _ ⟨f113_ok, f170_ok, f170_1_ok, trivial⟩) Try.func120 rfl Try.call120 rfl trivial (by kernel_rfl) f120_x (fun _ => rfl)
/-! ### (*comprador/turn.Turn).Strike -/
noncomputable def f43_k234 : Sk := { t := [(0, .ref 2001 [] (.pair (.slice (.pair (.slice .str) .unit)) (.pair (.int .i64) .unit))), (1, .imm .str .unit), (5, .imm (.int .i64) .unit), (13, .imm (.int .i64) .unit), (14, .imm (.int .i64) .unit)], h := [(2001, .obj (.pair (.slice (.pair (.slice .str) .unit)) (.pair (.int .i64) .unit)) (.pair (.blk 2002 (.at (.pair (.slice .str) .unit))) (.imm (.pair (.int .i64) .unit) .unit))), (2002, .blk (.at (.pair (.slice .str) .unit)) .unit)] }
noncomputable def f43_o234 : List (Out × Sk) := [((.exit 0), { t := [(0, .ref 2001 [] (.pair (.slice (.pair (.slice .str) .unit)) (.pair (.int .i64) .unit))), (5, .imm (.int .i64) .unit)], h := [(2001, .obj (.pair (.slice (.pair (.slice .str) .unit)) (.pair (.int .i64) .unit)) (.pair (.blk 2002 (.at (.pair (.slice .str) .unit))) (.imm (.pair (.int .i64) .unit) .unit))), (2002, .blk (.at (.pair (.slice .str) .unit)) .unit)] })]
noncomputable def f43_s234 (ls : List P) : Tree Step :=
 .ite (decide ((lf ls 3).toInt < (lf ls 2).toInt)) (
  .ite (inb ((lf ls 3).toInt) (((lf ls 5).xs).length)) (
   .loop (f120_v [lf ls 5, .int .i64 (((lf ls 3).toInt).toNat : Int), lf ls 0]) fun x1 =>
    .ite (Nat.beq x1.1 0) (
     .ite ((lf x1.2 0).toBool) (
      .ret (.inl [lf ls 0, .int .i64 (IntKind.i64.wrap (((lf ls 1).toInt) + (1 : Int))), lf ls 2, .int .i64 (IntKind.i64.wrap (((lf ls 3).toInt) + (1 : Int))), lf ls 4, lf x1.2 1])) (
      .ret (.inl [lf ls 0, lf ls 1, lf ls 2, .int .i64 (IntKind.i64.wrap (((lf ls 3).toInt) + (1 : Int))), lf ls 4, lf x1.2 1]))) (
     .fail)) (
   .fail)) (
  .ret (.inr (0, [lf ls 1, lf ls 4, lf ls 5])))
noncomputable def f43_t (ps : List P) : Tree (Nat × List P) :=
 .loop (loopT f43_s234 FUEL [lf ps 2, .int .i64 (0 : Int), .int .i64 (((lf ps 0).xs).length : Int), .int .i64 (0 : Int), lf ps 1, lf ps 0]) fun y2 =>
  .ite (Nat.beq y2.1 0) (
   .ret (0, [lf y2.2 0, lf y2.2 2, lf y2.2 1])) (
   .fail)
noncomputable def f43_v (ps : List P) : Option (Nat × List P) := (f43_t ps).run some
noncomputable def f43_e : EntD := ⟨43, [.box (.pair (.slice (.pair (.slice .str) .unit)) (.pair (.int .i64) .unit)) (.pair (.blk (.at (.pair (.slice .str) .unit))) (.imm (.pair (.int .i64) .unit))), .imm .str], f43_v, [fun ps ls qs => ⟨[.imm (.int .i64) (lf qs 0)], [.box (ls.getD 0 0) (.pair (.slice (.pair (.slice .str) .unit)) (.pair (.int .i64) .unit)) (.pair (.blk (ls.getD 1 0) (.at (.pair (.slice .str) .unit)) (lf qs 1)) (.imm (.pair (.int .i64) .unit) (lf qs 2))), .imm .str (lf ps 2)]⟩]⟩
noncomputable def f43_u : List Cu := [.loop 234 f43_k234 f43_o234 f43_s234]
noncomputable def f43_c : Cx := ⟨Try.prog, envOf [f120_e], 29, lOf f43_u, fun _ => false⟩
noncomputable def f43_b : Code := match Try.f43.body with | some b => b | none => .skip
theorem f43_q234 : (Cu.loop 234 f43_k234 f43_o234 f43_s234).Ok f43_c f43_b := ⟨by kernel_rfl, fun ls Kr Kx => by kernel_rfl⟩
theorem f43_x (ps : List P) (ls : List Nat) : execFn f43_c 43 f43_e.tm (explF ps 3 0) ls = (f43_t ps).run fun q => altR (f43_e.res.map fun f => f ps ls) 0 q some := by kernel_rfl
theorem f43_ok : OkEnt Try.prog f43_e := ent_ok (c := f43_c) (g := 43) (body := f43_b) (us := f43_u) (n := 3) (t := f43_t) (good_envOf _ ⟨f120_ok, trivial⟩) Try.func43 rfl Try.call43 rfl ⟨f43_q234, trivial⟩ (by kernel_rfl) f43_x (fun _ => rfl)
/-! ### (*comprador/compradorref35.X).Strike -/
noncomputable def f47_k14922 : Sk := { t := [(0, .ref 2001 [] (.pair (.slice (.slice .str)) (.pair (.int .i64) .unit))), (1, .imm .str .unit), (5, .imm (.int .i64) .unit), (6, .imm (.int .i64) .unit), (7, .slf 7001 .str), (8, .imm (.int .i64) .unit)], h := [(2001, .obj (.pair (.slice (.slice .str)) (.pair (.int .i64) .unit)) (.pair (.slf 7002 (.slice .str)) (.imm (.pair (.int .i64) .unit) .unit))), (7001, .arr .str true []), (7002, .arr (.slice .str) true [])] }
noncomputable def f47_o14922 : List (Out × Sk) := [((.exit 2), { t := [(0, .ref 2001 [] (.pair (.slice (.slice .str)) (.pair (.int .i64) .unit))), (1, .imm .str .unit), (5, .imm (.int .i64) .unit), (6, .imm (.int .i64) .unit), (7, .slf 7031 .str)], h := [(2001, .obj (.pair (.slice (.slice .str)) (.pair (.int .i64) .unit)) (.pair (.slf 7032 (.slice .str)) (.imm (.pair (.int .i64) .unit) .unit))), (7031, .arr .str true []), (7032, .arr (.slice .str) true [])] })]
noncomputable def f47_s14922 (ls : List P) : Tree Step :=
 .ite (inb ((lf ls 2).toInt) (((lf ls 6).xs).length)) (
  .ite (decide ((lf ls 3).toInt < (((rd ((lf ls 6).xs) (((lf ls 2).toInt).toNat)).xs).length : Int))) (
   .ite (inb ((lf ls 2).toInt) (((lf ls 6).xs).length)) (
    .ite (inb ((lf ls 3).toInt) (((rd ((lf ls 6).xs) (((lf ls 2).toInt).toNat)).xs).length)) (
     .ite (!(strEq ((rd ((rd ((lf ls 6).xs) (((lf ls 2).toInt).toNat)).xs) (((lf ls 3).toInt).toNat)).toStr) ((lf ls 0).toStr))) (
      .ite (inb ((lf ls 2).toInt) (((lf ls 6).xs).length)) (
       .ite (inb ((lf ls 3).toInt) (((rd ((lf ls 6).xs) (((lf ls 2).toInt).toNat)).xs).length)) (
        .ite (decide ((((lf ls 5).xs).length + 1) * 16 ≤ 140737488355328)) (
         .ret (.inl [lf ls 0, lf ls 1, lf ls 2, .int .i64 (IntKind.i64.wrap (((lf ls 3).toInt) + (1 : Int))), lf ls 4, .list (((lf ls 5).isNil) && false) (((lf ls 5).xs) ++ ([rd ((rd ((lf ls 6).xs) (((lf ls 2).toInt).toNat)).xs) (((lf ls 3).toInt).toNat)] : List P)), .list ((lf ls 6).isNil) ((lf ls 6).xs)])) (
         .fail)) (
        .fail)) (
       .fail)) (
      .ret (.inl [lf ls 0, lf ls 1, lf ls 2, .int .i64 (IntKind.i64.wrap (((lf ls 3).toInt) + (1 : Int))), lf ls 4, .list ((lf ls 5).isNil) ((lf ls 5).xs), .list ((lf ls 6).isNil) ((lf ls 6).xs)]))) (
     .fail)) (
    .fail)) (
   .ret (.inr (0, [lf ls 0, lf ls 1, lf ls 2, lf ls 4, .list ((lf ls 5).isNil) ((lf ls 5).xs), .list ((lf ls 6).isNil) ((lf ls 6).xs)])))) (
  .fail)
noncomputable def f47_k58 : Sk := { t := [(0, .ref 2001 [] (.pair (.slice (.slice .str)) (.pair (.int .i64) .unit))), (1, .imm .str .unit), (5, .imm (.int .i64) .unit), (6, .imm (.int .i64) .unit)], h := [(2001, .obj (.pair (.slice (.slice .str)) (.pair (.int .i64) .unit)) (.pair (.slf 5101 (.slice .str)) (.imm (.pair (.int .i64) .unit) .unit))), (5101, .arr (.slice .str) true [])] }
noncomputable def f47_o58 : List (Out × Sk) := [((.exit 0), { t := [(0, .ref 2001 [] (.pair (.slice (.slice .str)) (.pair (.int .i64) .unit))), (5, .imm (.int .i64) .unit)], h := [(2001, .obj (.pair (.slice (.slice .str)) (.pair (.int .i64) .unit)) (.pair (.slf 5131 (.slice .str)) (.imm (.pair (.int .i64) .unit) .unit))), (5131, .arr (.slice .str) true [])] })]
noncomputable def f47_s58 (ls : List P) : Tree Step :=
 .ite (decide ((lf ls 2).toInt < (((lf ls 4).xs).length : Int))) (
  .loop (loopT f47_s14922 FUEL [lf ls 0, lf ls 1, lf ls 2, .int .i64 (0 : Int), lf ls 3, .list true [], .list ((lf ls 4).isNil) ((lf ls 4).xs)]) fun y1 =>
   .ite (Nat.beq y1.1 0) (
    .ite (inb ((lf y1.2 2).toInt) (((lf y1.2 5).xs).length)) (
     .loop (f121_v [.list ((lf y1.2 5).isNil) ((lf y1.2 5).xs), lf y1.2 3, lf y1.2 2, .list ((lf y1.2 4).isNil) ((lf y1.2 4).xs)]) fun x2 =>
      .ite (Nat.beq x2.1 0) (
       .ret (.inl [lf y1.2 0, .int .i64 (IntKind.i64.wrap ((IntKind.i64.wrap (((lf y1.2 1).toInt) + (((rd ((lf y1.2 5).xs) (((lf y1.2 2).toInt).toNat)).xs).length : Int))) - (((lf y1.2 4).xs).length : Int))), .int .i64 (IntKind.i64.wrap (((lf y1.2 2).toInt) + (1 : Int))), lf y1.2 3, .list ((lf x2.2 0).isNil) ((lf x2.2 0).xs)])) (
       .fail)) (
     .fail)) (
    .fail)) (
  .ret (.inr (0, [lf ls 1, lf ls 3, .list ((lf ls 4).isNil) ((lf ls 4).xs)])))
noncomputable def f47_t (ps : List P) : Tree (Nat × List P) :=
 .loop (loopT f47_s58 FUEL [lf ps 2, .int .i64 (0 : Int), .int .i64 (0 : Int), lf ps 1, .list ((lf ps 0).isNil) ((lf ps 0).xs)]) fun y3 =>
  .ite (Nat.beq y3.1 0) (
   .ret (0, [lf y3.2 0, .list ((lf y3.2 2).isNil) ((lf y3.2 2).xs), lf y3.2 1])) (
   .fail)
noncomputable def f47_v (ps : List P) : Option (Nat × List P) := (f47_t ps).run some
noncomputable def f47_e : EntD := ⟨47, [.box (.pair (.slice (.slice .str)) (.pair (.int .i64) .unit)) (.pair (.own (.slice .str)) (.imm (.pair (.int .i64) .unit))), .imm .str], f47_v, [fun ps ls qs => ⟨[.imm (.int .i64) (lf qs 0)], [.box (ls.getD 0 0) (.pair (.slice (.slice .str)) (.pair (.int .i64) .unit)) (.pair (.own (ls.getD 3130 0) (.slice .str) (lf qs 1).isNil (lf qs 1).xs) (.imm (.pair (.int .i64) .unit) (lf qs 2))), .imm .str (lf ps 2)]⟩]⟩
noncomputable def f47_u : List Cu := [.loop 14922 f47_k14922 f47_o14922 f47_s14922, .loop 58 f47_k58 f47_o58 f47_s58]
noncomputable def f47_c : Cx := ⟨Try.prog, envOf [f121_e], 73, lOf f47_u, fun _ => false⟩
noncomputable def f47_b : Code := match Try.f47.body with | some b => b | none => .skip
theorem f47_q14922 : (Cu.loop 14922 f47_k14922 f47_o14922 f47_s14922).Ok f47_c f47_b := ⟨by kernel_rfl, fun ls Kr Kx => by kernel_rfl⟩
theorem f47_q58 : (Cu.loop 58 f47_k58 f47_o58 f47_s58).Ok f47_c f47_b := ⟨by kernel_rfl, fun ls Kr Kx => by kernel_rfl⟩
theorem f47_x (ps : List P) (ls : List Nat) : execFn f47_c 47 f47_e.tm (explF ps 3 0) ls = (f47_t ps).run fun q => altR (f47_e.res.map fun f => f ps ls) 0 q some := by kernel_rfl
theorem f47_ok : OkEnt Try.prog f47_e := ent_ok (c := f47_c) (g := 47) (body := f47_b) (us := f47_u) (n := 3) (t := f47_t) (good_envOf _ ⟨f121_ok, trivial⟩) Try.func47 rfl Try.call47 rfl ⟨f47_q14922, f47_q58, trivial⟩ (by kernel_rfl) f47_x (fun _ => rfl)
/-! ### (*comprador/turn.Turn).Len -/
noncomputable def f29_k234 : Sk := { t := [(0, .ref 2001 [] (.pair (.slice (.pair (.slice .str) .unit)) (.pair (.int .i64) .unit))), (3, .imm (.int .i64) .unit), (11, .blk 2002 (.at (.pair (.slice .str) .unit))), (12, .imm (.int .i64) .unit), (13, .imm (.int .i64) .unit)], h := [(2001, .obj (.pair (.slice (.pair (.slice .str) .unit)) (.pair (.int .i64) .unit)) (.pair (.blk 2002 (.at (.pair (.slice .str) .unit))) (.imm (.pair (.int .i64) .unit) .unit))), (2002, .blk (.at (.pair (.slice .str) .unit)) .unit)] }
noncomputable def f29_o234 : List (Out × Sk) := [((.exit 0), { t := [(0, .ref 2001 [] (.pair (.slice (.pair (.slice .str) .unit)) (.pair (.int .i64) .unit))), (3, .imm (.int .i64) .unit)], h := [(2001, .obj (.pair (.slice (.pair (.slice .str) .unit)) (.pair (.int .i64) .unit)) (.pair (.blk 2002 (.at (.pair (.slice .str) .unit))) (.imm (.pair (.int .i64) .unit) .unit))), (2002, .blk (.at (.pair (.slice .str) .unit)) .unit)] })]
noncomputable def f29_s234 (ls : List P) : Tree Step :=
 .ite (decide ((lf ls 2).toInt < (lf ls 1).toInt)) (
  .ite (inb ((lf ls 2).toInt) (((lf ls 4).xs).length)) (
   .ret (.inl [.int .i64 (IntKind.i64.wrap (((lf ls 0).toInt) + ((((rd ((lf ls 4).xs) (((lf ls 2).toInt).toNat)).fst).xs).length : Int))), lf ls 1, .int .i64 (IntKind.i64.wrap (((lf ls 2).toInt) + (1 : Int))), lf ls 3, lf ls 4])) (
   .fail)) (
  .ret (.inr (0, [lf ls 0, lf ls 3, lf ls 4])))
noncomputable def f29_t (ps : List P) : Tree (Nat × List P) :=
 .loop (loopT f29_s234 FUEL [.int .i64 (0 : Int), .int .i64 (((lf ps 0).xs).length : Int), .int .i64 (0 : Int), lf ps 1, lf ps 0]) fun y1 =>
  .ite (Nat.beq y1.1 0) (
   .ret (0, [lf y1.2 0, lf y1.2 2, lf y1.2 1])) (
   .fail)
noncomputable def f29_v (ps : List P) : Option (Nat × List P) := (f29_t ps).run some
noncomputable def f29_e : EntD := ⟨29, [.box (.pair (.slice (.pair (.slice .str) .unit)) (.pair (.int .i64) .unit)) (.pair (.blk (.at (.pair (.slice .str) .unit))) (.imm (.pair (.int .i64) .unit)))], f29_v, [fun ps ls qs => ⟨[.imm (.int .i64) (lf qs 0)], [.box (ls.getD 0 0) (.pair (.slice (.pair (.slice .str) .unit)) (.pair (.int .i64) .unit)) (.pair (.blk (ls.getD 1 0) (.at (.pair (.slice .str) .unit)) (lf qs 1)) (.imm (.pair (.int .i64) .unit) (lf qs 2)))]⟩]⟩
noncomputable def f29_u : List Cu := [.loop 234 f29_k234 f29_o234 f29_s234]
noncomputable def f29_c : Cx := ⟨Try.prog, envOf [], 24, lOf f29_u, fun _ => false⟩
noncomputable def f29_b : Code := match Try.f29.body with | some b => b | none => .skip
theorem f29_q234 : (Cu.loop 234 f29_k234 f29_o234 f29_s234).Ok f29_c f29_b := ⟨by kernel_rfl, fun ls Kr Kx => by kernel_rfl⟩
theorem f29_x (ps : List P) (ls : List Nat) : execFn f29_c 29 f29_e.tm (explF ps 2 0) ls = (f29_t ps).run fun q => altR (f29_e.res.map fun f => f ps ls) 0 q some := by kernel_rfl
theorem f29_ok : OkEnt Try.prog f29_e := ent_ok (c := f29_c) (g := 29) (body := f29_b) (us := f29_u) (n := 2) (t := f29_t) (good_envOf _ trivial) Try.func29 rfl Try.call29 rfl ⟨f29_q234, trivial⟩ (by kernel_rfl) f29_x (fun _ => rfl)
/-! ### (comprador/compradorref35.X).Len -/
noncomputable def f48_k58 : Sk := { t := [(1, .ref 5100 [] (.pair (.slice (.slice .str)) (.pair (.int .i64) .unit))), (3, .imm (.int .i64) .unit), (4, .imm (.int .i64) .unit)], h := [(5100, .obj (.pair (.slice (.slice .str)) (.pair (.int .i64) .unit)) (.imm (.pair (.slice (.slice .str)) (.pair (.int .i64) .unit)) .unit))] }
noncomputable def f48_o58 : List (Out × Sk) := [((.exit 0), { t := [(3, .imm (.int .i64) .unit)], h := [] })]
noncomputable def f48_s58 (ls : List P) : Tree Step :=
 .ite (decide ((lf ls 1).toInt < ((((lf ls 2).fst).xs).length : Int))) (
  .ite (inb ((lf ls 1).toInt) ((((lf ls 2).fst).xs).length)) (
   .ret (.inl [.int .i64 (IntKind.i64.wrap (((lf ls 0).toInt) + (((rd (((lf ls 2).fst).xs) (((lf ls 1).toInt).toNat)).xs).length : Int))), .int .i64 (IntKind.i64.wrap (((lf ls 1).toInt) + (1 : Int))), lf ls 2])) (
   .fail)) (
  .ret (.inr (0, [lf ls 0])))
noncomputable def f48_t (ps : List P) : Tree (Nat × List P) :=
 .loop (loopT f48_s58 FUEL [.int .i64 (0 : Int), .int .i64 (0 : Int), lf ps 0]) fun y1 =>
  .ite (Nat.beq y1.1 0) (
   .ret (0, [lf y1.2 0])) (
   .fail)
noncomputable def f48_v (ps : List P) : Option (Nat × List P) := (f48_t ps).run some
noncomputable def f48_e : EntD := ⟨48, [.imm (.pair (.slice (.slice .str)) (.pair (.int .i64) .unit))], f48_v, [fun ps ls qs => ⟨[.imm (.int .i64) (lf qs 0)], [.imm (.pair (.slice (.slice .str)) (.pair (.int .i64) .unit)) (lf ps 0)]⟩]⟩
noncomputable def f48_u : List Cu := [.loop 58 f48_k58 f48_o58 f48_s58]
noncomputable def f48_c : Cx := ⟨Try.prog, envOf [], 21, lOf f48_u, fun _ => false⟩
noncomputable def f48_b : Code := match Try.f48.body with | some b => b | none => .skip
theorem f48_q58 : (Cu.loop 58 f48_k58 f48_o58 f48_s58).Ok f48_c f48_b := ⟨by kernel_rfl, fun ls Kr Kx => by kernel_rfl⟩
theorem f48_x (ps : List P) (ls : List Nat) : execFn f48_c 48 f48_e.tm (explF ps 1 0) ls = (f48_t ps).run fun q => altR (f48_e.res.map fun f => f ps ls) 0 q some := by kernel_rfl
theorem f48_ok : OkEnt Try.prog f48_e := ent_ok (c := f48_c) (g := 48) (body := f48_b) (us := f48_u) (n := 1) (t := f48_t) (good_envOf _ trivial) Try.func48 rfl Try.call48 rfl ⟨f48_q58, trivial⟩ (by kernel_rfl) f48_x (fun _ => rfl)
/-! ### (*comprador/turn.Turn).List -/
noncomputable def f30_k1 : Sk := { t := [(0, .ref 2001 [] (.pair (.slice (.pair (.slice .str) .unit)) (.pair (.int .i64) .unit))), (1, .imm (.int .i64) .unit)], h := [(2001, .obj (.pair (.slice (.pair (.slice .str) .unit)) (.pair (.int .i64) .unit)) (.pair (.blk 2002 (.at (.pair (.slice .str) .unit))) (.imm (.pair (.int .i64) .unit) .unit))), (2002, .blk (.at (.pair (.slice .str) .unit)) .unit)] }
noncomputable def f30_o1 : List (Out × Sk) := [(.ret, { t := [(0, .ref 2001 [] (.pair (.slice (.pair (.slice .str) .unit)) (.pair (.int .i64) .unit))), (4, .slf 4031 .str)], h := [(2001, .obj (.pair (.slice (.pair (.slice .str) .unit)) (.pair (.int .i64) .unit)) (.pair (.blk 2002 (.at (.pair (.slice .str) .unit))) (.imm (.pair (.int .i64) .unit) .unit))), (4031, .arr .str true []), (2002, .blk (.at (.pair (.slice .str) .unit)) .unit)] })]
noncomputable def f30_s1 (ls : List P) : Tree (Nat × List P) :=
 .loop (f110_v [lf ls 2, lf ls 1, lf ls 0]) fun x1 =>
  .ite (Nat.beq x1.1 0) (
   .ret (0, [lf ls 1, .list true [], lf ls 2])) (
   .ite (Nat.beq x1.1 1) (
    .loop (f113_v [(rd ((lf ls 2).xs) (((lf ls 0).toInt).toNat)).fst]) fun x2 =>
     .ite (Nat.beq x2.1 0) (
      .ret (0, [lf ls 1, .list ((lf x2.2 0).isNil) ((lf x2.2 0).xs), lf ls 2])) (
      .fail)) (
    .fail))
noncomputable def f30_t (ps : List P) : Tree (Nat × List P) :=
 .loop ((f30_s1 [lf ps 2, lf ps 1, lf ps 0]).run some) fun y3 =>
  .ite (Nat.beq y3.1 0) (
   .ret (0, [.list ((lf y3.2 1).isNil) ((lf y3.2 1).xs), lf y3.2 2, lf y3.2 0])) (
   .fail)
noncomputable def f30_v (ps : List P) : Option (Nat × List P) := (f30_t ps).run some
noncomputable def f30_e : EntD := ⟨30, [.box (.pair (.slice (.pair (.slice .str) .unit)) (.pair (.int .i64) .unit)) (.pair (.blk (.at (.pair (.slice .str) .unit))) (.imm (.pair (.int .i64) .unit))), .imm (.int .i64)], f30_v, [fun ps ls qs => ⟨[.own (ls.getD 2030 0) .str (lf qs 0).isNil (lf qs 0).xs], [.box (ls.getD 0 0) (.pair (.slice (.pair (.slice .str) .unit)) (.pair (.int .i64) .unit)) (.pair (.blk (ls.getD 1 0) (.at (.pair (.slice .str) .unit)) (lf qs 1)) (.imm (.pair (.int .i64) .unit) (lf qs 2))), .imm (.int .i64) (lf ps 2)]⟩]⟩
noncomputable def f30_u : List Cu := [.cut 1 f30_k1 f30_o1 f30_s1]
noncomputable def f30_c : Cx := ⟨Try.prog, envOf [f110_e, f113_e], 16, lOf f30_u, fun _ => false⟩
noncomputable def f30_b : Code := match Try.f30.body with | some b => b | none => .skip
theorem f30_q1 : (Cu.cut 1 f30_k1 f30_o1 f30_s1).Ok f30_c f30_b := ⟨by kernel_rfl, fun ls Kx => by kernel_rfl⟩
theorem f30_x (ps : List P) (ls : List Nat) : execFn f30_c 30 f30_e.tm (explF ps 3 0) ls = (f30_t ps).run fun q => altR (f30_e.res.map fun f => f ps ls) 0 q some := by kernel_rfl
theorem f30_ok : OkEnt Try.prog f30_e := ent_ok (c := f30_c) (g := 30) (body := f30_b) (us := f30_u) (n := 3) (t := f30_t) (good_envOf _ ⟨f110_ok, f113_ok, trivial⟩) Try.func30 rfl Try.call30 rfl ⟨f30_q1, trivial⟩ (by kernel_rfl) f30_x (fun _ => rfl)
/-! ### (comprador/compradorref35.X).List -/
noncomputable def f50_t (ps : List P) : Tree (Nat × List P) :=
 .loop (f122_v [lf ps 0, lf ps 1]) fun x1 =>
  .ite (Nat.beq x1.1 0) (
   .ret (0, [lf x1.2 0])) (
   .fail)
noncomputable def f50_v (ps : List P) : Option (Nat × List P) := (f50_t ps).run some
noncomputable def f50_e : EntD := ⟨50, [.imm (.pair (.slice (.slice .str)) (.pair (.int .i64) .unit)), .imm (.int .i64)], f50_v, [fun ps ls qs => ⟨[.imm (.slice .str) (lf qs 0)], [.imm (.pair (.slice (.slice .str)) (.pair (.int .i64) .unit)) (lf ps 0), .imm (.int .i64) (lf ps 1)]⟩]⟩
noncomputable def f50_u : List Cu := []
noncomputable def f50_c : Cx := ⟨Try.prog, envOf [f122_e], 8, lOf f50_u, fun _ => false⟩
noncomputable def f50_b : Code := match Try.f50.body with | some b => b | none => .skip
theorem f50_x (ps : List P) (ls : List Nat) : execFn f50_c 50 f50_e.tm (explF ps 2 0) ls = (f50_t ps).run fun q => altR (f50_e.res.map fun f => f ps ls) 0 q some := by kernel_rfl
theorem f50_ok : OkEnt Try.prog f50_e := ent_ok (c := f50_c) (g := 50) (body := f50_b) (us := f50_u) (n := 2) (t := f50_t) (good_envOf _ ⟨f122_ok, trivial⟩) Try.func50 rfl Try.call50 rfl trivial (by kernel_rfl) f50_x (fun _ => rfl)
/-! ### comprador/compradorref09.Names2 -/
noncomputable def f49_k58 : Sk := { t := [(0, .imm (.slice .str) .unit), (1, .imm (.slice .str) .unit), (5, .imm (.int .i64) .unit)], h := [] }
noncomputable def f49_o58 : List (Out × Sk) := [(.ret, { t := [(4, .imm .bool .unit)], h := [] }), ((.exit 0), { t := [], h := [] })]
noncomputable def f49_s58 (ls : List P) : Tree Step :=
 .ite (decide ((lf ls 2).toInt < (((lf ls 0).xs).length : Int))) (
  .ite (inb ((lf ls 2).toInt) (((lf ls 0).xs).length)) (
   .ite (inb ((lf ls 2).toInt) (((lf ls 1).xs).length)) (
    .ite (!(strEq ((rd ((lf ls 0).xs) (((lf ls 2).toInt).toNat)).toStr) ((rd ((lf ls 1).xs) (((lf ls 2).toInt).toNat)).toStr))) (
     .ret (.inr (0, [.bool false]))) (
     .ret (.inl [lf ls 0, lf ls 1, .int .i64 (IntKind.i64.wrap (((lf ls 2).toInt) + (1 : Int)))]))) (
    .fail)) (
   .fail)) (
  .ret (.inr (1, [])))
noncomputable def f49_t (ps : List P) : Tree (Nat × List P) :=
 .ite ((((lf ps 0).xs).length : Int) != (((lf ps 1).xs).length : Int)) (
  .ret (0, [.bool false])) (
  .loop (loopT f49_s58 FUEL [lf ps 0, lf ps 1, .int .i64 (0 : Int)]) fun y1 =>
   .ite (Nat.beq y1.1 0) (
    .ret (0, [lf y1.2 0])) (
    .ite (Nat.beq y1.1 1) (
     .ret (0, [.bool true])) (
     .fail)))
noncomputable def f49_v (ps : List P) : Option (Nat × List P) := (f49_t ps).run some
noncomputable def f49_e : EntD := ⟨49, [.imm (.slice .str), .imm (.slice .str)], f49_v, [fun ps ls qs => ⟨[.imm .bool (lf qs 0)], [.imm (.slice .str) (lf ps 0), .imm (.slice .str) (lf ps 1)]⟩]⟩
noncomputable def f49_u : List Cu := [.loop 58 f49_k58 f49_o58 f49_s58]
noncomputable def f49_c : Cx := ⟨Try.prog, envOf [], 26, lOf f49_u, fun _ => false⟩
noncomputable def f49_b : Code := match Try.f49.body with | some b => b | none => .skip
theorem f49_q58 : (Cu.loop 58 f49_k58 f49_o58 f49_s58).Ok f49_c f49_b := ⟨by kernel_rfl, fun ls Kr Kx => by kernel_rfl⟩
theorem f49_x (ps : List P) (ls : List Nat) : execFn f49_c 49 f49_e.tm (explF ps 2 0) ls = (f49_t ps).run fun q => altR (f49_e.res.map fun f => f ps ls) 0 q some := by kernel_rfl
theorem f49_ok : OkEnt Try.prog f49_e := ent_ok (c := f49_c) (g := 49) (body := f49_b) (us := f49_u) (n := 2) (t := f49_t) (good_envOf _ trivial) Try.func49 rfl Try.call49 rfl ⟨f49_q58, trivial⟩ (by kernel_rfl) f49_x (fun _ => rfl)
/-! ### (*comprador/compradorref35.X).Push -/
noncomputable def f44_1_k122 : Sk := { t := [(0, .ref 2001 [] (.pair (.slice (.slice .str)) (.pair (.int .i64) .unit))), (1, .imm (.int .i64) .unit), (2, .imm .str .unit), (7, .slf 5901 .str), (8, .imm (.int .i64) .unit)], h := [(2001, .obj (.pair (.slice (.slice .str)) (.pair (.int .i64) .unit)) (.imm (.pair (.slice (.slice .str)) (.pair (.int .i64) .unit)) .unit)), (5901, .arr .str true [])] }
noncomputable def f44_1_o122 : List (Out × Sk) := [(.ret, { t := [(0, .ref 2001 [] (.pair (.slice (.slice .str)) (.pair (.int .i64) .unit))), (6, .imm .bool .unit)], h := [(2001, .obj (.pair (.slice (.slice .str)) (.pair (.int .i64) .unit)) (.imm (.pair (.slice (.slice .str)) (.pair (.int .i64) .unit)) .unit))] }), ((.exit 0), { t := [(0, .ref 2001 [] (.pair (.slice (.slice .str)) (.pair (.int .i64) .unit))), (1, .imm (.int .i64) .unit), (2, .imm .str .unit), (7, .slf 5931 .str)], h := [(2001, .obj (.pair (.slice (.slice .str)) (.pair (.int .i64) .unit)) (.imm (.pair (.slice (.slice .str)) (.pair (.int .i64) .unit)) .unit)), (5931, .arr .str true [])] })]
noncomputable def f44_1_s122 (ls : List P) : Tree Step :=
 .ite (inb ((lf ls 0).toInt) ((((lf ls 3).fst).xs).length)) (
  .ite (decide ((lf ls 2).toInt < (((rd (((lf ls 3).fst).xs) (((lf ls 0).toInt).toNat)).xs).length : Int))) (
   .ite (inb ((lf ls 0).toInt) ((((lf ls 3).fst).xs).length)) (
    .ite (inb ((lf ls 2).toInt) (((rd (((lf ls 3).fst).xs) (((lf ls 0).toInt).toNat)).xs).length)) (
     .ite (strEq ((rd ((rd (((lf ls 3).fst).xs) (((lf ls 0).toInt).toNat)).xs) (((lf ls 2).toInt).toNat)).toStr) ((lf ls 1).toStr)) (
      .ret (.inr (0, [.bool false, lf ls 3]))) (
      .ite (inb ((lf ls 0).toInt) ((((lf ls 3).fst).xs).length)) (
       .ite (inb ((lf ls 2).toInt) (((rd (((lf ls 3).fst).xs) (((lf ls 0).toInt).toNat)).xs).length)) (
        .ite (decide ((((lf ls 4).xs).length + 1) * 16 ≤ 140737488355328)) (
         .ret (.inl [lf ls 0, lf ls 1, .int .i64 (IntKind.i64.wrap (((lf ls 2).toInt) + (1 : Int))), lf ls 3, .list (((lf ls 4).isNil) && false) (((lf ls 4).xs) ++ ([rd ((rd (((lf ls 3).fst).xs) (((lf ls 0).toInt).toNat)).xs) (((lf ls 2).toInt).toNat)] : List P))])) (
         .fail)) (
        .fail)) (
       .fail))) (
     .fail)) (
    .fail)) (
   .ret (.inr (1, [lf ls 0, lf ls 1, lf ls 3, .list ((lf ls 4).isNil) ((lf ls 4).xs)])))) (
  .fail)
noncomputable def f44_1_k1 : Sk := { t := [(0, .ref 2001 [] (.pair (.slice (.slice .str)) (.pair (.int .i64) .unit))), (1, .imm (.int .i64) .unit), (2, .imm .str .unit)], h := [(2001, .obj (.pair (.slice (.slice .str)) (.pair (.int .i64) .unit)) (.imm (.pair (.slice (.slice .str)) (.pair (.int .i64) .unit)) .unit))] }
noncomputable def f44_1_o1 : List (Out × Sk) := [(.ret, { t := [(0, .ref 2001 [] (.pair (.slice (.slice .str)) (.pair (.int .i64) .unit))), (6, .imm .bool .unit)], h := [(2001, .obj (.pair (.slice (.slice .str)) (.pair (.int .i64) .unit)) (.imm (.pair (.slice (.slice .str)) (.pair (.int .i64) .unit)) .unit))], z := [0] })]
noncomputable def f44_1_s1 (ls : List P) : Tree (Nat × List P) :=
 .ite (decide ((lf ls 0).toInt < (0 : Int))) (
  .ret (0, [.bool false, lf ls 2])) (
  .ite (decide ((lf ls 0).toInt ≥ ((((lf ls 2).fst).xs).length : Int))) (
   .ret (0, [.bool false, lf ls 2])) (
   .loop (loopT f44_1_s122 FUEL [lf ls 0, lf ls 1, .int .i64 (0 : Int), lf ls 2, .list true []]) fun y1 =>
    .ite (Nat.beq y1.1 0) (
     .ret (0, [lf y1.2 0, lf y1.2 1])) (
     .ite (Nat.beq y1.1 1) (
      .ite (decide ((((lf y1.2 3).xs).length + 1) * 16 ≤ 140737488355328)) (
       .loop (f121_1_v [lf y1.2 2, lf y1.2 0, .list (((lf y1.2 3).isNil) && false) (((lf y1.2 3).xs) ++ ([lf y1.2 1] : List P))]) fun x2 =>
        .ite (Nat.beq x2.1 0) (
         .ret (0, [.bool true, .pair (.list ((lf x2.2 0).isNil) ((lf x2.2 0).xs)) (lf x2.2 1)])) (
         .fail)) (
       .fail)) (
      .fail))))
noncomputable def f44_1_t (ps : List P) : Tree (Nat × List P) :=
 .loop ((f44_1_s1 [lf ps 1, lf ps 2, lf ps 0]).run some) fun y3 =>
  .ite (Nat.beq y3.1 0) (
   .ret (0, [lf y3.2 0, lf y3.2 1])) (
   .fail)
noncomputable def f44_1_v (ps : List P) : Option (Nat × List P) := (f44_1_t ps).run some
noncomputable def f44_1_e : EntD := ⟨44, [.box (.pair (.slice (.slice .str)) (.pair (.int .i64) .unit)) (.imm (.pair (.slice (.slice .str)) (.pair (.int .i64) .unit))), .imm (.int .i64), .imm .str], f44_1_v, [fun ps ls qs => ⟨[.imm .bool (lf qs 0)], [.box (ls.getD 0 0) (.pair (.slice (.slice .str)) (.pair (.int .i64) .unit)) (.imm (.pair (.slice (.slice .str)) (.pair (.int .i64) .unit)) (lf qs 1)), .imm (.int .i64) (lf ps 1), .imm .str (lf ps 2)]⟩]⟩
noncomputable def f44_1_u : List Cu := [.loop 122 f44_1_k122 f44_1_o122 f44_1_s122, .cut 1 f44_1_k1 f44_1_o1 f44_1_s1]
noncomputable def f44_1_c : Cx := ⟨Try.prog, envOf [f121_1_e], 65, lOf f44_1_u, fun _ => false⟩
noncomputable def f44_1_b : Code := match Try.f44.body with | some b => b | none => .skip
theorem f44_1_q122 : (Cu.loop 122 f44_1_k122 f44_1_o122 f44_1_s122).Ok f44_1_c f44_1_b := ⟨by kernel_rfl, fun ls Kr Kx => by kernel_rfl⟩
theorem f44_1_q1 : (Cu.cut 1 f44_1_k1 f44_1_o1 f44_1_s1).Ok f44_1_c f44_1_b := ⟨by kernel_rfl, fun ls Kx => by kernel_rfl⟩
theorem f44_1_x (ps : List P) (ls : List Nat) : execFn f44_1_c 44 f44_1_e.tm (explF ps 3 0) ls = (f44_1_t ps).run fun q => altR (f44_1_e.res.map fun f => f ps ls) 0 q some := by kernel_rfl
theorem f44_1_ok : OkEnt Try.prog f44_1_e := ent_ok (c := f44_1_c) (g := 44) (body := f44_1_b) (us := f44_1_u) (n := 3) (t := f44_1_t) (good_envOf _ ⟨f121_1_ok, trivial⟩) Try.func44 rfl Try.call44 rfl ⟨f44_1_q122, f44_1_q1, trivial⟩ (by kernel_rfl) f44_1_x (fun _ => rfl)
/-! ### (*comprador/compradorref35.X).Pop -/
noncomputable def f45_1_k58 : Sk := { t := [(0, .ref 2001 [] (.pair (.slice (.slice .str)) (.pair (.int .i64) .unit))), (5, .imm (.int .i64) .unit), (6, .imm (.int .i64) .unit)], h := [(2001, .obj (.pair (.slice (.slice .str)) (.pair (.int .i64) .unit)) (.imm (.pair (.slice (.slice .str)) (.pair (.int .i64) .unit)) .unit))] }
noncomputable def f45_1_o58 : List (Out × Sk) := [(.ret, { t := [(0, .ref 2001 [] (.pair (.slice (.slice .str)) (.pair (.int .i64) .unit))), (2, .imm (.int .i64) .unit), (3, .imm .str .unit), (4, .imm .bool .unit)], h := [(2001, .obj (.pair (.slice (.slice .str)) (.pair (.int .i64) .unit)) (.pair (.slf 5131 (.slice .str)) (.imm (.pair (.int .i64) .unit) .unit))), (5131, .arr (.slice .str) true [])] }), ((.exit 0), { t := [(0, .ref 2001 [] (.pair (.slice (.slice .str)) (.pair (.int .i64) .unit)))], h := [(2001, .obj (.pair (.slice (.slice .str)) (.pair (.int .i64) .unit)) (.imm (.pair (.slice (.slice .str)) (.pair (.int .i64) .unit)) .unit))] })]
noncomputable def f45_1_s58 (ls : List P) : Tree Step :=
 .ite (decide ((lf ls 1).toInt ≤ (lf ls 0).toInt)) (
  .ite (((lf ls 0).toInt) == 0) (
   .fail) (
   .ite (inb ((IntKind.i64.wrap (((((lf ls 2).snd).fst).toInt) + ((lf ls 1).toInt))).tmod ((lf ls 0).toInt)) ((((lf ls 2).fst).xs).length)) (
    .ite (decide ((((rd (((lf ls 2).fst).xs) (((IntKind.i64.wrap (((((lf ls 2).snd).fst).toInt) + ((lf ls 1).toInt))).tmod ((lf ls 0).toInt)).toNat)).xs).length : Int) > (0 : Int))) (
     .ite (inb ((IntKind.i64.wrap (((((lf ls 2).snd).fst).toInt) + ((lf ls 1).toInt))).tmod ((lf ls 0).toInt)) ((((lf ls 2).fst).xs).length)) (
      .ite (inb (0 : Int) (((rd (((lf ls 2).fst).xs) (((IntKind.i64.wrap (((((lf ls 2).snd).fst).toInt) + ((lf ls 1).toInt))).tmod ((lf ls 0).toInt)).toNat)).xs).length)) (
       .ite (inb ((IntKind.i64.wrap (((((lf ls 2).snd).fst).toInt) + ((lf ls 1).toInt))).tmod ((lf ls 0).toInt)) ((((lf ls 2).fst).xs).length)) (
        .ite (decide ((0 : Int) ≤ (1 : Int) ∧ (1 : Int) ≤ (((rd (((lf ls 2).fst).xs) (((IntKind.i64.wrap (((((lf ls 2).snd).fst).toInt) + ((lf ls 1).toInt))).tmod ((lf ls 0).toInt)).toNat)).xs).length : Int) ∧ (((rd (((lf ls 2).fst).xs) (((IntKind.i64.wrap (((((lf ls 2).snd).fst).toInt) + ((lf ls 1).toInt))).tmod ((lf ls 0).toInt)).toNat)).xs).length : Int) ≤ (((rd (((lf ls 2).fst).xs) (((IntKind.i64.wrap (((((lf ls 2).snd).fst).toInt) + ((lf ls 1).toInt))).tmod ((lf ls 0).toInt)).toNat)).xs).length : Int))) (
         .loop (f121_1_v [lf ls 2, .int .i64 ((IntKind.i64.wrap (((((lf ls 2).snd).fst).toInt) + ((lf ls 1).toInt))).tmod ((lf ls 0).toInt)), .list ((rd (((lf ls 2).fst).xs) (((IntKind.i64.wrap (((((lf ls 2).snd).fst).toInt) + ((lf ls 1).toInt))).tmod ((lf ls 0).toInt)).toNat)).isNil) ((((rd (((lf ls 2).fst).xs) (((IntKind.i64.wrap (((((lf ls 2).snd).fst).toInt) + ((lf ls 1).toInt))).tmod ((lf ls 0).toInt)).toNat)).xs).take ((((rd (((lf ls 2).fst).xs) (((IntKind.i64.wrap (((((lf ls 2).snd).fst).toInt) + ((lf ls 1).toInt))).tmod ((lf ls 0).toInt)).toNat)).xs).length : Int).toNat)).drop 1)]) fun x1 =>
          .ite (Nat.beq x1.1 0) (
           .ret (.inr (0, [.int .i64 ((IntKind.i64.wrap (((((lf ls 2).snd).fst).toInt) + ((lf ls 1).toInt))).tmod ((lf ls 0).toInt)), rd ((rd (((lf ls 2).fst).xs) (((IntKind.i64.wrap (((((lf ls 2).snd).fst).toInt) + ((lf ls 1).toInt))).tmod ((lf ls 0).toInt)).toNat)).xs) 0, .bool true, .pair (.int .i64 ((IntKind.i64.wrap (((((lf ls 2).snd).fst).toInt) + ((lf ls 1).toInt))).tmod ((lf ls 0).toInt))) ((lf x1.2 1).snd), .list ((lf x1.2 0).isNil) ((lf x1.2 0).xs)]))) (
           .fail)) (
         .fail)) (
        .fail)) (
       .fail)) (
      .fail)) (
     .ret (.inl [lf ls 0, .int .i64 (IntKind.i64.wrap (((lf ls 1).toInt) + (1 : Int))), lf ls 2]))) (
    .fail))) (
  .ret (.inr (1, [lf ls 2])))
noncomputable def f45_1_k1 : Sk := { t := [(0, .ref 2001 [] (.pair (.slice (.slice .str)) (.pair (.int .i64) .unit)))], h := [(2001, .obj (.pair (.slice (.slice .str)) (.pair (.int .i64) .unit)) (.imm (.pair (.slice (.slice .str)) (.pair (.int .i64) .unit)) .unit))] }
noncomputable def f45_1_o1 : List (Out × Sk) := [(.ret, { t := [(0, .ref 2001 [] (.pair (.slice (.slice .str)) (.pair (.int .i64) .unit))), (2, .imm (.int .i64) .unit), (3, .imm .str .unit), (4, .imm .bool .unit)], h := [(2001, .obj (.pair (.slice (.slice .str)) (.pair (.int .i64) .unit)) (.imm (.pair (.slice (.slice .str)) (.pair (.int .i64) .unit)) .unit))], z := [0] })]
noncomputable def f45_1_s1 (ls : List P) : Tree (Nat × List P) :=
 .loop (loopT f45_1_s58 FUEL [.int .i64 ((((lf ls 0).fst).xs).length : Int), .int .i64 (1 : Int), lf ls 0]) fun y2 =>
  .ite (Nat.beq y2.1 0) (
   .ret (0, [lf y2.2 0, lf y2.2 1, lf y2.2 2, .pair (.list ((lf y2.2 4).isNil) ((lf y2.2 4).xs)) (lf y2.2 3)])) (
   .ite (Nat.beq y2.1 1) (
    .ret (0, [.int .i64 (0 : Int), .str .empty, .bool false, lf y2.2 0])) (
    .fail))
noncomputable def f45_1_t (ps : List P) : Tree (Nat × List P) :=
 .loop ((f45_1_s1 [lf ps 0]).run some) fun y3 =>
  .ite (Nat.beq y3.1 0) (
   .ret (0, [lf y3.2 0, lf y3.2 1, lf y3.2 2, lf y3.2 3])) (
   .fail)
noncomputable def f45_1_v (ps : List P) : Option (Nat × List P) := (f45_1_t ps).run some
noncomputable def f45_1_e : EntD := ⟨45, [.box (.pair (.slice (.slice .str)) (.pair (.int .i64) .unit)) (.imm (.pair (.slice (.slice .str)) (.pair (.int .i64) .unit)))], f45_1_v, [fun ps ls qs => ⟨[.imm (.int .i64) (lf qs 0), .imm .str (lf qs 1), .imm .bool (lf qs 2)], [.box (ls.getD 0 0) (.pair (.slice (.slice .str)) (.pair (.int .i64) .unit)) (.imm (.pair (.slice (.slice .str)) (.pair (.int .i64) .unit)) (lf qs 3))]⟩]⟩
noncomputable def f45_1_u : List Cu := [.loop 58 f45_1_k58 f45_1_o58 f45_1_s58, .cut 1 f45_1_k1 f45_1_o1 f45_1_s1]
noncomputable def f45_1_c : Cx := ⟨Try.prog, envOf [f121_1_e], 62, lOf f45_1_u, fun _ => false⟩
noncomputable def f45_1_b : Code := match Try.f45.body with | some b => b | none => .skip
theorem f45_1_q58 : (Cu.loop 58 f45_1_k58 f45_1_o58 f45_1_s58).Ok f45_1_c f45_1_b := ⟨by kernel_rfl, fun ls Kr Kx => by kernel_rfl⟩
theorem f45_1_q1 : (Cu.cut 1 f45_1_k1 f45_1_o1 f45_1_s1).Ok f45_1_c f45_1_b := ⟨by kernel_rfl, fun ls Kx => by kernel_rfl⟩
theorem f45_1_x (ps : List P) (ls : List Nat) : execFn f45_1_c 45 f45_1_e.tm (explF ps 1 0) ls = (f45_1_t ps).run fun q => altR (f45_1_e.res.map fun f => f ps ls) 0 q some := by kernel_rfl
theorem f45_1_ok : OkEnt Try.prog f45_1_e := ent_ok (c := f45_1_c) (g := 45) (body := f45_1_b) (us := f45_1_u) (n := 1) (t := f45_1_t) (good_envOf _ ⟨f121_1_ok, trivial⟩) Try.func45 rfl Try.call45 rfl ⟨f45_1_q58, f45_1_q1, trivial⟩ (by kernel_rfl) f45_1_x (fun _ => rfl)
/-! ### (*comprador/compradorref35.X).Clear -/
noncomputable def f46_1_k1 : Sk := { t := [(0, .ref 2001 [] (.pair (.slice (.slice .str)) (.pair (.int .i64) .unit))), (1, .imm (.int .i64) .unit)], h := [(2001, .obj (.pair (.slice (.slice .str)) (.pair (.int .i64) .unit)) (.imm (.pair (.slice (.slice .str)) (.pair (.int .i64) .unit)) .unit))] }
noncomputable def f46_1_o1 : List (Out × Sk) := [(.ret, { t := [(0, .ref 2001 [] (.pair (.slice (.slice .str)) (.pair (.int .i64) .unit))), (4, .imm (.int .i64) .unit)], h := [(2001, .obj (.pair (.slice (.slice .str)) (.pair (.int .i64) .unit)) (.imm (.pair (.slice (.slice .str)) (.pair (.int .i64) .unit)) .unit))], z := [0] })]
noncomputable def f46_1_s1 (ls : List P) : Tree (Nat × List P) :=
 .loop (f122_v [lf ls 1, lf ls 0]) fun x1 =>
  .ite (Nat.beq x1.1 0) (
   .ite (decide ((((lf x1.2 0).xs).length : Int) > (0 : Int))) (
    .loop (f121_1_v [lf ls 1, lf ls 0, .list true []]) fun x2 =>
     .ite (Nat.beq x2.1 0) (
      .ret (0, [.int .i64 (((lf x1.2 0).xs).length : Int), .pair (.list ((lf x2.2 0).isNil) ((lf x2.2 0).xs)) (lf x2.2 1)])) (
      .fail)) (
    .ret (0, [.int .i64 (((lf x1.2 0).xs).length : Int), lf ls 1]))) (
   .fail)
noncomputable def f46_1_t (ps : List P) : Tree (Nat × List P) :=
 .loop ((f46_1_s1 [lf ps 1, lf ps 0]).run some) fun y3 =>
  .ite (Nat.beq y3.1 0) (
   .ret (0, [lf y3.2 0, lf y3.2 1])) (
   .fail)
noncomputable def f46_1_v (ps : List P) : Option (Nat × List P) := (f46_1_t ps).run some
noncomputable def f46_1_e : EntD := ⟨46, [.box (.pair (.slice (.slice .str)) (.pair (.int .i64) .unit)) (.imm (.pair (.slice (.slice .str)) (.pair (.int .i64) .unit))), .imm (.int .i64)], f46_1_v, [fun ps ls qs => ⟨[.imm (.int .i64) (lf qs 0)], [.box (ls.getD 0 0) (.pair (.slice (.slice .str)) (.pair (.int .i64) .unit)) (.imm (.pair (.slice (.slice .str)) (.pair (.int .i64) .unit)) (lf qs 1)), .imm (.int .i64) (lf ps 1)]⟩]⟩
noncomputable def f46_1_u : List Cu := [.cut 1 f46_1_k1 f46_1_o1 f46_1_s1]
noncomputable def f46_1_c : Cx := ⟨Try.prog, envOf [f121_1_e, f122_e], 18, lOf f46_1_u, fun _ => false⟩
noncomputable def f46_1_b : Code := match Try.f46.body with | some b => b | none => .skip
theorem f46_1_q1 : (Cu.cut 1 f46_1_k1 f46_1_o1 f46_1_s1).Ok f46_1_c f46_1_b := ⟨by kernel_rfl, fun ls Kx => by kernel_rfl⟩
theorem f46_1_x (ps : List P) (ls : List Nat) : execFn f46_1_c 46 f46_1_e.tm (explF ps 2 0) ls = (f46_1_t ps).run fun q => altR (f46_1_e.res.map fun f => f ps ls) 0 q some := by kernel_rfl
theorem f46_1_ok : OkEnt Try.prog f46_1_e := ent_ok (c := f46_1_c) (g := 46) (body := f46_1_b) (us := f46_1_u) (n := 2) (t := f46_1_t) (good_envOf _ ⟨f121_1_ok, f122_ok, trivial⟩) Try.func46 rfl Try.call46 rfl ⟨f46_1_q1, trivial⟩ (by kernel_rfl) f46_1_x (fun _ => rfl)
/-! ### (*comprador/compradorref35.X).Strike -/
noncomputable def f47_1_k14922 : Sk := { t := [(0, .ref 2001 [] (.pair (.slice (.slice .str)) (.pair (.int .i64) .unit))), (1, .imm .str .unit), (5, .imm (.int .i64) .unit), (6, .imm (.int .i64) .unit), (7, .slf 7001 .str), (8, .imm (.int .i64) .unit)], h := [(2001, .obj (.pair (.slice (.slice .str)) (.pair (.int .i64) .unit)) (.imm (.pair (.slice (.slice .str)) (.pair (.int .i64) .unit)) .unit)), (7001, .arr .str true [])] }
noncomputable def f47_1_o14922 : List (Out × Sk) := [((.exit 2), { t := [(0, .ref 2001 [] (.pair (.slice (.slice .str)) (.pair (.int .i64) .unit))), (1, .imm .str .unit), (5, .imm (.int .i64) .unit), (6, .imm (.int .i64) .unit), (7, .slf 7031 .str)], h := [(2001, .obj (.pair (.slice (.slice .str)) (.pair (.int .i64) .unit)) (.imm (.pair (.slice (.slice .str)) (.pair (.int .i64) .unit)) .unit)), (7031, .arr .str true [])] })]
noncomputable def f47_1_s14922 (ls : List P) : Tree Step :=
 .ite (inb ((lf ls 2).toInt) ((((lf ls 4).fst).xs).length)) (
  .ite (decide ((lf ls 3).toInt < (((rd (((lf ls 4).fst).xs) (((lf ls 2).toInt).toNat)).xs).length : Int))) (
   .ite (inb ((lf ls 2).toInt) ((((lf ls 4).fst).xs).length)) (
    .ite (inb ((lf ls 3).toInt) (((rd (((lf ls 4).fst).xs) (((lf ls 2).toInt).toNat)).xs).length)) (
     .ite (!(strEq ((rd ((rd (((lf ls 4).fst).xs) (((lf ls 2).toInt).toNat)).xs) (((lf ls 3).toInt).toNat)).toStr) ((lf ls 0).toStr))) (
      .ite (inb ((lf ls 2).toInt) ((((lf ls 4).fst).xs).length)) (
       .ite (inb ((lf ls 3).toInt) (((rd (((lf ls 4).fst).xs) (((lf ls 2).toInt).toNat)).xs).length)) (
        .ite (decide ((((lf ls 5).xs).length + 1) * 16 ≤ 140737488355328)) (
         .ret (.inl [lf ls 0, lf ls 1, lf ls 2, .int .i64 (IntKind.i64.wrap (((lf ls 3).toInt) + (1 : Int))), lf ls 4, .list (((lf ls 5).isNil) && false) (((lf ls 5).xs) ++ ([rd ((rd (((lf ls 4).fst).xs) (((lf ls 2).toInt).toNat)).xs) (((lf ls 3).toInt).toNat)] : List P))])) (
         .fail)) (
        .fail)) (
       .fail)) (
      .ret (.inl [lf ls 0, lf ls 1, lf ls 2, .int .i64 (IntKind.i64.wrap (((lf ls 3).toInt) + (1 : Int))), lf ls 4, .list ((lf ls 5).isNil) ((lf ls 5).xs)]))) (
     .fail)) (
    .fail)) (
   .ret (.inr (0, [lf ls 0, lf ls 1, lf ls 2, lf ls 4, .list ((lf ls 5).isNil) ((lf ls 5).xs)])))) (
  .fail)
noncomputable def f47_1_k58 : Sk := { t := [(0, .ref 2001 [] (.pair (.slice (.slice .str)) (.pair (.int .i64) .unit))), (1, .imm .str .unit), (5, .imm (.int .i64) .unit), (6, .imm (.int .i64) .unit)], h := [(2001, .obj (.pair (.slice (.slice .str)) (.pair (.int .i64) .unit)) (.imm (.pair (.slice (.slice .str)) (.pair (.int .i64) .unit)) .unit))], z := [0] }
noncomputable def f47_1_o58 : List (Out × Sk) := [((.exit 0), { t := [(0, .ref 2001 [] (.pair (.slice (.slice .str)) (.pair (.int .i64) .unit))), (5, .imm (.int .i64) .unit)], h := [(2001, .obj (.pair (.slice (.slice .str)) (.pair (.int .i64) .unit)) (.imm (.pair (.slice (.slice .str)) (.pair (.int .i64) .unit)) .unit))] })]
noncomputable def f47_1_s58 (ls : List P) : Tree Step :=
 .ite (decide ((lf ls 2).toInt < ((((lf ls 3).fst).xs).length : Int))) (
  .loop (loopT f47_1_s14922 FUEL [lf ls 0, lf ls 1, lf ls 2, .int .i64 (0 : Int), lf ls 3, .list true []]) fun y1 =>
   .ite (Nat.beq y1.1 0) (
    .ite (inb ((lf y1.2 2).toInt) ((((lf y1.2 3).fst).xs).length)) (
     .loop (f121_1_v [lf y1.2 3, lf y1.2 2, .list ((lf y1.2 4).isNil) ((lf y1.2 4).xs)]) fun x2 =>
      .ite (Nat.beq x2.1 0) (
       .ret (.inl [lf y1.2 0, .int .i64 (IntKind.i64.wrap ((IntKind.i64.wrap (((lf y1.2 1).toInt) + (((rd (((lf y1.2 3).fst).xs) (((lf y1.2 2).toInt).toNat)).xs).length : Int))) - (((lf y1.2 4).xs).length : Int))), .int .i64 (IntKind.i64.wrap (((lf y1.2 2).toInt) + (1 : Int))), .pair (.list ((lf x2.2 0).isNil) ((lf x2.2 0).xs)) (lf x2.2 1)])) (
       .fail)) (
     .fail)) (
    .fail)) (
  .ret (.inr (0, [lf ls 1, lf ls 3])))
noncomputable def f47_1_t (ps : List P) : Tree (Nat × List P) :=
 .loop (loopT f47_1_s58 FUEL [lf ps 1, .int .i64 (0 : Int), .int .i64 (0 : Int), lf ps 0]) fun y3 =>
  .ite (Nat.beq y3.1 0) (
   .ret (0, [lf y3.2 0, lf y3.2 1])) (
   .fail)
noncomputable def f47_1_v (ps : List P) : Option (Nat × List P) := (f47_1_t ps).run some
noncomputable def f47_1_e : EntD := ⟨47, [.box (.pair (.slice (.slice .str)) (.pair (.int .i64) .unit)) (.imm (.pair (.slice (.slice .str)) (.pair (.int .i64) .unit))), .imm .str], f47_1_v, [fun ps ls qs => ⟨[.imm (.int .i64) (lf qs 0)], [.box (ls.getD 0 0) (.pair (.slice (.slice .str)) (.pair (.int .i64) .unit)) (.imm (.pair (.slice (.slice .str)) (.pair (.int .i64) .unit)) (lf qs 1)), .imm .str (lf ps 1)]⟩]⟩
noncomputable def f47_1_u : List Cu := [.loop 14922 f47_1_k14922 f47_1_o14922 f47_1_s14922, .loop 58 f47_1_k58 f47_1_o58 f47_1_s58]
noncomputable def f47_1_c : Cx := ⟨Try.prog, envOf [f121_1_e], 73, lOf f47_1_u, fun _ => false⟩
noncomputable def f47_1_b : Code := match Try.f47.body with | some b => b | none => .skip
theorem f47_1_q14922 : (Cu.loop 14922 f47_1_k14922 f47_1_o14922 f47_1_s14922).Ok f47_1_c f47_1_b := ⟨by kernel_rfl, fun ls Kr Kx => by kernel_rfl⟩
theorem f47_1_q58 : (Cu.loop 58 f47_1_k58 f47_1_o58 f47_1_s58).Ok f47_1_c f47_1_b := ⟨by kernel_rfl, fun ls Kr Kx => by kernel_rfl⟩
theorem f47_1_x (ps : List P) (ls : List Nat) : execFn f47_1_c 47 f47_1_e.tm (explF ps 2 0) ls = (f47_1_t ps).run fun q => altR (f47_1_e.res.map fun f => f ps ls) 0 q some := by kernel_rfl
theorem f47_1_ok : OkEnt Try.prog f47_1_e := ent_ok (c := f47_1_c) (g := 47) (body := f47_1_b) (us := f47_1_u) (n := 2) (t := f47_1_t) (good_envOf _ ⟨f121_1_ok, trivial⟩) Try.func47 rfl Try.call47 rfl ⟨f47_1_q14922, f47_1_q58, trivial⟩ (by kernel_rfl) f47_1_x (fun _ => rfl)
/-! ### (*comprador/turn.Turn).Clear -/
noncomputable def f42_1_t (ps : List P) : Tree (Nat × List P) :=
 .loop (f110_1_v [lf ps 0, lf ps 1]) fun x1 =>
  .ite (Nat.beq x1.1 0) (
   .ret (0, [.int .i64 (0 : Int)])) (
   .fail)
noncomputable def f42_1_v (ps : List P) : Option (Nat × List P) := (f42_1_t ps).run some
noncomputable def f42_1_e : EntD := ⟨42, [.imm .ptr, .imm (.int .i64)], f42_1_v, [fun ps ls qs => ⟨[.imm (.int .i64) (lf qs 0)], [.imm .ptr (lf ps 0), .imm (.int .i64) (lf ps 1)]⟩]⟩
noncomputable def f42_1_u : List Cu := []
noncomputable def f42_1_c : Cx := ⟨Try.prog, envOf [f110_1_e], 13, lOf f42_1_u, fun _ => false⟩
noncomputable def f42_1_b : Code := match Try.f42.body with | some b => b | none => .skip
theorem f42_1_x (ps : List P) (ls : List Nat) : execFn f42_1_c 42 f42_1_e.tm (explF ps 2 0) ls = (f42_1_t ps).run fun q => altR (f42_1_e.res.map fun f => f ps ls) 0 q some := by kernel_rfl
theorem f42_1_ok : OkEnt Try.prog f42_1_e := ent_ok (c := f42_1_c) (g := 42) (body := f42_1_b) (us := f42_1_u) (n := 2) (t := f42_1_t) (good_envOf _ ⟨f110_1_ok, trivial⟩) Try.func42 rfl Try.call42 rfl trivial (by kernel_rfl) f42_1_x (fun _ => rfl)
/-! ### (*comprador/turn.Turn).Strike -/
noncomputable def f43_1_t (ps : List P) : Tree (Nat × List P) :=
 .ret (0, [.int .i64 (0 : Int)])
noncomputable def f43_1_v (ps : List P) : Option (Nat × List P) := (f43_1_t ps).run some
noncomputable def f43_1_e : EntD := ⟨43, [.imm .ptr, .imm .str], f43_1_v, [fun ps ls qs => ⟨[.imm (.int .i64) (lf qs 0)], [.imm .ptr (lf ps 0), .imm .str (lf ps 1)]⟩]⟩
noncomputable def f43_1_u : List Cu := []
noncomputable def f43_1_c : Cx := ⟨Try.prog, envOf [], 29, lOf f43_1_u, fun _ => false⟩
noncomputable def f43_1_b : Code := match Try.f43.body with | some b => b | none => .skip
theorem f43_1_x (ps : List P) (ls : List Nat) : execFn f43_1_c 43 f43_1_e.tm (explF ps 2 0) ls = (f43_1_t ps).run fun q => altR (f43_1_e.res.map fun f => f ps ls) 0 q some := by kernel_rfl
theorem f43_1_ok : OkEnt Try.prog f43_1_e := ent_ok (c := f43_1_c) (g := 43) (body := f43_1_b) (us := f43_1_u) (n := 2) (t := f43_1_t) (good_envOf _ trivial) Try.func43 rfl Try.call43 rfl trivial (by kernel_rfl) f43_1_x (fun _ => rfl)
/-! ### (*comprador/turn.Turn).Len -/
noncomputable def f29_1_t (ps : List P) : Tree (Nat × List P) :=
 .ret (0, [.int .i64 (0 : Int)])
noncomputable def f29_1_v (ps : List P) : Option (Nat × List P) := (f29_1_t ps).run some
noncomputable def f29_1_e : EntD := ⟨29, [.imm .ptr], f29_1_v, [fun ps ls qs => ⟨[.imm (.int .i64) (lf qs 0)], [.imm .ptr (lf ps 0)]⟩]⟩
noncomputable def f29_1_u : List Cu := []
noncomputable def f29_1_c : Cx := ⟨Try.prog, envOf [], 24, lOf f29_1_u, fun _ => false⟩
noncomputable def f29_1_b : Code := match Try.f29.body with | some b => b | none => .skip
theorem f29_1_x (ps : List P) (ls : List Nat) : execFn f29_1_c 29 f29_1_e.tm (explF ps 1 0) ls = (f29_1_t ps).run fun q => altR (f29_1_e.res.map fun f => f ps ls) 0 q some := by kernel_rfl
theorem f29_1_ok : OkEnt Try.prog f29_1_e := ent_ok (c := f29_1_c) (g := 29) (body := f29_1_b) (us := f29_1_u) (n := 1) (t := f29_1_t) (good_envOf _ trivial) Try.func29 rfl Try.call29 rfl trivial (by kernel_rfl) f29_1_x (fun _ => rfl)
/-! ### (*comprador/turn.Turn).List -/
noncomputable def f30_1_t (ps : List P) : Tree (Nat × List P) :=
 .loop (f110_1_v [lf ps 0, lf ps 1]) fun x1 =>
  .ite (Nat.beq x1.1 0) (
   .ret (0, [])) (
   .fail)
noncomputable def f30_1_v (ps : List P) : Option (Nat × List P) := (f30_1_t ps).run some
noncomputable def f30_1_e : EntD := ⟨30, [.imm .ptr, .imm (.int .i64)], f30_1_v, [fun ps ls qs => ⟨[.imm (.slice .str) (.list true [])], [.imm .ptr (lf ps 0), .imm (.int .i64) (lf ps 1)]⟩]⟩
noncomputable def f30_1_u : List Cu := []
noncomputable def f30_1_c : Cx := ⟨Try.prog, envOf [f110_1_e], 16, lOf f30_1_u, fun _ => false⟩
noncomputable def f30_1_b : Code := match Try.f30.body with | some b => b | none => .skip
theorem f30_1_x (ps : List P) (ls : List Nat) : execFn f30_1_c 30 f30_1_e.tm (explF ps 2 0) ls = (f30_1_t ps).run fun q => altR (f30_1_e.res.map fun f => f ps ls) 0 q some := by kernel_rfl
theorem f30_1_ok : OkEnt Try.prog f30_1_e := ent_ok (c := f30_1_c) (g := 30) (body := f30_1_b) (us := f30_1_u) (n := 2) (t := f30_1_t) (good_envOf _ ⟨f110_1_ok, trivial⟩) Try.func30 rfl Try.call30 rfl trivial (by kernel_rfl) f30_1_x (fun _ => rfl)
end Go.Proofs.Ytjemihhhkhdbeaa
