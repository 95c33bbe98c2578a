/- Functions: what each tells. Conditions: none. -/
import Derived.Test.YtjemihhhkhdbeaaFSp3
open Go Go.Eng Go.Proofs
set_option pp.deepTerms true
set_option linter.unusedVariables false
namespace Go.Proofs.Ytjemihhhkhdbeaa
/-! ### slices.IndexFunc[[]int,int] -/
noncomputable def f169_4_k26 : Sk := { t := [(0, .slf 2001 (.int .i64)), (1, .fn 117 (.pair (.ref 2002 [] .ptr) (.imm .unit .unit))), (7, .imm (.int .i64) .unit), (8, .imm (.int .i64) .unit)], h := [(2001, .arr (.int .i64) true []), (2002, .obj .ptr (.ref 2003 [] (.pair (.slice (.pair (.slice (.pair .str (.pair (.slice (.pair (.int .i64) (.pair (.int .i64) .unit))) (.pair .bool .unit)))) (.pair (.int .i64) (.pair .bool (.pair .bool .unit))))) (.pair .map .unit)))), (2003, .obj (.pair (.slice (.pair (.slice (.pair .str (.pair (.slice (.pair (.int .i64) (.pair (.int .i64) .unit))) (.pair .bool .unit)))) (.pair (.int .i64) (.pair .bool (.pair .bool .unit))))) (.pair .map .unit)) (.pair (.slf 2004 (.pair (.slice (.pair .str (.pair (.slice (.pair (.int .i64) (.pair (.int .i64) .unit))) (.pair .bool .unit)))) (.pair (.int .i64) (.pair .bool (.pair .bool .unit))))) (.pair (.blk 2005 (.mt .str (.slice (.int .i64)))) (.imm .unit .unit)))), (2004, .arr (.pair (.slice (.pair .str (.pair (.slice (.pair (.int .i64) (.pair (.int .i64) .unit))) (.pair .bool .unit)))) (.pair (.int .i64) (.pair .bool (.pair .bool .unit)))) true []), (2005, .blk (.mt .str (.slice (.int .i64))) .unit)] }
noncomputable def f169_4_o26 : List (Out × Sk) := [(.ret, { t := [(0, .slf 2001 (.int .i64)), (1, .fn 117 (.pair (.ref 2002 [] .ptr) (.imm .unit .unit))), (4, .imm (.int .i64) .unit)], h := [(2001, .arr (.int .i64) true []), (2002, .obj .ptr (.ref 2003 [] (.pair (.slice (.pair (.slice (.pair .str (.pair (.slice (.pair (.int .i64) (.pair (.int .i64) .unit))) (.pair .bool .unit)))) (.pair (.int .i64) (.pair .bool (.pair .bool .unit))))) (.pair .map .unit)))), (2003, .obj (.pair (.slice (.pair (.slice (.pair .str (.pair (.slice (.pair (.int .i64) (.pair (.int .i64) .unit))) (.pair .bool .unit)))) (.pair (.int .i64) (.pair .bool (.pair .bool .unit))))) (.pair .map .unit)) (.pair (.slf 2004 (.pair (.slice (.pair .str (.pair (.slice (.pair (.int .i64) (.pair (.int .i64) .unit))) (.pair .bool .unit)))) (.pair (.int .i64) (.pair .bool (.pair .bool .unit))))) (.pair (.blk 2005 (.mt .str (.slice (.int .i64)))) (.imm .unit .unit)))), (2004, .arr (.pair (.slice (.pair .str (.pair (.slice (.pair (.int .i64) (.pair (.int .i64) .unit))) (.pair .bool .unit)))) (.pair (.int .i64) (.pair .bool (.pair .bool .unit)))) true []), (2005, .blk (.mt .str (.slice (.int .i64))) .unit)] }), ((.exit 0), { t := [(0, .slf 2001 (.int .i64)), (1, .fn 117 (.pair (.ref 2002 [] .ptr) (.imm .unit .unit)))], h := [(2001, .arr (.int .i64) true []), (2002, .obj .ptr (.ref 2003 [] (.pair (.slice (.pair (.slice (.pair .str (.pair (.slice (.pair (.int .i64) (.pair (.int .i64) .unit))) (.pair .bool .unit)))) (.pair (.int .i64) (.pair .bool (.pair .bool .unit))))) (.pair .map .unit)))), (2003, .obj (.pair (.slice (.pair (.slice (.pair .str (.pair (.slice (.pair (.int .i64) (.pair (.int .i64) .unit))) (.pair .bool .unit)))) (.pair (.int .i64) (.pair .bool (.pair .bool .unit))))) (.pair .map .unit)) (.pair (.slf 2004 (.pair (.slice (.pair .str (.pair (.slice (.pair (.int .i64) (.pair (.int .i64) .unit))) (.pair .bool .unit)))) (.pair (.int .i64) (.pair .bool (.pair .bool .unit))))) (.pair (.blk 2005 (.mt .str (.slice (.int .i64)))) (.imm .unit .unit)))), (2004, .arr (.pair (.slice (.pair .str (.pair (.slice (.pair (.int .i64) (.pair (.int .i64) .unit))) (.pair .bool .unit)))) (.pair (.int .i64) (.pair .bool (.pair .bool .unit)))) true []), (2005, .blk (.mt .str (.slice (.int .i64))) .unit)] })]
noncomputable def f169_4_s26 (ls : List P) : Tree Step :=
 .ite (decide ((lf ls 2).toInt < (lf ls 1).toInt)) (
  .ite (inb ((lf ls 2).toInt) (((lf ls 3).xs).length)) (
   .loop (f117_v [rd ((lf ls 3).xs) (((lf ls 2).toInt).toNat), .list ((lf ls 5).isNil) ((lf ls 5).xs), lf ls 6, lf ls 4]) fun x1 =>
    .ite (Nat.beq x1.1 0) (
     .ite ((lf x1.2 0).toBool) (
      .ret (.inr (0, [lf ls 0, lf ls 2, .list ((lf ls 3).isNil) ((lf ls 3).xs), lf ls 4, .list ((lf ls 5).isNil) ((lf ls 5).xs), lf ls 6]))) (
      .ret (.inl [lf ls 0, lf ls 1, .int .i64 (IntKind.i64.wrap (((lf ls 2).toInt) + (1 : Int))), .list ((lf ls 3).isNil) ((lf ls 3).xs), lf ls 4, .list ((lf ls 5).isNil) ((lf ls 5).xs), lf ls 6]))) (
     .fail)) (
   .fail)) (
  .ret (.inr (1, [lf ls 0, .list ((lf ls 3).isNil) ((lf ls 3).xs), lf ls 4, .list ((lf ls 5).isNil) ((lf ls 5).xs), lf ls 6])))
noncomputable def f169_4_t (ps : List P) : Tree (Nat × List P) :=
 .loop (loopT f169_4_s26 FUEL [lf ps 4, .int .i64 (((lf ps 0).xs).length : Int), .int .i64 (0 : Int), .list ((lf ps 0).isNil) ((lf ps 0).xs), lf ps 3, .list ((lf ps 1).isNil) ((lf ps 1).xs), lf ps 2]) fun y2 =>
  .ite (Nat.beq y2.1 0) (
   .ret (0, [lf y2.2 1, .list ((lf y2.2 2).isNil) ((lf y2.2 2).xs), .list ((lf y2.2 4).isNil) ((lf y2.2 4).xs), lf y2.2 5, lf y2.2 3])) (
   .ite (Nat.beq y2.1 1) (
    .ret (0, [.int .i64 (-1 : Int), .list ((lf y2.2 1).isNil) ((lf y2.2 1).xs), .list ((lf y2.2 3).isNil) ((lf y2.2 3).xs), lf y2.2 4, lf y2.2 2])) (
    .fail))
noncomputable def f169_4_v (ps : List P) : Option (Nat × List P) := (f169_4_t ps).run some
noncomputable def f169_4_e : EntD := ⟨169, [.own (.int .i64), .fn 117 (.pair (.box .ptr (.box (.pair (.slice (.pair (.slice (.pair .str (.pair (.slice (.pair (.int .i64) (.pair (.int .i64) .unit))) (.pair .bool .unit)))) (.pair (.int .i64) (.pair .bool (.pair .bool .unit))))) (.pair .map .unit)) (.pair (.own (.pair (.slice (.pair .str (.pair (.slice (.pair (.int .i64) (.pair (.int .i64) .unit))) (.pair .bool .unit)))) (.pair (.int .i64) (.pair .bool (.pair .bool .unit))))) (.pair (.blk (.mt .str (.slice (.int .i64)))) (.imm .unit))))) (.imm .unit))], f169_4_v, [fun ps ls qs => ⟨[.imm (.int .i64) (lf qs 0)], [.own (ls.getD 0 0) (.int .i64) (lf qs 1).isNil (lf qs 1).xs, .fn 117 (.pair (.box (ls.getD 1 0) .ptr (.box (ls.getD 2 0) (.pair (.slice (.pair (.slice (.pair .str (.pair (.slice (.pair (.int .i64) (.pair (.int .i64) .unit))) (.pair .bool .unit)))) (.pair (.int .i64) (.pair .bool (.pair .bool .unit))))) (.pair .map .unit)) (.pair (.own (ls.getD 3 0) (.pair (.slice (.pair .str (.pair (.slice (.pair (.int .i64) (.pair (.int .i64) .unit))) (.pair .bool .unit)))) (.pair (.int .i64) (.pair .bool (.pair .bool .unit)))) (lf qs 2).isNil (lf qs 2).xs) (.pair (.blk (ls.getD 4 0) (.mt .str (.slice (.int .i64))) (lf qs 3)) (.imm .unit (lf qs 4)))))) (.imm .unit (lf ps 4)))]⟩]⟩
noncomputable def f169_4_u : List Cu := [.loop 26 f169_4_k26 f169_4_o26 f169_4_s26]
noncomputable def f169_4_c : Cx := ⟨Try.prog, envOf [f117_e], 19, lOf f169_4_u, fun _ => false⟩
noncomputable def f169_4_b : Code := match Try.f169.body with | some b => b | none => .skip
theorem f169_4_q26 : (Cu.loop 26 f169_4_k26 f169_4_o26 f169_4_s26).Ok f169_4_c f169_4_b := ⟨by kernel_rfl, fun ls Kr Kx => by kernel_rfl⟩
theorem f169_4_x (ps : List P) (ls : List Nat) : execFn f169_4_c 169 f169_4_e.tm (explF ps 5 0) ls = (f169_4_t ps).run fun q => altR (f169_4_e.res.map fun f => f ps ls) 0 q some := by kernel_rfl
theorem f169_4_ok : OkEnt Try.prog f169_4_e := ent_ok (c := f169_4_c) (g := 169) (body := f169_4_b) (us := f169_4_u) (n := 5) (t := f169_4_t) (good_envOf _ ⟨f117_ok, trivial⟩) Try.func169 rfl Try.call169 rfl ⟨f169_4_q26, trivial⟩ (by kernel_rfl) f169_4_x (fun _ => rfl)
/-! ### slices.DeleteFunc[[]int,int] -/
noncomputable def f114_4_k122 : Sk := { t := [(0, .slf 2001 (.int .i64)), (1, .fn 117 (.pair (.ref 2002 [] .ptr) (.imm .unit .unit))), (5, .imm (.int .i64) .unit), (6, .imm (.int .i64) .unit)], h := [(2001, .arr (.int .i64) true []), (2002, .obj .ptr (.ref 2003 [] (.pair (.slice (.pair (.slice (.pair .str (.pair (.slice (.pair (.int .i64) (.pair (.int .i64) .unit))) (.pair .bool .unit)))) (.pair (.int .i64) (.pair .bool (.pair .bool .unit))))) (.pair .map .unit)))), (2003, .obj (.pair (.slice (.pair (.slice (.pair .str (.pair (.slice (.pair (.int .i64) (.pair (.int .i64) .unit))) (.pair .bool .unit)))) (.pair (.int .i64) (.pair .bool (.pair .bool .unit))))) (.pair .map .unit)) (.pair (.slf 2004 (.pair (.slice (.pair .str (.pair (.slice (.pair (.int .i64) (.pair (.int .i64) .unit))) (.pair .bool .unit)))) (.pair (.int .i64) (.pair .bool (.pair .bool .unit))))) (.pair (.blk 2005 (.mt .str (.slice (.int .i64)))) (.imm .unit .unit)))), (2004, .arr (.pair (.slice (.pair .str (.pair (.slice (.pair (.int .i64) (.pair (.int .i64) .unit))) (.pair .bool .unit)))) (.pair (.int .i64) (.pair .bool (.pair .bool .unit)))) true []), (2005, .blk (.mt .str (.slice (.int .i64))) .unit)] }
noncomputable def f114_4_o122 : List (Out × Sk) := [((.exit 0), { t := [(0, .slf 2001 (.int .i64)), (1, .fn 117 (.pair (.ref 2002 [] .ptr) (.imm .unit .unit))), (5, .imm (.int .i64) .unit)], h := [(2001, .arr (.int .i64) true []), (2002, .obj .ptr (.ref 2003 [] (.pair (.slice (.pair (.slice (.pair .str (.pair (.slice (.pair (.int .i64) (.pair (.int .i64) .unit))) (.pair .bool .unit)))) (.pair (.int .i64) (.pair .bool (.pair .bool .unit))))) (.pair .map .unit)))), (2003, .obj (.pair (.slice (.pair (.slice (.pair .str (.pair (.slice (.pair (.int .i64) (.pair (.int .i64) .unit))) (.pair .bool .unit)))) (.pair (.int .i64) (.pair .bool (.pair .bool .unit))))) (.pair .map .unit)) (.pair (.slf 2004 (.pair (.slice (.pair .str (.pair (.slice (.pair (.int .i64) (.pair (.int .i64) .unit))) (.pair .bool .unit)))) (.pair (.int .i64) (.pair .bool (.pair .bool .unit))))) (.pair (.blk 2005 (.mt .str (.slice (.int .i64)))) (.imm .unit .unit)))), (2004, .arr (.pair (.slice (.pair .str (.pair (.slice (.pair (.int .i64) (.pair (.int .i64) .unit))) (.pair .bool .unit)))) (.pair (.int .i64) (.pair .bool (.pair .bool .unit)))) true []), (2005, .blk (.mt .str (.slice (.int .i64))) .unit)] })]
noncomputable def f114_4_s122 (ls : List P) : Tree Step :=
 .ite (decide ((lf ls 2).toInt < (((lf ls 3).xs).length : Int))) (
  .ite (inb ((lf ls 2).toInt) (((lf ls 3).xs).length)) (
   .loop (f117_v [rd ((lf ls 3).xs) (((lf ls 2).toInt).toNat), .list ((lf ls 5).isNil) ((lf ls 5).xs), lf ls 6, lf ls 4]) fun x2 =>
    .ite (Nat.beq x2.1 0) (
     .ite (!((lf x2.2 0).toBool)) (
      .ite (inb ((lf ls 1).toInt) (((lf ls 3).xs).length)) (
       .ret (.inl [lf ls 0, .int .i64 (IntKind.i64.wrap (((lf ls 1).toInt) + (1 : Int))), .int .i64 (IntKind.i64.wrap (((lf ls 2).toInt) + (1 : Int))), .list ((lf ls 3).isNil) (((lf ls 3).xs).set (((lf ls 1).toInt).toNat) (rd ((lf ls 3).xs) (((lf ls 2).toInt).toNat))), lf ls 4, .list ((lf ls 5).isNil) ((lf ls 5).xs), lf ls 6])) (
       .fail)) (
      .ret (.inl [lf ls 0, lf ls 1, .int .i64 (IntKind.i64.wrap (((lf ls 2).toInt) + (1 : Int))), .list ((lf ls 3).isNil) ((lf ls 3).xs), lf ls 4, .list ((lf ls 5).isNil) ((lf ls 5).xs), lf ls 6]))) (
     .fail)) (
   .fail)) (
  .ret (.inr (0, [lf ls 0, lf ls 1, .list ((lf ls 3).isNil) ((lf ls 3).xs), lf ls 4, .list ((lf ls 5).isNil) ((lf ls 5).xs), lf ls 6])))
noncomputable def f114_4_t (ps : List P) : Tree (Nat × List P) :=
 .loop (f169_4_v [.list ((lf ps 0).isNil) ((lf ps 0).xs), .list ((lf ps 1).isNil) ((lf ps 1).xs), lf ps 2, lf ps 3, lf ps 4]) fun x1 =>
  .ite (Nat.beq x1.1 0) (
   .ite (((lf x1.2 0).toInt) == (-1 : Int)) (
    .ret (0, [.list ((lf x1.2 1).isNil) ((lf x1.2 1).xs), .list ((lf x1.2 2).isNil) ((lf x1.2 2).xs), lf x1.2 3, lf x1.2 4])) (
    .loop (loopT f114_4_s122 FUEL [lf ps 4, lf x1.2 0, .int .i64 (IntKind.i64.wrap (((lf x1.2 0).toInt) + (1 : Int))), .list ((lf x1.2 1).isNil) ((lf x1.2 1).xs), lf x1.2 4, .list ((lf x1.2 2).isNil) ((lf x1.2 2).xs), lf x1.2 3]) fun y3 =>
     .ite (Nat.beq y3.1 0) (
      .ite (decide ((0 : Int) ≤ (lf y3.2 1).toInt ∧ (lf y3.2 1).toInt ≤ (((lf y3.2 2).xs).length : Int) ∧ (((lf y3.2 2).xs).length : Int) ≤ (((lf y3.2 2).xs).length : Int))) (
       .ite (decide ((0 : Int) ≤ (0 : Int) ∧ (0 : Int) ≤ (lf y3.2 1).toInt ∧ (lf y3.2 1).toInt ≤ ((clr (((lf y3.2 1).toInt).toNat) (((((lf y3.2 2).xs).length : Int).toNat) - (((lf y3.2 1).toInt).toNat)) (.int .i64 (0 : Int)) ((lf y3.2 2).xs)).length : Int))) (
        .ret (1, [.int .i64 (0 : Int), .int .i64 ((((lf y3.2 1).toInt).toNat) - 0 : Int), .list ((lf y3.2 2).isNil) (clr (((lf y3.2 1).toInt).toNat) (((((lf y3.2 2).xs).length : Int).toNat) - (((lf y3.2 1).toInt).toNat)) (.int .i64 (0 : Int)) ((lf y3.2 2).xs)), .list ((lf y3.2 4).isNil) ((lf y3.2 4).xs), lf y3.2 5, lf y3.2 3])) (
        .fail)) (
       .fail)) (
      .fail))) (
   .fail)
noncomputable def f114_4_v (ps : List P) : Option (Nat × List P) := (f114_4_t ps).run some
noncomputable def f114_4_e : EntD := ⟨114, [.own (.int .i64), .fn 117 (.pair (.box .ptr (.box (.pair (.slice (.pair (.slice (.pair .str (.pair (.slice (.pair (.int .i64) (.pair (.int .i64) .unit))) (.pair .bool .unit)))) (.pair (.int .i64) (.pair .bool (.pair .bool .unit))))) (.pair .map .unit)) (.pair (.own (.pair (.slice (.pair .str (.pair (.slice (.pair (.int .i64) (.pair (.int .i64) .unit))) (.pair .bool .unit)))) (.pair (.int .i64) (.pair .bool (.pair .bool .unit))))) (.pair (.blk (.mt .str (.slice (.int .i64)))) (.imm .unit))))) (.imm .unit))], f114_4_v, [fun ps ls qs => ⟨[.ali (ls.getD 0 0)], [.own (ls.getD 0 0) (.int .i64) (lf qs 0).isNil (lf qs 0).xs, .fn 117 (.pair (.box (ls.getD 1 0) .ptr (.box (ls.getD 2 0) (.pair (.slice (.pair (.slice (.pair .str (.pair (.slice (.pair (.int .i64) (.pair (.int .i64) .unit))) (.pair .bool .unit)))) (.pair (.int .i64) (.pair .bool (.pair .bool .unit))))) (.pair .map .unit)) (.pair (.own (ls.getD 3 0) (.pair (.slice (.pair .str (.pair (.slice (.pair (.int .i64) (.pair (.int .i64) .unit))) (.pair .bool .unit)))) (.pair (.int .i64) (.pair .bool (.pair .bool .unit)))) (lf qs 1).isNil (lf qs 1).xs) (.pair (.blk (ls.getD 4 0) (.mt .str (.slice (.int .i64))) (lf qs 2)) (.imm .unit (lf qs 3)))))) (.imm .unit (lf ps 4)))]⟩, fun ps ls qs => ⟨[.alw (ls.getD 0 0) ((lf qs 0)).toInt.toNat ((lf qs 1)).toInt.toNat], [.own (ls.getD 0 0) (.int .i64) (lf qs 2).isNil (lf qs 2).xs, .fn 117 (.pair (.box (ls.getD 1 0) .ptr (.box (ls.getD 2 0) (.pair (.slice (.pair (.slice (.pair .str (.pair (.slice (.pair (.int .i64) (.pair (.int .i64) .unit))) (.pair .bool .unit)))) (.pair (.int .i64) (.pair .bool (.pair .bool .unit))))) (.pair .map .unit)) (.pair (.own (ls.getD 3 0) (.pair (.slice (.pair .str (.pair (.slice (.pair (.int .i64) (.pair (.int .i64) .unit))) (.pair .bool .unit)))) (.pair (.int .i64) (.pair .bool (.pair .bool .unit)))) (lf qs 3).isNil (lf qs 3).xs) (.pair (.blk (ls.getD 4 0) (.mt .str (.slice (.int .i64))) (lf qs 4)) (.imm .unit (lf qs 5)))))) (.imm .unit (lf ps 4)))]⟩]⟩
noncomputable def f114_4_u : List Cu := [.loop 122 f114_4_k122 f114_4_o122 f114_4_s122]
noncomputable def f114_4_c : Cx := ⟨Try.prog, envOf [f117_e, f169_3_e, f169_4_e], 42, lOf f114_4_u, fun _ => false⟩
noncomputable def f114_4_b : Code := match Try.f114.body with | some b => b | none => .skip
theorem f114_4_q122 : (Cu.loop 122 f114_4_k122 f114_4_o122 f114_4_s122).Ok f114_4_c f114_4_b := ⟨by kernel_rfl, fun ls Kr Kx => by kernel_rfl⟩
theorem f114_4_x (ps : List P) (ls : List Nat) : execFn f114_4_c 114 f114_4_e.tm (explF ps 5 0) ls = (f114_4_t ps).run fun q => altR (f114_4_e.res.map fun f => f ps ls) 0 q some := by kernel_rfl
theorem f114_4_ok : OkEnt Try.prog f114_4_e := ent_ok (c := f114_4_c) (g := 114) (body := f114_4_b) (us := f114_4_u) (n := 5) (t := f114_4_t) (good_envOf _ ⟨f117_ok, f169_3_ok, f169_4_ok, trivial⟩) Try.func114 rfl Try.call114 rfl ⟨f114_4_q122, trivial⟩ (by kernel_rfl) f114_4_x (fun _ => rfl)
/-! ### (*comprador/store.Store).About -/
noncomputable def f36_1_t (ps : List P) : Tree (Nat × List P) :=
 .loop (f116_v [lookP .str (lf ps 3) (.list true []) ((lf ps 1).xs)]) fun x1 =>
  .ite (Nat.beq x1.1 0) (
   .loop (f114_4_v [.list ((lf x1.2 0).isNil) ((lf x1.2 0).xs), .list ((lf ps 0).isNil) ((lf ps 0).xs), lf ps 1, lf ps 2, .unit]) fun x2 =>
    .ite (Nat.beq x2.1 0) (
     .ret (1, [.list ((lf x2.2 0).isNil) ((lf x2.2 0).xs), .list ((lf x2.2 1).isNil) ((lf x2.2 1).xs), lf x2.2 2, lf x2.2 3])) (
     .ite (Nat.beq x2.1 1) (
      .ret (0, [.list ((lf x2.2 2).isNil) (winOf (((lf x2.2 0).toInt).toNat) (((lf x2.2 1).toInt).toNat) ((lf x2.2 2).xs)), .list ((lf x2.2 3).isNil) ((lf x2.2 3).xs), lf x2.2 4, lf x2.2 5])) (
      .fail))) (
   .fail)
noncomputable def f36_1_v (ps : List P) : Option (Nat × List P) := (f36_1_t ps).run some
noncomputable def f36_1_e : EntD := ⟨36, [.box (.pair (.slice (.pair (.slice (.pair .str (.pair (.slice (.pair (.int .i64) (.pair (.int .i64) .unit))) (.pair .bool .unit)))) (.pair (.int .i64) (.pair .bool (.pair .bool .unit))))) (.pair .map .unit)) (.pair (.own (.pair (.slice (.pair .str (.pair (.slice (.pair (.int .i64) (.pair (.int .i64) .unit))) (.pair .bool .unit)))) (.pair (.int .i64) (.pair .bool (.pair .bool .unit))))) (.pair (.blk (.mt .str (.slice (.int .i64)))) (.imm .unit))), .imm .str], f36_1_v, [fun ps ls qs => ⟨[.own 0 (.int .i64) (lf qs 0).isNil (lf qs 0).xs], [.box (ls.getD 0 0) (.pair (.slice (.pair (.slice (.pair .str (.pair (.slice (.pair (.int .i64) (.pair (.int .i64) .unit))) (.pair .bool .unit)))) (.pair (.int .i64) (.pair .bool (.pair .bool .unit))))) (.pair .map .unit)) (.pair (.own (ls.getD 1 0) (.pair (.slice (.pair .str (.pair (.slice (.pair (.int .i64) (.pair (.int .i64) .unit))) (.pair .bool .unit)))) (.pair (.int .i64) (.pair .bool (.pair .bool .unit)))) (lf qs 1).isNil (lf qs 1).xs) (.pair (.blk (ls.getD 2 0) (.mt .str (.slice (.int .i64))) (lf qs 2)) (.imm .unit (lf qs 3)))), .imm .str (lf ps 3)]⟩, fun ps ls qs => ⟨[.own (ls.getD 99299 0) (.int .i64) (lf qs 0).isNil (lf qs 0).xs], [.box (ls.getD 0 0) (.pair (.slice (.pair (.slice (.pair .str (.pair (.slice (.pair (.int .i64) (.pair (.int .i64) .unit))) (.pair .bool .unit)))) (.pair (.int .i64) (.pair .bool (.pair .bool .unit))))) (.pair .map .unit)) (.pair (.own (ls.getD 1 0) (.pair (.slice (.pair .str (.pair (.slice (.pair (.int .i64) (.pair (.int .i64) .unit))) (.pair .bool .unit)))) (.pair (.int .i64) (.pair .bool (.pair .bool .unit)))) (lf qs 1).isNil (lf qs 1).xs) (.pair (.blk (ls.getD 2 0) (.mt .str (.slice (.int .i64))) (lf qs 2)) (.imm .unit (lf qs 3)))), .imm .str (lf ps 3)]⟩]⟩
noncomputable def f36_1_u : List Cu := []
noncomputable def f36_1_c : Cx := ⟨Try.prog, envOf [f114_3_e, f114_4_e, f116_e], 16, lOf f36_1_u, fun _ => false⟩
noncomputable def f36_1_b : Code := match Try.f36.body with | some b => b | none => .skip
theorem f36_1_x (ps : List P) (ls : List Nat) : execFn f36_1_c 36 f36_1_e.tm (explF ps 4 0) ls = (f36_1_t ps).run fun q => altR (f36_1_e.res.map fun f => f ps ls) 0 q some := by kernel_rfl
theorem f36_1_ok : OkEnt Try.prog f36_1_e := ent_ok (c := f36_1_c) (g := 36) (body := f36_1_b) (us := f36_1_u) (n := 4) (t := f36_1_t) (good_envOf _ ⟨f114_3_ok, f114_4_ok, f116_ok, trivial⟩) Try.func36 rfl Try.call36 rfl trivial (by kernel_rfl) f36_1_x (fun _ => rfl)
/-! ### comprador/compradorref19.Find -/
noncomputable def f118_k26 : Sk := { t := [(0, .imm (.slice (.pair .str (.pair (.slice (.pair (.int .i64) (.pair (.int .i64) .unit))) (.pair .bool .unit)))) .unit), (1, .imm .str .unit), (4, .ref 4900 [] (.pair .str (.pair (.slice (.pair (.int .i64) (.pair (.int .i64) .unit))) (.pair .bool .unit)))), (6, .imm (.int .i64) .unit)], h := [(4900, .obj (.pair .str (.pair (.slice (.pair (.int .i64) (.pair (.int .i64) .unit))) (.pair .bool .unit))) (.imm (.pair .str (.pair (.slice (.pair (.int .i64) (.pair (.int .i64) .unit))) (.pair .bool .unit))) .unit))] }
noncomputable def f118_o26 : List (Out × Sk) := [(.ret, { t := [(4, .ref 4930 [] (.pair .str (.pair (.slice (.pair (.int .i64) (.pair (.int .i64) .unit))) (.pair .bool .unit)))), (5, .imm .bool .unit)], h := [(4930, .obj (.pair .str (.pair (.slice (.pair (.int .i64) (.pair (.int .i64) .unit))) (.pair .bool .unit))) (.imm (.pair .str (.pair (.slice (.pair (.int .i64) (.pair (.int .i64) .unit))) (.pair .bool .unit))) .unit))] }), ((.exit 0), { t := [(1, .imm .str .unit), (4, .ref 4930 [] (.pair .str (.pair (.slice (.pair (.int .i64) (.pair (.int .i64) .unit))) (.pair .bool .unit))))], h := [(4930, .obj (.pair .str (.pair (.slice (.pair (.int .i64) (.pair (.int .i64) .unit))) (.pair .bool .unit))) (.imm (.pair .str (.pair (.slice (.pair (.int .i64) (.pair (.int .i64) .unit))) (.pair .bool .unit))) .unit))] })]
noncomputable def f118_s26 (ls : List P) : Tree Step :=
 .ite (decide ((lf ls 2).toInt < (((lf ls 0).xs).length : Int))) (
  .ite (inb ((lf ls 2).toInt) (((lf ls 0).xs).length)) (
   .ite (strEq (((rd ((lf ls 0).xs) (((lf ls 2).toInt).toNat)).fst).toStr) ((lf ls 1).toStr)) (
    .ite (inb ((lf ls 2).toInt) (((lf ls 0).xs).length)) (
     .ret (.inr (0, [.bool true, rd ((lf ls 0).xs) (((lf ls 2).toInt).toNat)]))) (
     .fail)) (
    .ret (.inl [lf ls 0, lf ls 1, .int .i64 (IntKind.i64.wrap (((lf ls 2).toInt) + (1 : Int))), lf ls 3]))) (
   .fail)) (
  .ret (.inr (1, [lf ls 1, lf ls 3])))
noncomputable def f118_k1 : Sk := { t := [(0, .imm (.slice (.pair .str (.pair (.slice (.pair (.int .i64) (.pair (.int .i64) .unit))) (.pair .bool .unit)))) .unit), (1, .imm .str .unit)], h := [] }
noncomputable def f118_o1 : List (Out × Sk) := [(.ret, { t := [(4, .ref 4030 [] (.pair .str (.pair (.slice (.pair (.int .i64) (.pair (.int .i64) .unit))) (.pair .bool .unit)))), (5, .imm .bool .unit)], h := [(4030, .obj (.pair .str (.pair (.slice (.pair (.int .i64) (.pair (.int .i64) .unit))) (.pair .bool .unit))) (.imm (.pair .str (.pair (.slice (.pair (.int .i64) (.pair (.int .i64) .unit))) (.pair .bool .unit))) .unit))], z := [4] })]
noncomputable def f118_s1 (ls : List P) : Tree (Nat × List P) :=
 .loop (loopT f118_s26 FUEL [lf ls 0, lf ls 1, .int .i64 (0 : Int), .pair (.str .empty) (.pair (.list true []) (.pair (.bool false) .unit))]) fun y1 =>
  .ite (Nat.beq y1.1 0) (
   .ret (0, [lf y1.2 0, lf y1.2 1])) (
   .ite (Nat.beq y1.1 1) (
    .loop (f87_v []) fun x2 =>
     .ite (Nat.beq x2.1 0) (
      .ret (0, [.bool false, .pair (lf y1.2 0) (.pair (.list ((lf x2.2 0).isNil) ((lf x2.2 0).xs)) (.pair (.bool true) .unit))])) (
      .fail)) (
    .fail))
noncomputable def f118_t (ps : List P) : Tree (Nat × List P) :=
 .loop ((f118_s1 [lf ps 0, lf ps 1]).run some) fun y3 =>
  .ite (Nat.beq y3.1 0) (
   .ret (0, [lf y3.2 1, lf y3.2 0])) (
   .fail)
noncomputable def f118_v (ps : List P) : Option (Nat × List P) := (f118_t ps).run some
noncomputable def f118_e : EntD := ⟨118, [.imm (.slice (.pair .str (.pair (.slice (.pair (.int .i64) (.pair (.int .i64) .unit))) (.pair .bool .unit)))), .imm .str], f118_v, [fun ps ls qs => ⟨[.imm (.pair .str (.pair (.slice (.pair (.int .i64) (.pair (.int .i64) .unit))) (.pair .bool .unit))) (lf qs 0), .imm .bool (lf qs 1)], [.imm (.slice (.pair .str (.pair (.slice (.pair (.int .i64) (.pair (.int .i64) .unit))) (.pair .bool .unit)))) (lf ps 0), .imm .str (lf ps 1)]⟩]⟩
noncomputable def f118_u : List Cu := [.loop 26 f118_k26 f118_o26 f118_s26, .cut 1 f118_k1 f118_o1 f118_s1]
noncomputable def f118_c : Cx := ⟨Try.prog, envOf [f87_e], 27, lOf f118_u, fun _ => false⟩
noncomputable def f118_b : Code := match Try.f118.body with | some b => b | none => .skip
theorem f118_q26 : (Cu.loop 26 f118_k26 f118_o26 f118_s26).Ok f118_c f118_b := ⟨by kernel_rfl, fun ls Kr Kx => by kernel_rfl⟩
theorem f118_q1 : (Cu.cut 1 f118_k1 f118_o1 f118_s1).Ok f118_c f118_b := ⟨by kernel_rfl, fun ls Kx => by kernel_rfl⟩
theorem f118_x (ps : List P) (ls : List Nat) : execFn f118_c 118 f118_e.tm (explF ps 2 0) ls = (f118_t ps).run fun q => altR (f118_e.res.map fun f => f ps ls) 0 q some := by kernel_rfl
theorem f118_ok : OkEnt Try.prog f118_e := ent_ok (c := f118_c) (g := 118) (body := f118_b) (us := f118_u) (n := 2) (t := f118_t) (good_envOf _ ⟨f87_ok, trivial⟩) Try.func118 rfl Try.call118 rfl ⟨f118_q26, f118_q1, trivial⟩ (by kernel_rfl) f118_x (fun _ => rfl)
/-! ### (comprador/compradorref24.X).About -/
noncomputable def f40_k58 : Sk := { t := [(1, .imm .str .unit), (2, .ref 5100 [] (.pair (.slice (.pair (.slice (.pair .str (.pair (.slice (.pair (.int .i64) (.pair (.int .i64) .unit))) (.pair .bool .unit)))) (.pair (.int .i64) (.pair .bool (.pair .bool .unit))))) .unit)), (5, .slf 5101 (.int .i64)), (6, .imm (.int .i64) .unit)], h := [(5100, .obj (.pair (.slice (.pair (.slice (.pair .str (.pair (.slice (.pair (.int .i64) (.pair (.int .i64) .unit))) (.pair .bool .unit)))) (.pair (.int .i64) (.pair .bool (.pair .bool .unit))))) .unit) (.imm (.pair (.slice (.pair (.slice (.pair .str (.pair (.slice (.pair (.int .i64) (.pair (.int .i64) .unit))) (.pair .bool .unit)))) (.pair (.int .i64) (.pair .bool (.pair .bool .unit))))) .unit) .unit)), (5101, .arr (.int .i64) true [])] }
noncomputable def f40_o58 : List (Out × Sk) := [((.exit 0), { t := [(5, .slf 5130 (.int .i64))], h := [(5130, .arr (.int .i64) true [])] })]
noncomputable def f40_s58 (ls : List P) : Tree Step :=
 .ite (decide ((lf ls 1).toInt < ((((lf ls 2).fst).xs).length : Int))) (
  .ite (inb ((lf ls 1).toInt) ((((lf ls 2).fst).xs).length)) (
   .loop (f118_v [(rd (((lf ls 2).fst).xs) (((lf ls 1).toInt).toNat)).fst, lf ls 0]) fun x1 =>
    .ite (Nat.beq x1.1 0) (
     .ite (inb ((lf ls 1).toInt) ((((lf ls 2).fst).xs).length)) (
      .ite (!((((((rd (((lf ls 2).fst).xs) (((lf ls 1).toInt).toNat)).snd).snd).snd).fst).toBool)) (
       .ite ((lf x1.2 1).toBool) (
        .ite (decide ((((lf ls 3).xs).length + 1) * 8 ≤ 140737488355328)) (
         .ret (.inl [lf ls 0, .int .i64 (IntKind.i64.wrap (((lf ls 1).toInt) + (1 : Int))), lf ls 2, .list (((lf ls 3).isNil) && false) (((lf ls 3).xs) ++ ([lf ls 1] : List P))])) (
         .fail)) (
        .ret (.inl [lf ls 0, .int .i64 (IntKind.i64.wrap (((lf ls 1).toInt) + (1 : Int))), lf ls 2, .list ((lf ls 3).isNil) ((lf ls 3).xs)]))) (
       .ret (.inl [lf ls 0, .int .i64 (IntKind.i64.wrap (((lf ls 1).toInt) + (1 : Int))), lf ls 2, .list ((lf ls 3).isNil) ((lf ls 3).xs)]))) (
      .fail)) (
     .fail)) (
   .fail)) (
  .ret (.inr (0, [.list ((lf ls 3).isNil) ((lf ls 3).xs)])))
noncomputable def f40_t (ps : List P) : Tree (Nat × List P) :=
 .loop (loopT f40_s58 FUEL [lf ps 1, .int .i64 (0 : Int), lf ps 0, .list true []]) fun y2 =>
  .ite (Nat.beq y2.1 0) (
   .ret (0, [.list ((lf y2.2 0).isNil) ((lf y2.2 0).xs)])) (
   .fail)
noncomputable def f40_v (ps : List P) : Option (Nat × List P) := (f40_t ps).run some
noncomputable def f40_e : EntD := ⟨40, [.imm (.pair (.slice (.pair (.slice (.pair .str (.pair (.slice (.pair (.int .i64) (.pair (.int .i64) .unit))) (.pair .bool .unit)))) (.pair (.int .i64) (.pair .bool (.pair .bool .unit))))) .unit), .imm .str], f40_v, [fun ps ls qs => ⟨[.own (ls.getD 3129 0) (.int .i64) (lf qs 0).isNil (lf qs 0).xs], [.imm (.pair (.slice (.pair (.slice (.pair .str (.pair (.slice (.pair (.int .i64) (.pair (.int .i64) .unit))) (.pair .bool .unit)))) (.pair (.int .i64) (.pair .bool (.pair .bool .unit))))) .unit) (lf ps 0), .imm .str (lf ps 1)]⟩]⟩
noncomputable def f40_u : List Cu := [.loop 58 f40_k58 f40_o58 f40_s58]
noncomputable def f40_c : Cx := ⟨Try.prog, envOf [f118_e], 42, lOf f40_u, fun _ => false⟩
noncomputable def f40_b : Code := match Try.f40.body with | some b => b | none => .skip
theorem f40_q58 : (Cu.loop 58 f40_k58 f40_o58 f40_s58).Ok f40_c f40_b := ⟨by kernel_rfl, fun ls Kr Kx => by kernel_rfl⟩
theorem f40_x (ps : List P) (ls : List Nat) : execFn f40_c 40 f40_e.tm (explF ps 2 0) ls = (f40_t ps).run fun q => altR (f40_e.res.map fun f => f ps ls) 0 q some := by kernel_rfl
theorem f40_ok : OkEnt Try.prog f40_e := ent_ok (c := f40_c) (g := 40) (body := f40_b) (us := f40_u) (n := 2) (t := f40_t) (good_envOf _ ⟨f118_ok, trivial⟩) Try.func40 rfl Try.call40 rfl ⟨f40_q58, trivial⟩ (by kernel_rfl) f40_x (fun _ => rfl)
/-! ### comprador/compradorlaw24.StorePlays -/
noncomputable def f5_k506 : Sk := { t := [(1, .imm .str .unit), (5, .ref 6700 [] (.pair (.slice (.pair (.slice (.pair .str (.pair (.slice (.pair (.int .i64) (.pair (.int .i64) .unit))) (.pair .bool .unit)))) (.pair (.int .i64) (.pair .bool (.pair .bool .unit))))) (.pair .map .unit))), (6, .ref 6701 [] (.pair (.slice (.pair (.slice (.pair .str (.pair (.slice (.pair (.int .i64) (.pair (.int .i64) .unit))) (.pair .bool .unit)))) (.pair (.int .i64) (.pair .bool (.pair .bool .unit))))) .unit)), (8, .imm (.int .i64) .unit)], h := [(6700, .obj (.pair (.slice (.pair (.slice (.pair .str (.pair (.slice (.pair (.int .i64) (.pair (.int .i64) .unit))) (.pair .bool .unit)))) (.pair (.int .i64) (.pair .bool (.pair .bool .unit))))) (.pair .map .unit)) (.pair (.slf 6702 (.pair (.slice (.pair .str (.pair (.slice (.pair (.int .i64) (.pair (.int .i64) .unit))) (.pair .bool .unit)))) (.pair (.int .i64) (.pair .bool (.pair .bool .unit))))) (.pair (.blk 6703 (.mt .str (.slice (.int .i64)))) (.imm .unit .unit)))), (6701, .obj (.pair (.slice (.pair (.slice (.pair .str (.pair (.slice (.pair (.int .i64) (.pair (.int .i64) .unit))) (.pair .bool .unit)))) (.pair (.int .i64) (.pair .bool (.pair .bool .unit))))) .unit) (.imm (.pair (.slice (.pair (.slice (.pair .str (.pair (.slice (.pair (.int .i64) (.pair (.int .i64) .unit))) (.pair .bool .unit)))) (.pair (.int .i64) (.pair .bool (.pair .bool .unit))))) .unit) .unit)), (6702, .arr (.pair (.slice (.pair .str (.pair (.slice (.pair (.int .i64) (.pair (.int .i64) .unit))) (.pair .bool .unit)))) (.pair (.int .i64) (.pair .bool (.pair .bool .unit)))) true []), (6703, .blk (.mt .str (.slice (.int .i64))) .unit)] }
noncomputable def f5_o506 : List (Out × Sk) := [(.ret, { t := [(4, .imm .bool .unit)], h := [] }), ((.exit 2), { t := [(1, .imm .str .unit), (5, .ref 6730 [] (.pair (.slice (.pair (.slice (.pair .str (.pair (.slice (.pair (.int .i64) (.pair (.int .i64) .unit))) (.pair .bool .unit)))) (.pair (.int .i64) (.pair .bool (.pair .bool .unit))))) (.pair .map .unit))), (6, .ref 6731 [] (.pair (.slice (.pair (.slice (.pair .str (.pair (.slice (.pair (.int .i64) (.pair (.int .i64) .unit))) (.pair .bool .unit)))) (.pair (.int .i64) (.pair .bool (.pair .bool .unit))))) .unit))], h := [(6730, .obj (.pair (.slice (.pair (.slice (.pair .str (.pair (.slice (.pair (.int .i64) (.pair (.int .i64) .unit))) (.pair .bool .unit)))) (.pair (.int .i64) (.pair .bool (.pair .bool .unit))))) (.pair .map .unit)) (.pair (.slf 6732 (.pair (.slice (.pair .str (.pair (.slice (.pair (.int .i64) (.pair (.int .i64) .unit))) (.pair .bool .unit)))) (.pair (.int .i64) (.pair .bool (.pair .bool .unit))))) (.pair (.blk 6733 (.mt .str (.slice (.int .i64)))) (.imm .unit .unit)))), (6731, .obj (.pair (.slice (.pair (.slice (.pair .str (.pair (.slice (.pair (.int .i64) (.pair (.int .i64) .unit))) (.pair .bool .unit)))) (.pair (.int .i64) (.pair .bool (.pair .bool .unit))))) .unit) (.imm (.pair (.slice (.pair (.slice (.pair .str (.pair (.slice (.pair (.int .i64) (.pair (.int .i64) .unit))) (.pair .bool .unit)))) (.pair (.int .i64) (.pair .bool (.pair .bool .unit))))) .unit) .unit)), (6732, .arr (.pair (.slice (.pair .str (.pair (.slice (.pair (.int .i64) (.pair (.int .i64) .unit))) (.pair .bool .unit)))) (.pair (.int .i64) (.pair .bool (.pair .bool .unit)))) true []), (6733, .blk (.mt .str (.slice (.int .i64))) .unit)] })]
noncomputable def f5_s506 (ls : List P) : Tree Step :=
 .ite (decide ((lf ls 1).toInt ≤ ((((lf ls 3).fst).xs).length : Int))) (
  .loop (f21_v [.list ((lf ls 4).isNil) ((lf ls 4).xs), lf ls 5, lf ls 2, lf ls 1]) fun x11 =>
   .ite (Nat.beq x11.1 0) (
    .loop (f33_v [lf ls 3, lf ls 1]) fun x12 =>
     .ite (Nat.beq x12.1 0) (
      .ite (!(((lf x11.2 2).toBool) == ((lf x12.2 1).toBool))) (
       .ret (.inr (0, [.bool false]))) (
       .loop (f22_v [.list ((lf x11.2 0).isNil) ((lf x11.2 0).xs), (lf x12.2 0).fst]) fun x13 =>
        .ite (Nat.beq x13.1 0) (
         .ite (!((lf x13.2 0).toBool)) (
          .ret (.inr (0, [.bool false]))) (
          .ite ((((lf x11.2 1).fst).toInt) != ((((lf x12.2 0).snd).fst).toInt)) (
           .ret (.inr (0, [.bool false]))) (
           .ite (!(((((lf x11.2 1).snd).fst).toBool) == (((((lf x12.2 0).snd).snd).fst).toBool))) (
            .ret (.inr (0, [.bool false]))) (
            .ite (!((((((lf x11.2 1).snd).snd).fst).toBool) == ((((((lf x12.2 0).snd).snd).snd).fst).toBool))) (
             .ret (.inr (0, [.bool false]))) (
             .ret (.inl [lf ls 0, .int .i64 (IntKind.i64.wrap (((lf ls 1).toInt) + (1 : Int))), lf x11.2 5, lf ls 3, .list ((lf x11.2 3).isNil) ((lf x11.2 3).xs), lf x11.2 4])))))) (
         .fail))) (
      .fail)) (
    .fail)) (
  .ret (.inr (1, [lf ls 0, lf ls 2, lf ls 3, .list ((lf ls 4).isNil) ((lf ls 4).xs), lf ls 5])))
noncomputable def f5_k250 : Sk := { t := [(0, .imm (.slice (.pair .bool (.pair (.int .i64) (.pair (.slice (.pair .str (.pair (.slice (.pair (.int .i64) (.pair (.int .i64) .unit))) (.pair .bool .unit)))) (.pair .bool .unit))))) .unit), (1, .imm .str .unit), (5, .ref 6100 [] (.pair (.slice (.pair (.slice (.pair .str (.pair (.slice (.pair (.int .i64) (.pair (.int .i64) .unit))) (.pair .bool .unit)))) (.pair (.int .i64) (.pair .bool (.pair .bool .unit))))) (.pair .map .unit))), (6, .ref 6101 [] (.pair (.slice (.pair (.slice (.pair .str (.pair (.slice (.pair (.int .i64) (.pair (.int .i64) .unit))) (.pair .bool .unit)))) (.pair (.int .i64) (.pair .bool (.pair .bool .unit))))) .unit)), (7, .imm (.int .i64) .unit)], h := [(6100, .obj (.pair (.slice (.pair (.slice (.pair .str (.pair (.slice (.pair (.int .i64) (.pair (.int .i64) .unit))) (.pair .bool .unit)))) (.pair (.int .i64) (.pair .bool (.pair .bool .unit))))) (.pair .map .unit)) (.pair (.slf 6102 (.pair (.slice (.pair .str (.pair (.slice (.pair (.int .i64) (.pair (.int .i64) .unit))) (.pair .bool .unit)))) (.pair (.int .i64) (.pair .bool (.pair .bool .unit))))) (.pair (.blk 6103 (.mt .str (.slice (.int .i64)))) (.imm .unit .unit)))), (6101, .obj (.pair (.slice (.pair (.slice (.pair .str (.pair (.slice (.pair (.int .i64) (.pair (.int .i64) .unit))) (.pair .bool .unit)))) (.pair (.int .i64) (.pair .bool (.pair .bool .unit))))) .unit) (.imm (.pair (.slice (.pair (.slice (.pair .str (.pair (.slice (.pair (.int .i64) (.pair (.int .i64) .unit))) (.pair .bool .unit)))) (.pair (.int .i64) (.pair .bool (.pair .bool .unit))))) .unit) .unit)), (6102, .arr (.pair (.slice (.pair .str (.pair (.slice (.pair (.int .i64) (.pair (.int .i64) .unit))) (.pair .bool .unit)))) (.pair (.int .i64) (.pair .bool (.pair .bool .unit)))) true []), (6103, .blk (.mt .str (.slice (.int .i64))) .unit)], z := [6] }
noncomputable def f5_o250 : List (Out × Sk) := [(.ret, { t := [(4, .imm .bool .unit)], h := [] }), ((.exit 0), { t := [(1, .imm .str .unit), (5, .ref 6130 [] (.pair (.slice (.pair (.slice (.pair .str (.pair (.slice (.pair (.int .i64) (.pair (.int .i64) .unit))) (.pair .bool .unit)))) (.pair (.int .i64) (.pair .bool (.pair .bool .unit))))) (.pair .map .unit))), (6, .ref 6131 [] (.pair (.slice (.pair (.slice (.pair .str (.pair (.slice (.pair (.int .i64) (.pair (.int .i64) .unit))) (.pair .bool .unit)))) (.pair (.int .i64) (.pair .bool (.pair .bool .unit))))) .unit))], h := [(6130, .obj (.pair (.slice (.pair (.slice (.pair .str (.pair (.slice (.pair (.int .i64) (.pair (.int .i64) .unit))) (.pair .bool .unit)))) (.pair (.int .i64) (.pair .bool (.pair .bool .unit))))) (.pair .map .unit)) (.pair (.slf 6132 (.pair (.slice (.pair .str (.pair (.slice (.pair (.int .i64) (.pair (.int .i64) .unit))) (.pair .bool .unit)))) (.pair (.int .i64) (.pair .bool (.pair .bool .unit))))) (.pair (.blk 6133 (.mt .str (.slice (.int .i64)))) (.imm .unit .unit)))), (6131, .obj (.pair (.slice (.pair (.slice (.pair .str (.pair (.slice (.pair (.int .i64) (.pair (.int .i64) .unit))) (.pair .bool .unit)))) (.pair (.int .i64) (.pair .bool (.pair .bool .unit))))) .unit) (.imm (.pair (.slice (.pair (.slice (.pair .str (.pair (.slice (.pair (.int .i64) (.pair (.int .i64) .unit))) (.pair .bool .unit)))) (.pair (.int .i64) (.pair .bool (.pair .bool .unit))))) .unit) .unit)), (6132, .arr (.pair (.slice (.pair .str (.pair (.slice (.pair (.int .i64) (.pair (.int .i64) .unit))) (.pair .bool .unit)))) (.pair (.int .i64) (.pair .bool (.pair .bool .unit)))) true []), (6133, .blk (.mt .str (.slice (.int .i64))) .unit)] })]
noncomputable def f5_s250 (ls : List P) : Tree Step :=
 .ite (decide ((lf ls 2).toInt < (((lf ls 0).xs).length : Int))) (
  .ite (inb ((lf ls 2).toInt) (((lf ls 0).xs).length)) (
   .ite (((rd ((lf ls 0).xs) (((lf ls 2).toInt).toNat)).fst).toBool) (
    .ite (inb ((lf ls 2).toInt) (((lf ls 0).xs).length)) (
     .ite (inb ((lf ls 2).toInt) (((lf ls 0).xs).length)) (
      .loop (f20_v [.list ((lf ls 5).isNil) ((lf ls 5).xs), lf ls 6, lf ls 3, ((rd ((lf ls 0).xs) (((lf ls 2).toInt).toNat)).snd).fst]) fun x5 =>
       .ite (Nat.beq x5.1 0) (
        .loop (f31_1_v [lf ls 4, ((rd ((lf ls 0).xs) (((lf ls 2).toInt).toNat)).snd).fst]) fun x6 =>
         .ite (Nat.beq x6.1 0) (
          .ite (!(((lf x5.2 0).toBool) == ((lf x6.2 0).toBool))) (
           .ret (.inr (0, [.bool false]))) (
           .ret (.inl [lf ls 0, lf ls 1, .int .i64 (IntKind.i64.wrap (((lf ls 2).toInt) + (1 : Int))), lf ls 3, lf x6.2 1, .list ((lf x5.2 1).isNil) ((lf x5.2 1).xs), lf ls 6]))) (
          .fail)) (
        .fail)) (
      .fail)) (
     .fail)) (
    .ite (inb ((lf ls 2).toInt) (((lf ls 0).xs).length)) (
     .loop (f18_v [(((rd ((lf ls 0).xs) (((lf ls 2).toInt).toNat)).snd).snd).fst]) fun x7 =>
      .ite (Nat.beq x7.1 0) (
       .ite (!((lf x7.2 0).toBool)) (
        .ret (.inl [lf ls 0, lf ls 1, .int .i64 (IntKind.i64.wrap (((lf ls 2).toInt) + (1 : Int))), lf ls 3, lf ls 4, .list ((lf ls 5).isNil) ((lf ls 5).xs), lf ls 6])) (
        .ite (inb ((lf ls 2).toInt) (((lf ls 0).xs).length)) (
         .ite (inb ((lf ls 2).toInt) (((lf ls 0).xs).length)) (
          .ite (inb ((lf ls 2).toInt) (((lf ls 0).xs).length)) (
           .ite (inb ((lf ls 2).toInt) (((lf ls 0).xs).length)) (
            .ite (inb ((lf ls 2).toInt) (((lf ls 0).xs).length)) (
             .ite (inb ((lf ls 2).toInt) (((lf ls 0).xs).length)) (
              .loop (f19_v [.list ((lf ls 5).isNil) ((lf ls 5).xs), lf ls 6, lf ls 3, (((rd ((lf ls 0).xs) (((lf ls 2).toInt).toNat)).snd).snd).fst, ((rd ((lf ls 0).xs) (((lf ls 2).toInt).toNat)).snd).fst, ((((rd ((lf ls 0).xs) (((lf ls 2).toInt).toNat)).snd).snd).snd).fst]) fun x8 =>
               .ite (Nat.beq x8.1 0) (
                .loop (f32_v [lf ls 4, (((rd ((lf ls 0).xs) (((lf ls 2).toInt).toNat)).snd).snd).fst, ((rd ((lf ls 0).xs) (((lf ls 2).toInt).toNat)).snd).fst, ((((rd ((lf ls 0).xs) (((lf ls 2).toInt).toNat)).snd).snd).snd).fst]) fun x9 =>
                 .ite (Nat.beq x9.1 0) (
                  .ite (((lf x8.2 0).toInt) != ((lf x9.2 0).toInt)) (
                   .ret (.inr (0, [.bool false]))) (
                   .ret (.inl [lf ls 0, lf ls 1, .int .i64 (IntKind.i64.wrap (((lf ls 2).toInt) + (1 : Int))), lf x8.2 3, .pair (.list ((lf x9.2 1).isNil) ((lf x9.2 1).xs)) (lf x9.2 2), .list ((lf x8.2 1).isNil) ((lf x8.2 1).xs), lf x8.2 2]))) (
                  .fail)) (
                .fail)) (
              .fail)) (
             .fail)) (
            .fail)) (
           .fail)) (
          .fail)) (
         .fail))) (
       .fail)) (
     .fail))) (
   .fail)) (
  .ret (.inr (1, [lf ls 1, lf ls 3, lf ls 4, .list ((lf ls 5).isNil) ((lf ls 5).xs), lf ls 6])))
noncomputable def f5_t (ps : List P) : Tree (Nat × List P) :=
 .loop (f15_v [lf ps 0]) fun x1 =>
  .ite (Nat.beq x1.1 0) (
   .ite ((lf x1.2 0).toBool) (
    .loop (f16_v []) fun x2 =>
     .ite (Nat.beq x2.1 0) (
      .ret (0, [lf x2.2 0])) (
      .fail)) (
    .ite (decide ((((lf ps 1).toStr).size : Int) > (200 : Int))) (
     .loop (f16_v []) fun x3 =>
      .ite (Nat.beq x3.1 0) (
       .ret (0, [lf x3.2 0])) (
       .fail)) (
     .loop (f17_v []) fun x4 =>
      .ite (Nat.beq x4.1 0) (
       .loop (loopT f5_s250 FUEL [lf ps 0, lf ps 1, .int .i64 (0 : Int), lf x4.2 1, .pair (.list true []) .unit, .list true [], lf x4.2 0]) fun y10 =>
        .ite (Nat.beq y10.1 0) (
         .ret (0, [lf y10.2 0])) (
         .ite (Nat.beq y10.1 1) (
          .loop (loopT f5_s506 FUEL [lf y10.2 0, .int .i64 (-1 : Int), lf y10.2 1, lf y10.2 2, .list ((lf y10.2 3).isNil) ((lf y10.2 3).xs), lf y10.2 4]) fun y14 =>
           .ite (Nat.beq y14.1 0) (
            .ret (0, [lf y14.2 0])) (
            .ite (Nat.beq y14.1 1) (
             .loop (f21_1_v [.nilp, .int .i64 (0 : Int)]) fun x15 =>
              .ite (Nat.beq x15.1 0) (
               .loop (f19_1_v [.nilp, .list true [], .int .i64 (0 : Int), .bool true]) fun x16 =>
                .ite (Nat.beq x16.1 0) (
                 .ite (((lf x16.2 0).toInt) != (-1 : Int)) (
                  .ret (0, [.bool false])) (
                  .ite ((lf x15.2 1).toBool) (
                   .ret (0, [.bool false])) (
                   .loop (f20_1_v [.nilp, .int .i64 (0 : Int)]) fun x17 =>
                    .ite (Nat.beq x17.1 0) (
                     .ite ((lf x17.2 0).toBool) (
                      .ret (0, [.bool false])) (
                      .loop (f34_1_v [.nilp]) fun x18 =>
                       .ite (Nat.beq x18.1 0) (
                        .loop (f23_1_v [.nilp]) fun x19 =>
                         .ite (Nat.beq x19.1 0) (
                          .loop (f35_v [.nilp]) fun x20 =>
                           .ite (Nat.beq x20.1 0) (
                            .loop (f36_v [.nilp, lf y14.2 0]) fun x21 =>
                             .ite (Nat.beq x21.1 0) (
                              .ite ((IntKind.i64.wrap ((IntKind.i64.wrap ((IntKind.i64.wrap (((lf x18.2 0).toInt) + (((lf x19.2 0).xs).length : Int))) + (((lf x20.2 0).xs).length : Int))) + (0 : Int))) != (0 : Int)) (
                               .ret (0, [.bool false])) (
                               .loop (f34_v [.list ((lf y14.2 3).isNil) ((lf y14.2 3).xs), lf y14.2 4, lf y14.2 1]) fun x22 =>
                                .ite (Nat.beq x22.1 0) (
                                 .ite (((lf x22.2 0).toInt) == ((((lf y14.2 2).fst).xs).length : Int)) (
                                  .loop (f23_v [.list ((lf y14.2 3).isNil) ((lf y14.2 3).xs), lf y14.2 4, lf y14.2 1]) fun x23 =>
                                   .ite (Nat.beq x23.1 0) (
                                    .loop (f38_v [lf y14.2 2]) fun x24 =>
                                     .ite (Nat.beq x24.1 0) (
                                      .loop (f37_v [.list ((lf x23.2 0).isNil) ((lf x23.2 0).xs), .list ((lf x24.2 0).isNil) ((lf x24.2 0).xs)]) fun x25 =>
                                       .ite (Nat.beq x25.1 0) (
                                        .ite ((lf x25.2 0).toBool) (
                                         .loop (f35_1_v [.list ((lf x23.2 1).isNil) ((lf x23.2 1).xs), lf x23.2 2, lf x23.2 3]) fun x26 =>
                                          .ite (Nat.beq x26.1 0) (
                                           .loop (f39_v [lf y14.2 2]) fun x36 =>
                                            .ite (Nat.beq x36.1 0) (
                                             .loop (f37_v [.list ((lf x26.2 0).isNil) ((lf x26.2 0).xs), .list ((lf x36.2 0).isNil) ((lf x36.2 0).xs)]) fun x37 =>
                                              .ite (Nat.beq x37.1 0) (
                                               .ite ((lf x37.2 0).toBool) (
                                                .loop (f36_1_v [.list ((lf x26.2 1).isNil) ((lf x26.2 1).xs), lf x26.2 2, lf x26.2 3, lf y14.2 0]) fun x38 =>
                                                 .ite (Nat.beq x38.1 0) (
                                                  .loop (f40_v [lf y14.2 2, lf y14.2 0]) fun x42 =>
                                                   .ite (Nat.beq x42.1 0) (
                                                    .loop (f37_v [.list ((lf x38.2 0).isNil) ((lf x38.2 0).xs), .list ((lf x42.2 0).isNil) ((lf x42.2 0).xs)]) fun x43 =>
                                                     .ite (Nat.beq x43.1 0) (
                                                      .ite ((lf x43.2 0).toBool) (
                                                       .loop (f16_v []) fun x44 =>
                                                        .ite (Nat.beq x44.1 0) (
                                                         .ret (0, [lf x44.2 0])) (
                                                         .fail)) (
                                                       .ret (0, [.bool false]))) (
                                                      .fail)) (
                                                    .fail)) (
                                                  .ite (Nat.beq x38.1 1) (
                                                   .loop (f40_v [lf y14.2 2, lf y14.2 0]) fun x39 =>
                                                    .ite (Nat.beq x39.1 0) (
                                                     .loop (f37_v [.list ((lf x38.2 0).isNil) ((lf x38.2 0).xs), .list ((lf x39.2 0).isNil) ((lf x39.2 0).xs)]) fun x40 =>
                                                      .ite (Nat.beq x40.1 0) (
                                                       .ite ((lf x40.2 0).toBool) (
                                                        .loop (f16_v []) fun x41 =>
                                                         .ite (Nat.beq x41.1 0) (
                                                          .ret (0, [lf x41.2 0])) (
                                                          .fail)) (
                                                        .ret (0, [.bool false]))) (
                                                       .fail)) (
                                                     .fail)) (
                                                   .fail))) (
                                                .ret (0, [.bool false]))) (
                                               .fail)) (
                                             .fail)) (
                                           .ite (Nat.beq x26.1 1) (
                                            .loop (f39_v [lf y14.2 2]) fun x27 =>
                                             .ite (Nat.beq x27.1 0) (
                                              .loop (f37_v [.list ((lf x26.2 0).isNil) ((lf x26.2 0).xs), .list ((lf x27.2 0).isNil) ((lf x27.2 0).xs)]) fun x28 =>
                                               .ite (Nat.beq x28.1 0) (
                                                .ite ((lf x28.2 0).toBool) (
                                                 .loop (f36_1_v [.list ((lf x26.2 1).isNil) ((lf x26.2 1).xs), lf x26.2 2, lf x26.2 3, lf y14.2 0]) fun x29 =>
                                                  .ite (Nat.beq x29.1 0) (
                                                   .loop (f40_v [lf y14.2 2, lf y14.2 0]) fun x33 =>
                                                    .ite (Nat.beq x33.1 0) (
                                                     .loop (f37_v [.list ((lf x29.2 0).isNil) ((lf x29.2 0).xs), .list ((lf x33.2 0).isNil) ((lf x33.2 0).xs)]) fun x34 =>
                                                      .ite (Nat.beq x34.1 0) (
                                                       .ite ((lf x34.2 0).toBool) (
                                                        .loop (f16_v []) fun x35 =>
                                                         .ite (Nat.beq x35.1 0) (
                                                          .ret (0, [lf x35.2 0])) (
                                                          .fail)) (
                                                        .ret (0, [.bool false]))) (
                                                       .fail)) (
                                                     .fail)) (
                                                   .ite (Nat.beq x29.1 1) (
                                                    .loop (f40_v [lf y14.2 2, lf y14.2 0]) fun x30 =>
                                                     .ite (Nat.beq x30.1 0) (
                                                      .loop (f37_v [.list ((lf x29.2 0).isNil) ((lf x29.2 0).xs), .list ((lf x30.2 0).isNil) ((lf x30.2 0).xs)]) fun x31 =>
                                                       .ite (Nat.beq x31.1 0) (
                                                        .ite ((lf x31.2 0).toBool) (
                                                         .loop (f16_v []) fun x32 =>
                                                          .ite (Nat.beq x32.1 0) (
                                                           .ret (0, [lf x32.2 0])) (
                                                           .fail)) (
                                                         .ret (0, [.bool false]))) (
                                                        .fail)) (
                                                      .fail)) (
                                                    .fail))) (
                                                 .ret (0, [.bool false]))) (
                                                .fail)) (
                                              .fail)) (
                                            .fail))) (
                                         .ret (0, [.bool false]))) (
                                        .fail)) (
                                      .fail)) (
                                    .fail)) (
                                  .ret (0, [.bool false]))) (
                                 .fail))) (
                              .fail)) (
                            .fail)) (
                          .fail)) (
                        .fail))) (
                     .fail)))) (
                 .fail)) (
               .fail)) (
             .fail))) (
          .fail))) (
       .fail)))) (
   .fail)
noncomputable def f5_v (ps : List P) : Option (Nat × List P) := (f5_t ps).run some
noncomputable def f5_e : EntD := ⟨5, [.imm (.slice (.pair .bool (.pair (.int .i64) (.pair (.slice (.pair .str (.pair (.slice (.pair (.int .i64) (.pair (.int .i64) .unit))) (.pair .bool .unit)))) (.pair .bool .unit))))), .imm .str], f5_v, [fun ps ls qs => ⟨[.imm .bool (lf qs 0)], [.imm (.slice (.pair .bool (.pair (.int .i64) (.pair (.slice (.pair .str (.pair (.slice (.pair (.int .i64) (.pair (.int .i64) .unit))) (.pair .bool .unit)))) (.pair .bool .unit))))) (lf ps 0), .imm .str (lf ps 1)]⟩]⟩
noncomputable def f5_u : List Cu := [.loop 506 f5_k506 f5_o506 f5_s506, .loop 250 f5_k250 f5_o250 f5_s250]
noncomputable def f5_c : Cx := ⟨Try.prog, envOf [f15_e, f16_e, f17_e, f18_e, f19_1_e, f19_e, f20_1_e, f20_e, f21_1_e, f21_e, f22_e, f23_1_e, f23_e, f31_1_e, f31_e, f32_e, f33_e, f34_1_e, f34_e, f35_e, f35_1_e, f36_e, f36_1_e, f37_e, f38_e, f39_e, f40_e], 223, lOf f5_u, fun _ => false⟩
noncomputable def f5_b : Code := match Try.f5.body with | some b => b | none => .skip
theorem f5_q506 : (Cu.loop 506 f5_k506 f5_o506 f5_s506).Ok f5_c f5_b := ⟨by kernel_rfl, fun ls Kr Kx => by kernel_rfl⟩
theorem f5_q250 : (Cu.loop 250 f5_k250 f5_o250 f5_s250).Ok f5_c f5_b := ⟨by kernel_rfl, fun ls Kr Kx => by kernel_rfl⟩
theorem f5_x (ps : List P) (ls : List Nat) : execFn f5_c 5 f5_e.tm (explF ps 2 0) ls = (f5_t ps).run fun q => altR (f5_e.res.map fun f => f ps ls) 0 q some := by kernel_rfl
theorem f5_ok : OkEnt Try.prog f5_e := ent_ok (c := f5_c) (g := 5) (body := f5_b) (us := f5_u) (n := 2) (t := f5_t) (good_envOf _ ⟨f15_ok, f16_ok, f17_ok, f18_ok, f19_1_ok, f19_ok, f20_1_ok, f20_ok, f21_1_ok, f21_ok, f22_ok, f23_1_ok, f23_ok, f31_1_ok, f31_ok, f32_ok, f33_ok, f34_1_ok, f34_ok, f35_ok, f35_1_ok, f36_ok, f36_1_ok, f37_ok, f38_ok, f39_ok, f40_ok, trivial⟩) Try.func5 rfl Try.call5 rfl ⟨f5_q506, f5_q250, trivial⟩ (by kernel_rfl) f5_x (fun _ => rfl)
end Go.Proofs.Ytjemihhhkhdbeaa
