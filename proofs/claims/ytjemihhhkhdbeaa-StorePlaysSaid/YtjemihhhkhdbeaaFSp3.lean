/- Functions: what each tells. Conditions: none. -/
import Derived.Test.YtjemihhhkhdbeaaFSp2
open Go Go.Eng Go.Proofs
set_option pp.deepTerms true
set_option linter.unusedVariables false
namespace Go.Proofs.Ytjemihhhkhdbeaa
/-! ### (*comprador/store.Store).Learned$1 -/
noncomputable def f115_1_t (ps : List P) : Tree (Nat × List P) :=
 .ite (inb ((lf ps 0).toInt) (((lf ps 1).xs).length)) (
  .ret (0, [.bool (!(((((rd ((lf ps 1).xs) (((lf ps 0).toInt).toNat)).snd).snd).fst).toBool))])) (
  .fail)
noncomputable def f115_1_v (ps : List P) : Option (Nat × List P) := (f115_1_t ps).run some
noncomputable def f115_1_e : EntD := ⟨115, [.imm (.int .i64), .box .ptr (.box (.pair (.slice (.pair (.slice (.pair .str (.pair (.slice (.pair (.int .i64) (.pair (.int .i64) .unit))) (.pair .bool .unit)))) (.pair (.int .i64) (.pair .bool (.pair .bool .unit))))) (.pair .map .unit)) (.pair (.own (.pair (.slice (.pair .str (.pair (.slice (.pair (.int .i64) (.pair (.int .i64) .unit))) (.pair .bool .unit)))) (.pair (.int .i64) (.pair .bool (.pair .bool .unit))))) (.pair (.blk (.mt .str (.slice (.int .i64)))) (.imm .unit))))], f115_1_v, [fun ps ls qs => ⟨[.imm .bool (lf qs 0)], [.imm (.int .i64) (lf ps 0), .box (ls.getD 0 0) .ptr (.box (ls.getD 1 0) (.pair (.slice (.pair (.slice (.pair .str (.pair (.slice (.pair (.int .i64) (.pair (.int .i64) .unit))) (.pair .bool .unit)))) (.pair (.int .i64) (.pair .bool (.pair .bool .unit))))) (.pair .map .unit)) (.pair (.own (ls.getD 2 0) (.pair (.slice (.pair .str (.pair (.slice (.pair (.int .i64) (.pair (.int .i64) .unit))) (.pair .bool .unit)))) (.pair (.int .i64) (.pair .bool (.pair .bool .unit)))) (lf ps 1).isNil (lf ps 1).xs) (.pair (.blk (ls.getD 3 0) (.mt .str (.slice (.int .i64))) (lf ps 2)) (.imm .unit (lf ps 3)))))]⟩]⟩
noncomputable def f115_1_u : List Cu := []
noncomputable def f115_1_c : Cx := ⟨Try.prog, envOf [], 13, lOf f115_1_u, fun _ => false⟩
noncomputable def f115_1_b : Code := match Try.f115.body with | some b => b | none => .skip
theorem f115_1_x (ps : List P) (ls : List Nat) : execFn f115_1_c 115 f115_1_e.tm (explF ps 4 0) ls = (f115_1_t ps).run fun q => altR (f115_1_e.res.map fun f => f ps ls) 0 q some := by kernel_rfl
theorem f115_1_ok : OkEnt Try.prog f115_1_e := ent_ok (c := f115_1_c) (g := 115) (body := f115_1_b) (us := f115_1_u) (n := 4) (t := f115_1_t) (good_envOf _ trivial) Try.func115 rfl Try.call115 rfl trivial (by kernel_rfl) f115_1_x (fun _ => rfl)
/-! ### slices.IndexFunc[[]int,int] -/
noncomputable def f169_1_k26 : Sk := { t := [(0, .imm (.slice (.int .i64)) .unit), (1, .fn 115 (.pair (.ref 2001 [] .ptr) (.imm .unit .unit))), (7, .imm (.int .i64) .unit), (8, .imm (.int .i64) .unit)], h := [(2001, .obj .ptr (.ref 2002 [] (.pair (.slice (.pair (.slice (.pair .str (.pair (.slice (.pair (.int .i64) (.pair (.int .i64) .unit))) (.pair .bool .unit)))) (.pair (.int .i64) (.pair .bool (.pair .bool .unit))))) (.pair .map .unit)))), (2002, .obj (.pair (.slice (.pair (.slice (.pair .str (.pair (.slice (.pair (.int .i64) (.pair (.int .i64) .unit))) (.pair .bool .unit)))) (.pair (.int .i64) (.pair .bool (.pair .bool .unit))))) (.pair .map .unit)) (.pair (.slf 2003 (.pair (.slice (.pair .str (.pair (.slice (.pair (.int .i64) (.pair (.int .i64) .unit))) (.pair .bool .unit)))) (.pair (.int .i64) (.pair .bool (.pair .bool .unit))))) (.pair (.blk 2004 (.mt .str (.slice (.int .i64)))) (.imm .unit .unit)))), (2003, .arr (.pair (.slice (.pair .str (.pair (.slice (.pair (.int .i64) (.pair (.int .i64) .unit))) (.pair .bool .unit)))) (.pair (.int .i64) (.pair .bool (.pair .bool .unit)))) true []), (2004, .blk (.mt .str (.slice (.int .i64))) .unit)] }
noncomputable def f169_1_o26 : List (Out × Sk) := [(.ret, { t := [(1, .fn 115 (.pair (.ref 2001 [] .ptr) (.imm .unit .unit))), (4, .imm (.int .i64) .unit)], h := [(2001, .obj .ptr (.ref 2002 [] (.pair (.slice (.pair (.slice (.pair .str (.pair (.slice (.pair (.int .i64) (.pair (.int .i64) .unit))) (.pair .bool .unit)))) (.pair (.int .i64) (.pair .bool (.pair .bool .unit))))) (.pair .map .unit)))), (2002, .obj (.pair (.slice (.pair (.slice (.pair .str (.pair (.slice (.pair (.int .i64) (.pair (.int .i64) .unit))) (.pair .bool .unit)))) (.pair (.int .i64) (.pair .bool (.pair .bool .unit))))) (.pair .map .unit)) (.pair (.slf 2003 (.pair (.slice (.pair .str (.pair (.slice (.pair (.int .i64) (.pair (.int .i64) .unit))) (.pair .bool .unit)))) (.pair (.int .i64) (.pair .bool (.pair .bool .unit))))) (.pair (.blk 2004 (.mt .str (.slice (.int .i64)))) (.imm .unit .unit)))), (2003, .arr (.pair (.slice (.pair .str (.pair (.slice (.pair (.int .i64) (.pair (.int .i64) .unit))) (.pair .bool .unit)))) (.pair (.int .i64) (.pair .bool (.pair .bool .unit)))) true []), (2004, .blk (.mt .str (.slice (.int .i64))) .unit)] }), ((.exit 0), { t := [(1, .fn 115 (.pair (.ref 2001 [] .ptr) (.imm .unit .unit)))], h := [(2001, .obj .ptr (.ref 2002 [] (.pair (.slice (.pair (.slice (.pair .str (.pair (.slice (.pair (.int .i64) (.pair (.int .i64) .unit))) (.pair .bool .unit)))) (.pair (.int .i64) (.pair .bool (.pair .bool .unit))))) (.pair .map .unit)))), (2002, .obj (.pair (.slice (.pair (.slice (.pair .str (.pair (.slice (.pair (.int .i64) (.pair (.int .i64) .unit))) (.pair .bool .unit)))) (.pair (.int .i64) (.pair .bool (.pair .bool .unit))))) (.pair .map .unit)) (.pair (.slf 2003 (.pair (.slice (.pair .str (.pair (.slice (.pair (.int .i64) (.pair (.int .i64) .unit))) (.pair .bool .unit)))) (.pair (.int .i64) (.pair .bool (.pair .bool .unit))))) (.pair (.blk 2004 (.mt .str (.slice (.int .i64)))) (.imm .unit .unit)))), (2003, .arr (.pair (.slice (.pair .str (.pair (.slice (.pair (.int .i64) (.pair (.int .i64) .unit))) (.pair .bool .unit)))) (.pair (.int .i64) (.pair .bool (.pair .bool .unit)))) true []), (2004, .blk (.mt .str (.slice (.int .i64))) .unit)] })]
noncomputable def f169_1_s26 (ls : List P) : Tree Step :=
 .ite (decide ((lf ls 3).toInt < (lf ls 2).toInt)) (
  .ite (inb ((lf ls 3).toInt) (((lf ls 0).xs).length)) (
   .loop (f115_1_v [rd ((lf ls 0).xs) (((lf ls 3).toInt).toNat), .list ((lf ls 5).isNil) ((lf ls 5).xs), lf ls 6, lf ls 4]) fun x1 =>
    .ite (Nat.beq x1.1 0) (
     .ite ((lf x1.2 0).toBool) (
      .ret (.inr (0, [lf ls 1, lf ls 3, lf ls 4, .list ((lf ls 5).isNil) ((lf ls 5).xs), lf ls 6]))) (
      .ret (.inl [lf ls 0, lf ls 1, lf ls 2, .int .i64 (IntKind.i64.wrap (((lf ls 3).toInt) + (1 : Int))), lf ls 4, .list ((lf ls 5).isNil) ((lf ls 5).xs), lf ls 6]))) (
     .fail)) (
   .fail)) (
  .ret (.inr (1, [lf ls 1, lf ls 4, .list ((lf ls 5).isNil) ((lf ls 5).xs), lf ls 6])))
noncomputable def f169_1_t (ps : List P) : Tree (Nat × List P) :=
 .loop (loopT f169_1_s26 FUEL [lf ps 0, lf ps 4, .int .i64 (((lf ps 0).xs).length : Int), .int .i64 (0 : Int), lf ps 3, .list ((lf ps 1).isNil) ((lf ps 1).xs), lf ps 2]) fun y2 =>
  .ite (Nat.beq y2.1 0) (
   .ret (0, [lf y2.2 1, .list ((lf y2.2 3).isNil) ((lf y2.2 3).xs), lf y2.2 4, lf y2.2 2])) (
   .ite (Nat.beq y2.1 1) (
    .ret (0, [.int .i64 (-1 : Int), .list ((lf y2.2 2).isNil) ((lf y2.2 2).xs), lf y2.2 3, lf y2.2 1])) (
    .fail))
noncomputable def f169_1_v (ps : List P) : Option (Nat × List P) := (f169_1_t ps).run some
noncomputable def f169_1_e : EntD := ⟨169, [.imm (.slice (.int .i64)), .fn 115 (.pair (.box .ptr (.box (.pair (.slice (.pair (.slice (.pair .str (.pair (.slice (.pair (.int .i64) (.pair (.int .i64) .unit))) (.pair .bool .unit)))) (.pair (.int .i64) (.pair .bool (.pair .bool .unit))))) (.pair .map .unit)) (.pair (.own (.pair (.slice (.pair .str (.pair (.slice (.pair (.int .i64) (.pair (.int .i64) .unit))) (.pair .bool .unit)))) (.pair (.int .i64) (.pair .bool (.pair .bool .unit))))) (.pair (.blk (.mt .str (.slice (.int .i64)))) (.imm .unit))))) (.imm .unit))], f169_1_v, [fun ps ls qs => ⟨[.imm (.int .i64) (lf qs 0)], [.imm (.slice (.int .i64)) (lf ps 0), .fn 115 (.pair (.box (ls.getD 0 0) .ptr (.box (ls.getD 1 0) (.pair (.slice (.pair (.slice (.pair .str (.pair (.slice (.pair (.int .i64) (.pair (.int .i64) .unit))) (.pair .bool .unit)))) (.pair (.int .i64) (.pair .bool (.pair .bool .unit))))) (.pair .map .unit)) (.pair (.own (ls.getD 2 0) (.pair (.slice (.pair .str (.pair (.slice (.pair (.int .i64) (.pair (.int .i64) .unit))) (.pair .bool .unit)))) (.pair (.int .i64) (.pair .bool (.pair .bool .unit)))) (lf qs 1).isNil (lf qs 1).xs) (.pair (.blk (ls.getD 3 0) (.mt .str (.slice (.int .i64))) (lf qs 2)) (.imm .unit (lf qs 3)))))) (.imm .unit (lf ps 4)))]⟩]⟩
noncomputable def f169_1_u : List Cu := [.loop 26 f169_1_k26 f169_1_o26 f169_1_s26]
noncomputable def f169_1_c : Cx := ⟨Try.prog, envOf [f115_1_e], 19, lOf f169_1_u, fun _ => false⟩
noncomputable def f169_1_b : Code := match Try.f169.body with | some b => b | none => .skip
theorem f169_1_q26 : (Cu.loop 26 f169_1_k26 f169_1_o26 f169_1_s26).Ok f169_1_c f169_1_b := ⟨by kernel_rfl, fun ls Kr Kx => by kernel_rfl⟩
theorem f169_1_x (ps : List P) (ls : List Nat) : execFn f169_1_c 169 f169_1_e.tm (explF ps 5 0) ls = (f169_1_t ps).run fun q => altR (f169_1_e.res.map fun f => f ps ls) 0 q some := by kernel_rfl
theorem f169_1_ok : OkEnt Try.prog f169_1_e := ent_ok (c := f169_1_c) (g := 169) (body := f169_1_b) (us := f169_1_u) (n := 5) (t := f169_1_t) (good_envOf _ ⟨f115_1_ok, trivial⟩) Try.func169 rfl Try.call169 rfl ⟨f169_1_q26, trivial⟩ (by kernel_rfl) f169_1_x (fun _ => rfl)
/-! ### slices.DeleteFunc[[]int,int] -/
noncomputable def f114_1_k122 : Sk := { t := [(0, .imm (.slice (.int .i64)) .unit), (1, .fn 115 (.pair (.ref 2001 [] .ptr) (.imm .unit .unit))), (5, .imm (.int .i64) .unit), (6, .imm (.int .i64) .unit)], h := [(2001, .obj .ptr (.ref 2002 [] (.pair (.slice (.pair (.slice (.pair .str (.pair (.slice (.pair (.int .i64) (.pair (.int .i64) .unit))) (.pair .bool .unit)))) (.pair (.int .i64) (.pair .bool (.pair .bool .unit))))) (.pair .map .unit)))), (2002, .obj (.pair (.slice (.pair (.slice (.pair .str (.pair (.slice (.pair (.int .i64) (.pair (.int .i64) .unit))) (.pair .bool .unit)))) (.pair (.int .i64) (.pair .bool (.pair .bool .unit))))) (.pair .map .unit)) (.pair (.slf 2003 (.pair (.slice (.pair .str (.pair (.slice (.pair (.int .i64) (.pair (.int .i64) .unit))) (.pair .bool .unit)))) (.pair (.int .i64) (.pair .bool (.pair .bool .unit))))) (.pair (.blk 2004 (.mt .str (.slice (.int .i64)))) (.imm .unit .unit)))), (2003, .arr (.pair (.slice (.pair .str (.pair (.slice (.pair (.int .i64) (.pair (.int .i64) .unit))) (.pair .bool .unit)))) (.pair (.int .i64) (.pair .bool (.pair .bool .unit)))) true []), (2004, .blk (.mt .str (.slice (.int .i64))) .unit)] }
noncomputable def f114_1_o122 : List (Out × Sk) := [((.exit 0), { t := [(0, .imm (.slice (.int .i64)) .unit), (1, .fn 115 (.pair (.ref 2001 [] .ptr) (.imm .unit .unit))), (5, .imm (.int .i64) .unit)], h := [(2001, .obj .ptr (.ref 2002 [] (.pair (.slice (.pair (.slice (.pair .str (.pair (.slice (.pair (.int .i64) (.pair (.int .i64) .unit))) (.pair .bool .unit)))) (.pair (.int .i64) (.pair .bool (.pair .bool .unit))))) (.pair .map .unit)))), (2002, .obj (.pair (.slice (.pair (.slice (.pair .str (.pair (.slice (.pair (.int .i64) (.pair (.int .i64) .unit))) (.pair .bool .unit)))) (.pair (.int .i64) (.pair .bool (.pair .bool .unit))))) (.pair .map .unit)) (.pair (.slf 2003 (.pair (.slice (.pair .str (.pair (.slice (.pair (.int .i64) (.pair (.int .i64) .unit))) (.pair .bool .unit)))) (.pair (.int .i64) (.pair .bool (.pair .bool .unit))))) (.pair (.blk 2004 (.mt .str (.slice (.int .i64)))) (.imm .unit .unit)))), (2003, .arr (.pair (.slice (.pair .str (.pair (.slice (.pair (.int .i64) (.pair (.int .i64) .unit))) (.pair .bool .unit)))) (.pair (.int .i64) (.pair .bool (.pair .bool .unit)))) true []), (2004, .blk (.mt .str (.slice (.int .i64))) .unit)] })]
noncomputable def f114_1_s122 (ls : List P) : Tree Step :=
 .ite (decide ((lf ls 3).toInt < (((lf ls 0).xs).length : Int))) (
  .ite (inb ((lf ls 3).toInt) (((lf ls 0).xs).length)) (
   .loop (f115_1_v [rd ((lf ls 0).xs) (((lf ls 3).toInt).toNat), .list ((lf ls 5).isNil) ((lf ls 5).xs), lf ls 6, lf ls 4]) fun x2 =>
    .ite (Nat.beq x2.1 0) (
     .ite (!((lf x2.2 0).toBool)) (
      .ite (inb ((lf ls 2).toInt) (((lf ls 0).xs).length)) (
       .fail) (
       .fail)) (
      .ret (.inl [lf ls 0, lf ls 1, lf ls 2, .int .i64 (IntKind.i64.wrap (((lf ls 3).toInt) + (1 : Int))), lf ls 4, .list ((lf ls 5).isNil) ((lf ls 5).xs), lf ls 6]))) (
     .fail)) (
   .fail)) (
  .ret (.inr (0, [lf ls 0, lf ls 1, lf ls 2, lf ls 4, .list ((lf ls 5).isNil) ((lf ls 5).xs), lf ls 6])))
noncomputable def f114_1_t (ps : List P) : Tree (Nat × List P) :=
 .loop (f169_1_v [lf ps 0, .list ((lf ps 1).isNil) ((lf ps 1).xs), lf ps 2, lf ps 3, lf ps 4]) fun x1 =>
  .ite (Nat.beq x1.1 0) (
   .ite (((lf x1.2 0).toInt) == (-1 : Int)) (
    .ret (0, [.list ((lf x1.2 1).isNil) ((lf x1.2 1).xs), lf x1.2 2, lf x1.2 3])) (
    .loop (loopT f114_1_s122 FUEL [lf ps 0, lf ps 4, lf x1.2 0, .int .i64 (IntKind.i64.wrap (((lf x1.2 0).toInt) + (1 : Int))), lf x1.2 3, .list ((lf x1.2 1).isNil) ((lf x1.2 1).xs), lf x1.2 2]) fun y3 =>
     .ite (Nat.beq y3.1 0) (
      .ite (decide ((0 : Int) ≤ (lf y3.2 2).toInt ∧ (lf y3.2 2).toInt ≤ (((lf y3.2 0).xs).length : Int) ∧ (((lf y3.2 0).xs).length : Int) ≤ (((lf y3.2 0).xs).length : Int))) (
       .fail) (
       .fail)) (
      .fail))) (
   .fail)
noncomputable def f114_1_v (ps : List P) : Option (Nat × List P) := (f114_1_t ps).run some
noncomputable def f114_1_e : EntD := ⟨114, [.imm (.slice (.int .i64)), .fn 115 (.pair (.box .ptr (.box (.pair (.slice (.pair (.slice (.pair .str (.pair (.slice (.pair (.int .i64) (.pair (.int .i64) .unit))) (.pair .bool .unit)))) (.pair (.int .i64) (.pair .bool (.pair .bool .unit))))) (.pair .map .unit)) (.pair (.own (.pair (.slice (.pair .str (.pair (.slice (.pair (.int .i64) (.pair (.int .i64) .unit))) (.pair .bool .unit)))) (.pair (.int .i64) (.pair .bool (.pair .bool .unit))))) (.pair (.blk (.mt .str (.slice (.int .i64)))) (.imm .unit))))) (.imm .unit))], f114_1_v, [fun ps ls qs => ⟨[.imm (.slice (.int .i64)) (lf ps 0)], [.imm (.slice (.int .i64)) (lf ps 0), .fn 115 (.pair (.box (ls.getD 0 0) .ptr (.box (ls.getD 1 0) (.pair (.slice (.pair (.slice (.pair .str (.pair (.slice (.pair (.int .i64) (.pair (.int .i64) .unit))) (.pair .bool .unit)))) (.pair (.int .i64) (.pair .bool (.pair .bool .unit))))) (.pair .map .unit)) (.pair (.own (ls.getD 2 0) (.pair (.slice (.pair .str (.pair (.slice (.pair (.int .i64) (.pair (.int .i64) .unit))) (.pair .bool .unit)))) (.pair (.int .i64) (.pair .bool (.pair .bool .unit)))) (lf qs 0).isNil (lf qs 0).xs) (.pair (.blk (ls.getD 3 0) (.mt .str (.slice (.int .i64))) (lf qs 1)) (.imm .unit (lf qs 2)))))) (.imm .unit (lf ps 4)))]⟩]⟩
noncomputable def f114_1_u : List Cu := [.loop 122 f114_1_k122 f114_1_o122 f114_1_s122]
noncomputable def f114_1_c : Cx := ⟨Try.prog, envOf [f115_1_e, f169_1_e], 42, lOf f114_1_u, fun _ => false⟩
noncomputable def f114_1_b : Code := match Try.f114.body with | some b => b | none => .skip
theorem f114_1_q122 : (Cu.loop 122 f114_1_k122 f114_1_o122 f114_1_s122).Ok f114_1_c f114_1_b := ⟨by kernel_rfl, fun ls Kr Kx => by kernel_rfl⟩
theorem f114_1_x (ps : List P) (ls : List Nat) : execFn f114_1_c 114 f114_1_e.tm (explF ps 5 0) ls = (f114_1_t ps).run fun q => altR (f114_1_e.res.map fun f => f ps ls) 0 q some := by kernel_rfl
theorem f114_1_ok : OkEnt Try.prog f114_1_e := ent_ok (c := f114_1_c) (g := 114) (body := f114_1_b) (us := f114_1_u) (n := 5) (t := f114_1_t) (good_envOf _ ⟨f115_1_ok, f169_1_ok, trivial⟩) Try.func114 rfl Try.call114 rfl ⟨f114_1_q122, trivial⟩ (by kernel_rfl) f114_1_x (fun _ => rfl)
/-! ### slices.IndexFunc[[]int,int] -/
noncomputable def f169_2_k26 : Sk := { t := [(0, .slf 2001 (.int .i64)), (1, .fn 115 (.pair (.ref 2002 [] .ptr) (.imm .unit .unit))), (7, .imm (.int .i64) .unit), (8, .imm (.int .i64) .unit)], h := [(2001, .arr (.int .i64) true []), (2002, .obj .ptr (.ref 2003 [] (.pair (.slice (.pair (.slice (.pair .str (.pair (.slice (.pair (.int .i64) (.pair (.int .i64) .unit))) (.pair .bool .unit)))) (.pair (.int .i64) (.pair .bool (.pair .bool .unit))))) (.pair .map .unit)))), (2003, .obj (.pair (.slice (.pair (.slice (.pair .str (.pair (.slice (.pair (.int .i64) (.pair (.int .i64) .unit))) (.pair .bool .unit)))) (.pair (.int .i64) (.pair .bool (.pair .bool .unit))))) (.pair .map .unit)) (.pair (.slf 2004 (.pair (.slice (.pair .str (.pair (.slice (.pair (.int .i64) (.pair (.int .i64) .unit))) (.pair .bool .unit)))) (.pair (.int .i64) (.pair .bool (.pair .bool .unit))))) (.pair (.blk 2005 (.mt .str (.slice (.int .i64)))) (.imm .unit .unit)))), (2004, .arr (.pair (.slice (.pair .str (.pair (.slice (.pair (.int .i64) (.pair (.int .i64) .unit))) (.pair .bool .unit)))) (.pair (.int .i64) (.pair .bool (.pair .bool .unit)))) true []), (2005, .blk (.mt .str (.slice (.int .i64))) .unit)] }
noncomputable def f169_2_o26 : List (Out × Sk) := [(.ret, { t := [(0, .slf 2001 (.int .i64)), (1, .fn 115 (.pair (.ref 2002 [] .ptr) (.imm .unit .unit))), (4, .imm (.int .i64) .unit)], h := [(2001, .arr (.int .i64) true []), (2002, .obj .ptr (.ref 2003 [] (.pair (.slice (.pair (.slice (.pair .str (.pair (.slice (.pair (.int .i64) (.pair (.int .i64) .unit))) (.pair .bool .unit)))) (.pair (.int .i64) (.pair .bool (.pair .bool .unit))))) (.pair .map .unit)))), (2003, .obj (.pair (.slice (.pair (.slice (.pair .str (.pair (.slice (.pair (.int .i64) (.pair (.int .i64) .unit))) (.pair .bool .unit)))) (.pair (.int .i64) (.pair .bool (.pair .bool .unit))))) (.pair .map .unit)) (.pair (.slf 2004 (.pair (.slice (.pair .str (.pair (.slice (.pair (.int .i64) (.pair (.int .i64) .unit))) (.pair .bool .unit)))) (.pair (.int .i64) (.pair .bool (.pair .bool .unit))))) (.pair (.blk 2005 (.mt .str (.slice (.int .i64)))) (.imm .unit .unit)))), (2004, .arr (.pair (.slice (.pair .str (.pair (.slice (.pair (.int .i64) (.pair (.int .i64) .unit))) (.pair .bool .unit)))) (.pair (.int .i64) (.pair .bool (.pair .bool .unit)))) true []), (2005, .blk (.mt .str (.slice (.int .i64))) .unit)] }), ((.exit 0), { t := [(0, .slf 2001 (.int .i64)), (1, .fn 115 (.pair (.ref 2002 [] .ptr) (.imm .unit .unit)))], h := [(2001, .arr (.int .i64) true []), (2002, .obj .ptr (.ref 2003 [] (.pair (.slice (.pair (.slice (.pair .str (.pair (.slice (.pair (.int .i64) (.pair (.int .i64) .unit))) (.pair .bool .unit)))) (.pair (.int .i64) (.pair .bool (.pair .bool .unit))))) (.pair .map .unit)))), (2003, .obj (.pair (.slice (.pair (.slice (.pair .str (.pair (.slice (.pair (.int .i64) (.pair (.int .i64) .unit))) (.pair .bool .unit)))) (.pair (.int .i64) (.pair .bool (.pair .bool .unit))))) (.pair .map .unit)) (.pair (.slf 2004 (.pair (.slice (.pair .str (.pair (.slice (.pair (.int .i64) (.pair (.int .i64) .unit))) (.pair .bool .unit)))) (.pair (.int .i64) (.pair .bool (.pair .bool .unit))))) (.pair (.blk 2005 (.mt .str (.slice (.int .i64)))) (.imm .unit .unit)))), (2004, .arr (.pair (.slice (.pair .str (.pair (.slice (.pair (.int .i64) (.pair (.int .i64) .unit))) (.pair .bool .unit)))) (.pair (.int .i64) (.pair .bool (.pair .bool .unit)))) true []), (2005, .blk (.mt .str (.slice (.int .i64))) .unit)] })]
noncomputable def f169_2_s26 (ls : List P) : Tree Step :=
 .ite (decide ((lf ls 2).toInt < (lf ls 1).toInt)) (
  .ite (inb ((lf ls 2).toInt) (((lf ls 3).xs).length)) (
   .loop (f115_1_v [rd ((lf ls 3).xs) (((lf ls 2).toInt).toNat), .list ((lf ls 5).isNil) ((lf ls 5).xs), lf ls 6, lf ls 4]) fun x1 =>
    .ite (Nat.beq x1.1 0) (
     .ite ((lf x1.2 0).toBool) (
      .ret (.inr (0, [lf ls 0, lf ls 2, .list ((lf ls 3).isNil) ((lf ls 3).xs), lf ls 4, .list ((lf ls 5).isNil) ((lf ls 5).xs), lf ls 6]))) (
      .ret (.inl [lf ls 0, lf ls 1, .int .i64 (IntKind.i64.wrap (((lf ls 2).toInt) + (1 : Int))), .list ((lf ls 3).isNil) ((lf ls 3).xs), lf ls 4, .list ((lf ls 5).isNil) ((lf ls 5).xs), lf ls 6]))) (
     .fail)) (
   .fail)) (
  .ret (.inr (1, [lf ls 0, .list ((lf ls 3).isNil) ((lf ls 3).xs), lf ls 4, .list ((lf ls 5).isNil) ((lf ls 5).xs), lf ls 6])))
noncomputable def f169_2_t (ps : List P) : Tree (Nat × List P) :=
 .loop (loopT f169_2_s26 FUEL [lf ps 4, .int .i64 (((lf ps 0).xs).length : Int), .int .i64 (0 : Int), .list ((lf ps 0).isNil) ((lf ps 0).xs), lf ps 3, .list ((lf ps 1).isNil) ((lf ps 1).xs), lf ps 2]) fun y2 =>
  .ite (Nat.beq y2.1 0) (
   .ret (0, [lf y2.2 1, .list ((lf y2.2 2).isNil) ((lf y2.2 2).xs), .list ((lf y2.2 4).isNil) ((lf y2.2 4).xs), lf y2.2 5, lf y2.2 3])) (
   .ite (Nat.beq y2.1 1) (
    .ret (0, [.int .i64 (-1 : Int), .list ((lf y2.2 1).isNil) ((lf y2.2 1).xs), .list ((lf y2.2 3).isNil) ((lf y2.2 3).xs), lf y2.2 4, lf y2.2 2])) (
    .fail))
noncomputable def f169_2_v (ps : List P) : Option (Nat × List P) := (f169_2_t ps).run some
noncomputable def f169_2_e : EntD := ⟨169, [.own (.int .i64), .fn 115 (.pair (.box .ptr (.box (.pair (.slice (.pair (.slice (.pair .str (.pair (.slice (.pair (.int .i64) (.pair (.int .i64) .unit))) (.pair .bool .unit)))) (.pair (.int .i64) (.pair .bool (.pair .bool .unit))))) (.pair .map .unit)) (.pair (.own (.pair (.slice (.pair .str (.pair (.slice (.pair (.int .i64) (.pair (.int .i64) .unit))) (.pair .bool .unit)))) (.pair (.int .i64) (.pair .bool (.pair .bool .unit))))) (.pair (.blk (.mt .str (.slice (.int .i64)))) (.imm .unit))))) (.imm .unit))], f169_2_v, [fun ps ls qs => ⟨[.imm (.int .i64) (lf qs 0)], [.own (ls.getD 0 0) (.int .i64) (lf qs 1).isNil (lf qs 1).xs, .fn 115 (.pair (.box (ls.getD 1 0) .ptr (.box (ls.getD 2 0) (.pair (.slice (.pair (.slice (.pair .str (.pair (.slice (.pair (.int .i64) (.pair (.int .i64) .unit))) (.pair .bool .unit)))) (.pair (.int .i64) (.pair .bool (.pair .bool .unit))))) (.pair .map .unit)) (.pair (.own (ls.getD 3 0) (.pair (.slice (.pair .str (.pair (.slice (.pair (.int .i64) (.pair (.int .i64) .unit))) (.pair .bool .unit)))) (.pair (.int .i64) (.pair .bool (.pair .bool .unit)))) (lf qs 2).isNil (lf qs 2).xs) (.pair (.blk (ls.getD 4 0) (.mt .str (.slice (.int .i64))) (lf qs 3)) (.imm .unit (lf qs 4)))))) (.imm .unit (lf ps 4)))]⟩]⟩
noncomputable def f169_2_u : List Cu := [.loop 26 f169_2_k26 f169_2_o26 f169_2_s26]
noncomputable def f169_2_c : Cx := ⟨Try.prog, envOf [f115_1_e], 19, lOf f169_2_u, fun _ => false⟩
noncomputable def f169_2_b : Code := match Try.f169.body with | some b => b | none => .skip
theorem f169_2_q26 : (Cu.loop 26 f169_2_k26 f169_2_o26 f169_2_s26).Ok f169_2_c f169_2_b := ⟨by kernel_rfl, fun ls Kr Kx => by kernel_rfl⟩
theorem f169_2_x (ps : List P) (ls : List Nat) : execFn f169_2_c 169 f169_2_e.tm (explF ps 5 0) ls = (f169_2_t ps).run fun q => altR (f169_2_e.res.map fun f => f ps ls) 0 q some := by kernel_rfl
theorem f169_2_ok : OkEnt Try.prog f169_2_e := ent_ok (c := f169_2_c) (g := 169) (body := f169_2_b) (us := f169_2_u) (n := 5) (t := f169_2_t) (good_envOf _ ⟨f115_1_ok, trivial⟩) Try.func169 rfl Try.call169 rfl ⟨f169_2_q26, trivial⟩ (by kernel_rfl) f169_2_x (fun _ => rfl)
/-! ### slices.DeleteFunc[[]int,int] -/
noncomputable def f114_2_k122 : Sk := { t := [(0, .slf 2001 (.int .i64)), (1, .fn 115 (.pair (.ref 2002 [] .ptr) (.imm .unit .unit))), (5, .imm (.int .i64) .unit), (6, .imm (.int .i64) .unit)], h := [(2001, .arr (.int .i64) true []), (2002, .obj .ptr (.ref 2003 [] (.pair (.slice (.pair (.slice (.pair .str (.pair (.slice (.pair (.int .i64) (.pair (.int .i64) .unit))) (.pair .bool .unit)))) (.pair (.int .i64) (.pair .bool (.pair .bool .unit))))) (.pair .map .unit)))), (2003, .obj (.pair (.slice (.pair (.slice (.pair .str (.pair (.slice (.pair (.int .i64) (.pair (.int .i64) .unit))) (.pair .bool .unit)))) (.pair (.int .i64) (.pair .bool (.pair .bool .unit))))) (.pair .map .unit)) (.pair (.slf 2004 (.pair (.slice (.pair .str (.pair (.slice (.pair (.int .i64) (.pair (.int .i64) .unit))) (.pair .bool .unit)))) (.pair (.int .i64) (.pair .bool (.pair .bool .unit))))) (.pair (.blk 2005 (.mt .str (.slice (.int .i64)))) (.imm .unit .unit)))), (2004, .arr (.pair (.slice (.pair .str (.pair (.slice (.pair (.int .i64) (.pair (.int .i64) .unit))) (.pair .bool .unit)))) (.pair (.int .i64) (.pair .bool (.pair .bool .unit)))) true []), (2005, .blk (.mt .str (.slice (.int .i64))) .unit)] }
noncomputable def f114_2_o122 : List (Out × Sk) := [((.exit 0), { t := [(0, .slf 2001 (.int .i64)), (1, .fn 115 (.pair (.ref 2002 [] .ptr) (.imm .unit .unit))), (5, .imm (.int .i64) .unit)], h := [(2001, .arr (.int .i64) true []), (2002, .obj .ptr (.ref 2003 [] (.pair (.slice (.pair (.slice (.pair .str (.pair (.slice (.pair (.int .i64) (.pair (.int .i64) .unit))) (.pair .bool .unit)))) (.pair (.int .i64) (.pair .bool (.pair .bool .unit))))) (.pair .map .unit)))), (2003, .obj (.pair (.slice (.pair (.slice (.pair .str (.pair (.slice (.pair (.int .i64) (.pair (.int .i64) .unit))) (.pair .bool .unit)))) (.pair (.int .i64) (.pair .bool (.pair .bool .unit))))) (.pair .map .unit)) (.pair (.slf 2004 (.pair (.slice (.pair .str (.pair (.slice (.pair (.int .i64) (.pair (.int .i64) .unit))) (.pair .bool .unit)))) (.pair (.int .i64) (.pair .bool (.pair .bool .unit))))) (.pair (.blk 2005 (.mt .str (.slice (.int .i64)))) (.imm .unit .unit)))), (2004, .arr (.pair (.slice (.pair .str (.pair (.slice (.pair (.int .i64) (.pair (.int .i64) .unit))) (.pair .bool .unit)))) (.pair (.int .i64) (.pair .bool (.pair .bool .unit)))) true []), (2005, .blk (.mt .str (.slice (.int .i64))) .unit)] })]
noncomputable def f114_2_s122 (ls : List P) : Tree Step :=
 .ite (decide ((lf ls 2).toInt < (((lf ls 3).xs).length : Int))) (
  .ite (inb ((lf ls 2).toInt) (((lf ls 3).xs).length)) (
   .loop (f115_1_v [rd ((lf ls 3).xs) (((lf ls 2).toInt).toNat), .list ((lf ls 5).isNil) ((lf ls 5).xs), lf ls 6, lf ls 4]) fun x2 =>
    .ite (Nat.beq x2.1 0) (
     .ite (!((lf x2.2 0).toBool)) (
      .ite (inb ((lf ls 1).toInt) (((lf ls 3).xs).length)) (
       .ret (.inl [lf ls 0, .int .i64 (IntKind.i64.wrap (((lf ls 1).toInt) + (1 : Int))), .int .i64 (IntKind.i64.wrap (((lf ls 2).toInt) + (1 : Int))), .list ((lf ls 3).isNil) (((lf ls 3).xs).set (((lf ls 1).toInt).toNat) (rd ((lf ls 3).xs) (((lf ls 2).toInt).toNat))), lf ls 4, .list ((lf ls 5).isNil) ((lf ls 5).xs), lf ls 6])) (
       .fail)) (
      .ret (.inl [lf ls 0, lf ls 1, .int .i64 (IntKind.i64.wrap (((lf ls 2).toInt) + (1 : Int))), .list ((lf ls 3).isNil) ((lf ls 3).xs), lf ls 4, .list ((lf ls 5).isNil) ((lf ls 5).xs), lf ls 6]))) (
     .fail)) (
   .fail)) (
  .ret (.inr (0, [lf ls 0, lf ls 1, .list ((lf ls 3).isNil) ((lf ls 3).xs), lf ls 4, .list ((lf ls 5).isNil) ((lf ls 5).xs), lf ls 6])))
noncomputable def f114_2_t (ps : List P) : Tree (Nat × List P) :=
 .loop (f169_2_v [.list ((lf ps 0).isNil) ((lf ps 0).xs), .list ((lf ps 1).isNil) ((lf ps 1).xs), lf ps 2, lf ps 3, lf ps 4]) fun x1 =>
  .ite (Nat.beq x1.1 0) (
   .ite (((lf x1.2 0).toInt) == (-1 : Int)) (
    .ret (0, [.list ((lf x1.2 1).isNil) ((lf x1.2 1).xs), .list ((lf x1.2 2).isNil) ((lf x1.2 2).xs), lf x1.2 3, lf x1.2 4])) (
    .loop (loopT f114_2_s122 FUEL [lf ps 4, lf x1.2 0, .int .i64 (IntKind.i64.wrap (((lf x1.2 0).toInt) + (1 : Int))), .list ((lf x1.2 1).isNil) ((lf x1.2 1).xs), lf x1.2 4, .list ((lf x1.2 2).isNil) ((lf x1.2 2).xs), lf x1.2 3]) fun y3 =>
     .ite (Nat.beq y3.1 0) (
      .ite (decide ((0 : Int) ≤ (lf y3.2 1).toInt ∧ (lf y3.2 1).toInt ≤ (((lf y3.2 2).xs).length : Int) ∧ (((lf y3.2 2).xs).length : Int) ≤ (((lf y3.2 2).xs).length : Int))) (
       .ite (decide ((0 : Int) ≤ (0 : Int) ∧ (0 : Int) ≤ (lf y3.2 1).toInt ∧ (lf y3.2 1).toInt ≤ ((clr (((lf y3.2 1).toInt).toNat) (((((lf y3.2 2).xs).length : Int).toNat) - (((lf y3.2 1).toInt).toNat)) (.int .i64 (0 : Int)) ((lf y3.2 2).xs)).length : Int))) (
        .ret (1, [.int .i64 (0 : Int), .int .i64 ((((lf y3.2 1).toInt).toNat) - 0 : Int), .list ((lf y3.2 2).isNil) (clr (((lf y3.2 1).toInt).toNat) (((((lf y3.2 2).xs).length : Int).toNat) - (((lf y3.2 1).toInt).toNat)) (.int .i64 (0 : Int)) ((lf y3.2 2).xs)), .list ((lf y3.2 4).isNil) ((lf y3.2 4).xs), lf y3.2 5, lf y3.2 3])) (
        .fail)) (
       .fail)) (
      .fail))) (
   .fail)
noncomputable def f114_2_v (ps : List P) : Option (Nat × List P) := (f114_2_t ps).run some
noncomputable def f114_2_e : EntD := ⟨114, [.own (.int .i64), .fn 115 (.pair (.box .ptr (.box (.pair (.slice (.pair (.slice (.pair .str (.pair (.slice (.pair (.int .i64) (.pair (.int .i64) .unit))) (.pair .bool .unit)))) (.pair (.int .i64) (.pair .bool (.pair .bool .unit))))) (.pair .map .unit)) (.pair (.own (.pair (.slice (.pair .str (.pair (.slice (.pair (.int .i64) (.pair (.int .i64) .unit))) (.pair .bool .unit)))) (.pair (.int .i64) (.pair .bool (.pair .bool .unit))))) (.pair (.blk (.mt .str (.slice (.int .i64)))) (.imm .unit))))) (.imm .unit))], f114_2_v, [fun ps ls qs => ⟨[.ali (ls.getD 0 0)], [.own (ls.getD 0 0) (.int .i64) (lf qs 0).isNil (lf qs 0).xs, .fn 115 (.pair (.box (ls.getD 1 0) .ptr (.box (ls.getD 2 0) (.pair (.slice (.pair (.slice (.pair .str (.pair (.slice (.pair (.int .i64) (.pair (.int .i64) .unit))) (.pair .bool .unit)))) (.pair (.int .i64) (.pair .bool (.pair .bool .unit))))) (.pair .map .unit)) (.pair (.own (ls.getD 3 0) (.pair (.slice (.pair .str (.pair (.slice (.pair (.int .i64) (.pair (.int .i64) .unit))) (.pair .bool .unit)))) (.pair (.int .i64) (.pair .bool (.pair .bool .unit)))) (lf qs 1).isNil (lf qs 1).xs) (.pair (.blk (ls.getD 4 0) (.mt .str (.slice (.int .i64))) (lf qs 2)) (.imm .unit (lf qs 3)))))) (.imm .unit (lf ps 4)))]⟩, fun ps ls qs => ⟨[.alw (ls.getD 0 0) ((lf qs 0)).toInt.toNat ((lf qs 1)).toInt.toNat], [.own (ls.getD 0 0) (.int .i64) (lf qs 2).isNil (lf qs 2).xs, .fn 115 (.pair (.box (ls.getD 1 0) .ptr (.box (ls.getD 2 0) (.pair (.slice (.pair (.slice (.pair .str (.pair (.slice (.pair (.int .i64) (.pair (.int .i64) .unit))) (.pair .bool .unit)))) (.pair (.int .i64) (.pair .bool (.pair .bool .unit))))) (.pair .map .unit)) (.pair (.own (ls.getD 3 0) (.pair (.slice (.pair .str (.pair (.slice (.pair (.int .i64) (.pair (.int .i64) .unit))) (.pair .bool .unit)))) (.pair (.int .i64) (.pair .bool (.pair .bool .unit)))) (lf qs 3).isNil (lf qs 3).xs) (.pair (.blk (ls.getD 4 0) (.mt .str (.slice (.int .i64))) (lf qs 4)) (.imm .unit (lf qs 5)))))) (.imm .unit (lf ps 4)))]⟩]⟩
noncomputable def f114_2_u : List Cu := [.loop 122 f114_2_k122 f114_2_o122 f114_2_s122]
noncomputable def f114_2_c : Cx := ⟨Try.prog, envOf [f115_1_e, f169_1_e, f169_2_e], 42, lOf f114_2_u, fun _ => false⟩
noncomputable def f114_2_b : Code := match Try.f114.body with | some b => b | none => .skip
theorem f114_2_q122 : (Cu.loop 122 f114_2_k122 f114_2_o122 f114_2_s122).Ok f114_2_c f114_2_b := ⟨by kernel_rfl, fun ls Kr Kx => by kernel_rfl⟩
theorem f114_2_x (ps : List P) (ls : List Nat) : execFn f114_2_c 114 f114_2_e.tm (explF ps 5 0) ls = (f114_2_t ps).run fun q => altR (f114_2_e.res.map fun f => f ps ls) 0 q some := by kernel_rfl
theorem f114_2_ok : OkEnt Try.prog f114_2_e := ent_ok (c := f114_2_c) (g := 114) (body := f114_2_b) (us := f114_2_u) (n := 5) (t := f114_2_t) (good_envOf _ ⟨f115_1_ok, f169_1_ok, f169_2_ok, trivial⟩) Try.func114 rfl Try.call114 rfl ⟨f114_2_q122, trivial⟩ (by kernel_rfl) f114_2_x (fun _ => rfl)
/-! ### (*comprador/store.Store).Learned -/
noncomputable def f35_1_t (ps : List P) : Tree (Nat × List P) :=
 .loop (f23_v [.list ((lf ps 0).isNil) ((lf ps 0).xs), lf ps 1, lf ps 2]) fun x1 =>
  .ite (Nat.beq x1.1 0) (
   .loop (f114_2_v [.list ((lf x1.2 0).isNil) ((lf x1.2 0).xs), .list ((lf x1.2 1).isNil) ((lf x1.2 1).xs), lf x1.2 2, lf x1.2 3, .unit]) fun x2 =>
    .ite (Nat.beq x2.1 0) (
     .ret (1, [.list ((lf x2.2 0).isNil) ((lf x2.2 0).xs), .list ((lf x2.2 1).isNil) ((lf x2.2 1).xs), lf x2.2 2, lf x2.2 3])) (
     .ite (Nat.beq x2.1 1) (
      .ret (0, [.list ((lf x2.2 2).isNil) (winOf (((lf x2.2 0).toInt).toNat) (((lf x2.2 1).toInt).toNat) ((lf x2.2 2).xs)), .list ((lf x2.2 3).isNil) ((lf x2.2 3).xs), lf x2.2 4, lf x2.2 5])) (
      .fail))) (
   .fail)
noncomputable def f35_1_v (ps : List P) : Option (Nat × List P) := (f35_1_t ps).run some
noncomputable def f35_1_e : EntD := ⟨35, [.box (.pair (.slice (.pair (.slice (.pair .str (.pair (.slice (.pair (.int .i64) (.pair (.int .i64) .unit))) (.pair .bool .unit)))) (.pair (.int .i64) (.pair .bool (.pair .bool .unit))))) (.pair .map .unit)) (.pair (.own (.pair (.slice (.pair .str (.pair (.slice (.pair (.int .i64) (.pair (.int .i64) .unit))) (.pair .bool .unit)))) (.pair (.int .i64) (.pair .bool (.pair .bool .unit))))) (.pair (.blk (.mt .str (.slice (.int .i64)))) (.imm .unit)))], f35_1_v, [fun ps ls qs => ⟨[.own 0 (.int .i64) (lf qs 0).isNil (lf qs 0).xs], [.box (ls.getD 0 0) (.pair (.slice (.pair (.slice (.pair .str (.pair (.slice (.pair (.int .i64) (.pair (.int .i64) .unit))) (.pair .bool .unit)))) (.pair (.int .i64) (.pair .bool (.pair .bool .unit))))) (.pair .map .unit)) (.pair (.own (ls.getD 1 0) (.pair (.slice (.pair .str (.pair (.slice (.pair (.int .i64) (.pair (.int .i64) .unit))) (.pair .bool .unit)))) (.pair (.int .i64) (.pair .bool (.pair .bool .unit)))) (lf qs 1).isNil (lf qs 1).xs) (.pair (.blk (ls.getD 2 0) (.mt .str (.slice (.int .i64))) (lf qs 2)) (.imm .unit (lf qs 3))))]⟩, fun ps ls qs => ⟨[.own (ls.getD 98399 0) (.int .i64) (lf qs 0).isNil (lf qs 0).xs], [.box (ls.getD 0 0) (.pair (.slice (.pair (.slice (.pair .str (.pair (.slice (.pair (.int .i64) (.pair (.int .i64) .unit))) (.pair .bool .unit)))) (.pair (.int .i64) (.pair .bool (.pair .bool .unit))))) (.pair .map .unit)) (.pair (.own (ls.getD 1 0) (.pair (.slice (.pair .str (.pair (.slice (.pair (.int .i64) (.pair (.int .i64) .unit))) (.pair .bool .unit)))) (.pair (.int .i64) (.pair .bool (.pair .bool .unit)))) (lf qs 1).isNil (lf qs 1).xs) (.pair (.blk (ls.getD 2 0) (.mt .str (.slice (.int .i64))) (lf qs 2)) (.imm .unit (lf qs 3))))]⟩]⟩
noncomputable def f35_1_u : List Cu := []
noncomputable def f35_1_c : Cx := ⟨Try.prog, envOf [f23_e, f114_1_e, f114_2_e], 7, lOf f35_1_u, fun _ => false⟩
noncomputable def f35_1_b : Code := match Try.f35.body with | some b => b | none => .skip
theorem f35_1_x (ps : List P) (ls : List Nat) : execFn f35_1_c 35 f35_1_e.tm (explF ps 3 0) ls = (f35_1_t ps).run fun q => altR (f35_1_e.res.map fun f => f ps ls) 0 q some := by kernel_rfl
theorem f35_1_ok : OkEnt Try.prog f35_1_e := ent_ok (c := f35_1_c) (g := 35) (body := f35_1_b) (us := f35_1_u) (n := 3) (t := f35_1_t) (good_envOf _ ⟨f23_ok, f114_1_ok, f114_2_ok, trivial⟩) Try.func35 rfl Try.call35 rfl trivial (by kernel_rfl) f35_1_x (fun _ => rfl)
/-! ### (comprador/compradorref24.X).Learned -/
noncomputable def f39_k58 : Sk := { t := [(1, .ref 5100 [] (.pair (.slice (.pair (.slice (.pair .str (.pair (.slice (.pair (.int .i64) (.pair (.int .i64) .unit))) (.pair .bool .unit)))) (.pair (.int .i64) (.pair .bool (.pair .bool .unit))))) .unit)), (3, .slf 5101 (.int .i64)), (4, .imm (.int .i64) .unit)], h := [(5100, .obj (.pair (.slice (.pair (.slice (.pair .str (.pair (.slice (.pair (.int .i64) (.pair (.int .i64) .unit))) (.pair .bool .unit)))) (.pair (.int .i64) (.pair .bool (.pair .bool .unit))))) .unit) (.imm (.pair (.slice (.pair (.slice (.pair .str (.pair (.slice (.pair (.int .i64) (.pair (.int .i64) .unit))) (.pair .bool .unit)))) (.pair (.int .i64) (.pair .bool (.pair .bool .unit))))) .unit) .unit)), (5101, .arr (.int .i64) true [])] }
noncomputable def f39_o58 : List (Out × Sk) := [((.exit 0), { t := [(3, .slf 5130 (.int .i64))], h := [(5130, .arr (.int .i64) true [])] })]
noncomputable def f39_s58 (ls : List P) : Tree Step :=
 .ite (decide ((lf ls 0).toInt < ((((lf ls 1).fst).xs).length : Int))) (
  .ite (inb ((lf ls 0).toInt) ((((lf ls 1).fst).xs).length)) (
   .ite (!((((((rd (((lf ls 1).fst).xs) (((lf ls 0).toInt).toNat)).snd).snd).snd).fst).toBool)) (
    .ite (inb ((lf ls 0).toInt) ((((lf ls 1).fst).xs).length)) (
     .ite (((((rd (((lf ls 1).fst).xs) (((lf ls 0).toInt).toNat)).snd).snd).fst).toBool) (
      .ite (decide ((((lf ls 2).xs).length + 1) * 8 ≤ 140737488355328)) (
       .ret (.inl [.int .i64 (IntKind.i64.wrap (((lf ls 0).toInt) + (1 : Int))), lf ls 1, .list (((lf ls 2).isNil) && false) (((lf ls 2).xs) ++ ([lf ls 0] : List P))])) (
       .fail)) (
      .ret (.inl [.int .i64 (IntKind.i64.wrap (((lf ls 0).toInt) + (1 : Int))), lf ls 1, .list ((lf ls 2).isNil) ((lf ls 2).xs)]))) (
     .fail)) (
    .ret (.inl [.int .i64 (IntKind.i64.wrap (((lf ls 0).toInt) + (1 : Int))), lf ls 1, .list ((lf ls 2).isNil) ((lf ls 2).xs)]))) (
   .fail)) (
  .ret (.inr (0, [.list ((lf ls 2).isNil) ((lf ls 2).xs)])))
noncomputable def f39_t (ps : List P) : Tree (Nat × List P) :=
 .loop (loopT f39_s58 FUEL [.int .i64 (0 : Int), lf ps 0, .list true []]) fun y1 =>
  .ite (Nat.beq y1.1 0) (
   .ret (0, [.list ((lf y1.2 0).isNil) ((lf y1.2 0).xs)])) (
   .fail)
noncomputable def f39_v (ps : List P) : Option (Nat × List P) := (f39_t ps).run some
noncomputable def f39_e : EntD := ⟨39, [.imm (.pair (.slice (.pair (.slice (.pair .str (.pair (.slice (.pair (.int .i64) (.pair (.int .i64) .unit))) (.pair .bool .unit)))) (.pair (.int .i64) (.pair .bool (.pair .bool .unit))))) .unit)], f39_v, [fun ps ls qs => ⟨[.own (ls.getD 3129 0) (.int .i64) (lf qs 0).isNil (lf qs 0).xs], [.imm (.pair (.slice (.pair (.slice (.pair .str (.pair (.slice (.pair (.int .i64) (.pair (.int .i64) .unit))) (.pair .bool .unit)))) (.pair (.int .i64) (.pair .bool (.pair .bool .unit))))) .unit) (lf ps 0)]⟩]⟩
noncomputable def f39_u : List Cu := [.loop 58 f39_k58 f39_o58 f39_s58]
noncomputable def f39_c : Cx := ⟨Try.prog, envOf [], 32, lOf f39_u, fun _ => false⟩
noncomputable def f39_b : Code := match Try.f39.body with | some b => b | none => .skip
theorem f39_q58 : (Cu.loop 58 f39_k58 f39_o58 f39_s58).Ok f39_c f39_b := ⟨by kernel_rfl, fun ls Kr Kx => by kernel_rfl⟩
theorem f39_x (ps : List P) (ls : List Nat) : execFn f39_c 39 f39_e.tm (explF ps 1 0) ls = (f39_t ps).run fun q => altR (f39_e.res.map fun f => f ps ls) 0 q some := by kernel_rfl
theorem f39_ok : OkEnt Try.prog f39_e := ent_ok (c := f39_c) (g := 39) (body := f39_b) (us := f39_u) (n := 1) (t := f39_t) (good_envOf _ trivial) Try.func39 rfl Try.call39 rfl ⟨f39_q58, trivial⟩ (by kernel_rfl) f39_x (fun _ => rfl)
/-! ### slices.Clone[[]int,int] -/
noncomputable def f116_k1 : Sk := { t := [(0, .imm (.slice (.int .i64)) .unit)], h := [] }
noncomputable def f116_o1 : List (Out × Sk) := [(.ret, { t := [(2, .slf 4030 (.int .i64))], h := [(4030, .arr (.int .i64) true [])] })]
noncomputable def f116_s1 (ls : List P) : Tree (Nat × List P) :=
 .ite ((lf ls 0).isNil) (
  .ret (0, [.list true []])) (
  .ite (decide ((0 + ((lf ls 0).xs).length) * 8 ≤ 140737488355328)) (
   .ret (0, [.list false ((lf ls 0).xs)])) (
   .fail))
noncomputable def f116_t (ps : List P) : Tree (Nat × List P) :=
 .loop ((f116_s1 [lf ps 0]).run some) fun y1 =>
  .ite (Nat.beq y1.1 0) (
   .ret (0, [.list ((lf y1.2 0).isNil) ((lf y1.2 0).xs)])) (
   .fail)
noncomputable def f116_v (ps : List P) : Option (Nat × List P) := (f116_t ps).run some
noncomputable def f116_e : EntD := ⟨116, [.imm (.slice (.int .i64))], f116_v, [fun ps ls qs => ⟨[.own (ls.getD 2029 0) (.int .i64) (lf qs 0).isNil (lf qs 0).xs], [.imm (.slice (.int .i64)) (lf ps 0)]⟩]⟩
noncomputable def f116_u : List Cu := [.cut 1 f116_k1 f116_o1 f116_s1]
noncomputable def f116_c : Cx := ⟨Try.prog, envOf [], 8, lOf f116_u, fun _ => false⟩
noncomputable def f116_b : Code := match Try.f116.body with | some b => b | none => .skip
theorem f116_q1 : (Cu.cut 1 f116_k1 f116_o1 f116_s1).Ok f116_c f116_b := ⟨by kernel_rfl, fun ls Kx => by kernel_rfl⟩
theorem f116_x (ps : List P) (ls : List Nat) : execFn f116_c 116 f116_e.tm (explF ps 1 0) ls = (f116_t ps).run fun q => altR (f116_e.res.map fun f => f ps ls) 0 q some := by kernel_rfl
theorem f116_ok : OkEnt Try.prog f116_e := ent_ok (c := f116_c) (g := 116) (body := f116_b) (us := f116_u) (n := 1) (t := f116_t) (good_envOf _ trivial) Try.func116 rfl Try.call116 rfl ⟨f116_q1, trivial⟩ (by kernel_rfl) f116_x (fun _ => rfl)
/-! ### (*comprador/store.Store).About$1 -/
noncomputable def f117_t (ps : List P) : Tree (Nat × List P) :=
 .ite (inb ((lf ps 0).toInt) (((lf ps 1).xs).length)) (
  .ret (0, [((((rd ((lf ps 1).xs) (((lf ps 0).toInt).toNat)).snd).snd).snd).fst])) (
  .fail)
noncomputable def f117_v (ps : List P) : Option (Nat × List P) := (f117_t ps).run some
noncomputable def f117_e : EntD := ⟨117, [.imm (.int .i64), .box .ptr (.box (.pair (.slice (.pair (.slice (.pair .str (.pair (.slice (.pair (.int .i64) (.pair (.int .i64) .unit))) (.pair .bool .unit)))) (.pair (.int .i64) (.pair .bool (.pair .bool .unit))))) (.pair .map .unit)) (.pair (.own (.pair (.slice (.pair .str (.pair (.slice (.pair (.int .i64) (.pair (.int .i64) .unit))) (.pair .bool .unit)))) (.pair (.int .i64) (.pair .bool (.pair .bool .unit))))) (.pair (.blk (.mt .str (.slice (.int .i64)))) (.imm .unit))))], f117_v, [fun ps ls qs => ⟨[.imm .bool (lf qs 0)], [.imm (.int .i64) (lf ps 0), .box (ls.getD 0 0) .ptr (.box (ls.getD 1 0) (.pair (.slice (.pair (.slice (.pair .str (.pair (.slice (.pair (.int .i64) (.pair (.int .i64) .unit))) (.pair .bool .unit)))) (.pair (.int .i64) (.pair .bool (.pair .bool .unit))))) (.pair .map .unit)) (.pair (.own (ls.getD 2 0) (.pair (.slice (.pair .str (.pair (.slice (.pair (.int .i64) (.pair (.int .i64) .unit))) (.pair .bool .unit)))) (.pair (.int .i64) (.pair .bool (.pair .bool .unit)))) (lf ps 1).isNil (lf ps 1).xs) (.pair (.blk (ls.getD 3 0) (.mt .str (.slice (.int .i64))) (lf ps 2)) (.imm .unit (lf ps 3)))))]⟩]⟩
noncomputable def f117_u : List Cu := []
noncomputable def f117_c : Cx := ⟨Try.prog, envOf [], 12, lOf f117_u, fun _ => false⟩
noncomputable def f117_b : Code := match Try.f117.body with | some b => b | none => .skip
theorem f117_x (ps : List P) (ls : List Nat) : execFn f117_c 117 f117_e.tm (explF ps 4 0) ls = (f117_t ps).run fun q => altR (f117_e.res.map fun f => f ps ls) 0 q some := by kernel_rfl
theorem f117_ok : OkEnt Try.prog f117_e := ent_ok (c := f117_c) (g := 117) (body := f117_b) (us := f117_u) (n := 4) (t := f117_t) (good_envOf _ trivial) Try.func117 rfl Try.call117 rfl trivial (by kernel_rfl) f117_x (fun _ => rfl)
/-! ### slices.IndexFunc[[]int,int] -/
noncomputable def f169_3_k26 : Sk := { t := [(0, .imm (.slice (.int .i64)) .unit), (1, .fn 117 (.pair (.ref 2001 [] .ptr) (.imm .unit .unit))), (7, .imm (.int .i64) .unit), (8, .imm (.int .i64) .unit)], h := [(2001, .obj .ptr (.ref 2002 [] (.pair (.slice (.pair (.slice (.pair .str (.pair (.slice (.pair (.int .i64) (.pair (.int .i64) .unit))) (.pair .bool .unit)))) (.pair (.int .i64) (.pair .bool (.pair .bool .unit))))) (.pair .map .unit)))), (2002, .obj (.pair (.slice (.pair (.slice (.pair .str (.pair (.slice (.pair (.int .i64) (.pair (.int .i64) .unit))) (.pair .bool .unit)))) (.pair (.int .i64) (.pair .bool (.pair .bool .unit))))) (.pair .map .unit)) (.pair (.slf 2003 (.pair (.slice (.pair .str (.pair (.slice (.pair (.int .i64) (.pair (.int .i64) .unit))) (.pair .bool .unit)))) (.pair (.int .i64) (.pair .bool (.pair .bool .unit))))) (.pair (.blk 2004 (.mt .str (.slice (.int .i64)))) (.imm .unit .unit)))), (2003, .arr (.pair (.slice (.pair .str (.pair (.slice (.pair (.int .i64) (.pair (.int .i64) .unit))) (.pair .bool .unit)))) (.pair (.int .i64) (.pair .bool (.pair .bool .unit)))) true []), (2004, .blk (.mt .str (.slice (.int .i64))) .unit)] }
noncomputable def f169_3_o26 : List (Out × Sk) := [(.ret, { t := [(1, .fn 117 (.pair (.ref 2001 [] .ptr) (.imm .unit .unit))), (4, .imm (.int .i64) .unit)], h := [(2001, .obj .ptr (.ref 2002 [] (.pair (.slice (.pair (.slice (.pair .str (.pair (.slice (.pair (.int .i64) (.pair (.int .i64) .unit))) (.pair .bool .unit)))) (.pair (.int .i64) (.pair .bool (.pair .bool .unit))))) (.pair .map .unit)))), (2002, .obj (.pair (.slice (.pair (.slice (.pair .str (.pair (.slice (.pair (.int .i64) (.pair (.int .i64) .unit))) (.pair .bool .unit)))) (.pair (.int .i64) (.pair .bool (.pair .bool .unit))))) (.pair .map .unit)) (.pair (.slf 2003 (.pair (.slice (.pair .str (.pair (.slice (.pair (.int .i64) (.pair (.int .i64) .unit))) (.pair .bool .unit)))) (.pair (.int .i64) (.pair .bool (.pair .bool .unit))))) (.pair (.blk 2004 (.mt .str (.slice (.int .i64)))) (.imm .unit .unit)))), (2003, .arr (.pair (.slice (.pair .str (.pair (.slice (.pair (.int .i64) (.pair (.int .i64) .unit))) (.pair .bool .unit)))) (.pair (.int .i64) (.pair .bool (.pair .bool .unit)))) true []), (2004, .blk (.mt .str (.slice (.int .i64))) .unit)] }), ((.exit 0), { t := [(1, .fn 117 (.pair (.ref 2001 [] .ptr) (.imm .unit .unit)))], h := [(2001, .obj .ptr (.ref 2002 [] (.pair (.slice (.pair (.slice (.pair .str (.pair (.slice (.pair (.int .i64) (.pair (.int .i64) .unit))) (.pair .bool .unit)))) (.pair (.int .i64) (.pair .bool (.pair .bool .unit))))) (.pair .map .unit)))), (2002, .obj (.pair (.slice (.pair (.slice (.pair .str (.pair (.slice (.pair (.int .i64) (.pair (.int .i64) .unit))) (.pair .bool .unit)))) (.pair (.int .i64) (.pair .bool (.pair .bool .unit))))) (.pair .map .unit)) (.pair (.slf 2003 (.pair (.slice (.pair .str (.pair (.slice (.pair (.int .i64) (.pair (.int .i64) .unit))) (.pair .bool .unit)))) (.pair (.int .i64) (.pair .bool (.pair .bool .unit))))) (.pair (.blk 2004 (.mt .str (.slice (.int .i64)))) (.imm .unit .unit)))), (2003, .arr (.pair (.slice (.pair .str (.pair (.slice (.pair (.int .i64) (.pair (.int .i64) .unit))) (.pair .bool .unit)))) (.pair (.int .i64) (.pair .bool (.pair .bool .unit)))) true []), (2004, .blk (.mt .str (.slice (.int .i64))) .unit)] })]
noncomputable def f169_3_s26 (ls : List P) : Tree Step :=
 .ite (decide ((lf ls 3).toInt < (lf ls 2).toInt)) (
  .ite (inb ((lf ls 3).toInt) (((lf ls 0).xs).length)) (
   .loop (f117_v [rd ((lf ls 0).xs) (((lf ls 3).toInt).toNat), .list ((lf ls 5).isNil) ((lf ls 5).xs), lf ls 6, lf ls 4]) fun x1 =>
    .ite (Nat.beq x1.1 0) (
     .ite ((lf x1.2 0).toBool) (
      .ret (.inr (0, [lf ls 1, lf ls 3, lf ls 4, .list ((lf ls 5).isNil) ((lf ls 5).xs), lf ls 6]))) (
      .ret (.inl [lf ls 0, lf ls 1, lf ls 2, .int .i64 (IntKind.i64.wrap (((lf ls 3).toInt) + (1 : Int))), lf ls 4, .list ((lf ls 5).isNil) ((lf ls 5).xs), lf ls 6]))) (
     .fail)) (
   .fail)) (
  .ret (.inr (1, [lf ls 1, lf ls 4, .list ((lf ls 5).isNil) ((lf ls 5).xs), lf ls 6])))
noncomputable def f169_3_t (ps : List P) : Tree (Nat × List P) :=
 .loop (loopT f169_3_s26 FUEL [lf ps 0, lf ps 4, .int .i64 (((lf ps 0).xs).length : Int), .int .i64 (0 : Int), lf ps 3, .list ((lf ps 1).isNil) ((lf ps 1).xs), lf ps 2]) fun y2 =>
  .ite (Nat.beq y2.1 0) (
   .ret (0, [lf y2.2 1, .list ((lf y2.2 3).isNil) ((lf y2.2 3).xs), lf y2.2 4, lf y2.2 2])) (
   .ite (Nat.beq y2.1 1) (
    .ret (0, [.int .i64 (-1 : Int), .list ((lf y2.2 2).isNil) ((lf y2.2 2).xs), lf y2.2 3, lf y2.2 1])) (
    .fail))
noncomputable def f169_3_v (ps : List P) : Option (Nat × List P) := (f169_3_t ps).run some
noncomputable def f169_3_e : EntD := ⟨169, [.imm (.slice (.int .i64)), .fn 117 (.pair (.box .ptr (.box (.pair (.slice (.pair (.slice (.pair .str (.pair (.slice (.pair (.int .i64) (.pair (.int .i64) .unit))) (.pair .bool .unit)))) (.pair (.int .i64) (.pair .bool (.pair .bool .unit))))) (.pair .map .unit)) (.pair (.own (.pair (.slice (.pair .str (.pair (.slice (.pair (.int .i64) (.pair (.int .i64) .unit))) (.pair .bool .unit)))) (.pair (.int .i64) (.pair .bool (.pair .bool .unit))))) (.pair (.blk (.mt .str (.slice (.int .i64)))) (.imm .unit))))) (.imm .unit))], f169_3_v, [fun ps ls qs => ⟨[.imm (.int .i64) (lf qs 0)], [.imm (.slice (.int .i64)) (lf ps 0), .fn 117 (.pair (.box (ls.getD 0 0) .ptr (.box (ls.getD 1 0) (.pair (.slice (.pair (.slice (.pair .str (.pair (.slice (.pair (.int .i64) (.pair (.int .i64) .unit))) (.pair .bool .unit)))) (.pair (.int .i64) (.pair .bool (.pair .bool .unit))))) (.pair .map .unit)) (.pair (.own (ls.getD 2 0) (.pair (.slice (.pair .str (.pair (.slice (.pair (.int .i64) (.pair (.int .i64) .unit))) (.pair .bool .unit)))) (.pair (.int .i64) (.pair .bool (.pair .bool .unit)))) (lf qs 1).isNil (lf qs 1).xs) (.pair (.blk (ls.getD 3 0) (.mt .str (.slice (.int .i64))) (lf qs 2)) (.imm .unit (lf qs 3)))))) (.imm .unit (lf ps 4)))]⟩]⟩
noncomputable def f169_3_u : List Cu := [.loop 26 f169_3_k26 f169_3_o26 f169_3_s26]
noncomputable def f169_3_c : Cx := ⟨Try.prog, envOf [f117_e], 19, lOf f169_3_u, fun _ => false⟩
noncomputable def f169_3_b : Code := match Try.f169.body with | some b => b | none => .skip
theorem f169_3_q26 : (Cu.loop 26 f169_3_k26 f169_3_o26 f169_3_s26).Ok f169_3_c f169_3_b := ⟨by kernel_rfl, fun ls Kr Kx => by kernel_rfl⟩
theorem f169_3_x (ps : List P) (ls : List Nat) : execFn f169_3_c 169 f169_3_e.tm (explF ps 5 0) ls = (f169_3_t ps).run fun q => altR (f169_3_e.res.map fun f => f ps ls) 0 q some := by kernel_rfl
theorem f169_3_ok : OkEnt Try.prog f169_3_e := ent_ok (c := f169_3_c) (g := 169) (body := f169_3_b) (us := f169_3_u) (n := 5) (t := f169_3_t) (good_envOf _ ⟨f117_ok, trivial⟩) Try.func169 rfl Try.call169 rfl ⟨f169_3_q26, trivial⟩ (by kernel_rfl) f169_3_x (fun _ => rfl)
/-! ### slices.DeleteFunc[[]int,int] -/
noncomputable def f114_3_k122 : Sk := { t := [(0, .imm (.slice (.int .i64)) .unit), (1, .fn 117 (.pair (.ref 2001 [] .ptr) (.imm .unit .unit))), (5, .imm (.int .i64) .unit), (6, .imm (.int .i64) .unit)], h := [(2001, .obj .ptr (.ref 2002 [] (.pair (.slice (.pair (.slice (.pair .str (.pair (.slice (.pair (.int .i64) (.pair (.int .i64) .unit))) (.pair .bool .unit)))) (.pair (.int .i64) (.pair .bool (.pair .bool .unit))))) (.pair .map .unit)))), (2002, .obj (.pair (.slice (.pair (.slice (.pair .str (.pair (.slice (.pair (.int .i64) (.pair (.int .i64) .unit))) (.pair .bool .unit)))) (.pair (.int .i64) (.pair .bool (.pair .bool .unit))))) (.pair .map .unit)) (.pair (.slf 2003 (.pair (.slice (.pair .str (.pair (.slice (.pair (.int .i64) (.pair (.int .i64) .unit))) (.pair .bool .unit)))) (.pair (.int .i64) (.pair .bool (.pair .bool .unit))))) (.pair (.blk 2004 (.mt .str (.slice (.int .i64)))) (.imm .unit .unit)))), (2003, .arr (.pair (.slice (.pair .str (.pair (.slice (.pair (.int .i64) (.pair (.int .i64) .unit))) (.pair .bool .unit)))) (.pair (.int .i64) (.pair .bool (.pair .bool .unit)))) true []), (2004, .blk (.mt .str (.slice (.int .i64))) .unit)] }
noncomputable def f114_3_o122 : List (Out × Sk) := [((.exit 0), { t := [(0, .imm (.slice (.int .i64)) .unit), (1, .fn 117 (.pair (.ref 2001 [] .ptr) (.imm .unit .unit))), (5, .imm (.int .i64) .unit)], h := [(2001, .obj .ptr (.ref 2002 [] (.pair (.slice (.pair (.slice (.pair .str (.pair (.slice (.pair (.int .i64) (.pair (.int .i64) .unit))) (.pair .bool .unit)))) (.pair (.int .i64) (.pair .bool (.pair .bool .unit))))) (.pair .map .unit)))), (2002, .obj (.pair (.slice (.pair (.slice (.pair .str (.pair (.slice (.pair (.int .i64) (.pair (.int .i64) .unit))) (.pair .bool .unit)))) (.pair (.int .i64) (.pair .bool (.pair .bool .unit))))) (.pair .map .unit)) (.pair (.slf 2003 (.pair (.slice (.pair .str (.pair (.slice (.pair (.int .i64) (.pair (.int .i64) .unit))) (.pair .bool .unit)))) (.pair (.int .i64) (.pair .bool (.pair .bool .unit))))) (.pair (.blk 2004 (.mt .str (.slice (.int .i64)))) (.imm .unit .unit)))), (2003, .arr (.pair (.slice (.pair .str (.pair (.slice (.pair (.int .i64) (.pair (.int .i64) .unit))) (.pair .bool .unit)))) (.pair (.int .i64) (.pair .bool (.pair .bool .unit)))) true []), (2004, .blk (.mt .str (.slice (.int .i64))) .unit)] })]
noncomputable def f114_3_s122 (ls : List P) : Tree Step :=
 .ite (decide ((lf ls 3).toInt < (((lf ls 0).xs).length : Int))) (
  .ite (inb ((lf ls 3).toInt) (((lf ls 0).xs).length)) (
   .loop (f117_v [rd ((lf ls 0).xs) (((lf ls 3).toInt).toNat), .list ((lf ls 5).isNil) ((lf ls 5).xs), lf ls 6, lf ls 4]) fun x2 =>
    .ite (Nat.beq x2.1 0) (
     .ite (!((lf x2.2 0).toBool)) (
      .ite (inb ((lf ls 2).toInt) (((lf ls 0).xs).length)) (
       .fail) (
       .fail)) (
      .ret (.inl [lf ls 0, lf ls 1, lf ls 2, .int .i64 (IntKind.i64.wrap (((lf ls 3).toInt) + (1 : Int))), lf ls 4, .list ((lf ls 5).isNil) ((lf ls 5).xs), lf ls 6]))) (
     .fail)) (
   .fail)) (
  .ret (.inr (0, [lf ls 0, lf ls 1, lf ls 2, lf ls 4, .list ((lf ls 5).isNil) ((lf ls 5).xs), lf ls 6])))
noncomputable def f114_3_t (ps : List P) : Tree (Nat × List P) :=
 .loop (f169_3_v [lf ps 0, .list ((lf ps 1).isNil) ((lf ps 1).xs), lf ps 2, lf ps 3, lf ps 4]) fun x1 =>
  .ite (Nat.beq x1.1 0) (
   .ite (((lf x1.2 0).toInt) == (-1 : Int)) (
    .ret (0, [.list ((lf x1.2 1).isNil) ((lf x1.2 1).xs), lf x1.2 2, lf x1.2 3])) (
    .loop (loopT f114_3_s122 FUEL [lf ps 0, lf ps 4, lf x1.2 0, .int .i64 (IntKind.i64.wrap (((lf x1.2 0).toInt) + (1 : Int))), lf x1.2 3, .list ((lf x1.2 1).isNil) ((lf x1.2 1).xs), lf x1.2 2]) fun y3 =>
     .ite (Nat.beq y3.1 0) (
      .ite (decide ((0 : Int) ≤ (lf y3.2 2).toInt ∧ (lf y3.2 2).toInt ≤ (((lf y3.2 0).xs).length : Int) ∧ (((lf y3.2 0).xs).length : Int) ≤ (((lf y3.2 0).xs).length : Int))) (
       .fail) (
       .fail)) (
      .fail))) (
   .fail)
noncomputable def f114_3_v (ps : List P) : Option (Nat × List P) := (f114_3_t ps).run some
noncomputable def f114_3_e : EntD := ⟨114, [.imm (.slice (.int .i64)), .fn 117 (.pair (.box .ptr (.box (.pair (.slice (.pair (.slice (.pair .str (.pair (.slice (.pair (.int .i64) (.pair (.int .i64) .unit))) (.pair .bool .unit)))) (.pair (.int .i64) (.pair .bool (.pair .bool .unit))))) (.pair .map .unit)) (.pair (.own (.pair (.slice (.pair .str (.pair (.slice (.pair (.int .i64) (.pair (.int .i64) .unit))) (.pair .bool .unit)))) (.pair (.int .i64) (.pair .bool (.pair .bool .unit))))) (.pair (.blk (.mt .str (.slice (.int .i64)))) (.imm .unit))))) (.imm .unit))], f114_3_v, [fun ps ls qs => ⟨[.imm (.slice (.int .i64)) (lf ps 0)], [.imm (.slice (.int .i64)) (lf ps 0), .fn 117 (.pair (.box (ls.getD 0 0) .ptr (.box (ls.getD 1 0) (.pair (.slice (.pair (.slice (.pair .str (.pair (.slice (.pair (.int .i64) (.pair (.int .i64) .unit))) (.pair .bool .unit)))) (.pair (.int .i64) (.pair .bool (.pair .bool .unit))))) (.pair .map .unit)) (.pair (.own (ls.getD 2 0) (.pair (.slice (.pair .str (.pair (.slice (.pair (.int .i64) (.pair (.int .i64) .unit))) (.pair .bool .unit)))) (.pair (.int .i64) (.pair .bool (.pair .bool .unit)))) (lf qs 0).isNil (lf qs 0).xs) (.pair (.blk (ls.getD 3 0) (.mt .str (.slice (.int .i64))) (lf qs 1)) (.imm .unit (lf qs 2)))))) (.imm .unit (lf ps 4)))]⟩]⟩
noncomputable def f114_3_u : List Cu := [.loop 122 f114_3_k122 f114_3_o122 f114_3_s122]
noncomputable def f114_3_c : Cx := ⟨Try.prog, envOf [f117_e, f169_3_e], 42, lOf f114_3_u, fun _ => false⟩
noncomputable def f114_3_b : Code := match Try.f114.body with | some b => b | none => .skip
theorem f114_3_q122 : (Cu.loop 122 f114_3_k122 f114_3_o122 f114_3_s122).Ok f114_3_c f114_3_b := ⟨by kernel_rfl, fun ls Kr Kx => by kernel_rfl⟩
theorem f114_3_x (ps : List P) (ls : List Nat) : execFn f114_3_c 114 f114_3_e.tm (explF ps 5 0) ls = (f114_3_t ps).run fun q => altR (f114_3_e.res.map fun f => f ps ls) 0 q some := by kernel_rfl
theorem f114_3_ok : OkEnt Try.prog f114_3_e := ent_ok (c := f114_3_c) (g := 114) (body := f114_3_b) (us := f114_3_u) (n := 5) (t := f114_3_t) (good_envOf _ ⟨f117_ok, f169_3_ok, trivial⟩) Try.func114 rfl Try.call114 rfl ⟨f114_3_q122, trivial⟩ (by kernel_rfl) f114_3_x (fun _ => rfl)
end Go.Proofs.Ytjemihhhkhdbeaa
