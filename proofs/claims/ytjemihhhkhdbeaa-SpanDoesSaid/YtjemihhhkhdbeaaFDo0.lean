/- Functions: what each tells. Conditions: none. -/
import Derived.Test.YtjemihhhkhdbeaaFDos
open Go Go.Eng Go.Proofs
set_option pp.deepTerms true
set_option linter.unusedVariables false
namespace Go.Proofs.Ytjemihhhkhdbeaa
/-! ### comprador/span.add -/
noncomputable def f157_k1 : Sk := { t := [(0, .slf 2001 (.pair (.int .i64) (.pair (.int .i64) .unit))), (1, .imm (.pair (.int .i64) (.pair (.int .i64) .unit)) .unit)], h := [(2001, .arr (.pair (.int .i64) (.pair (.int .i64) .unit)) true [])] }
noncomputable def f157_o1 : List (Out × Sk) := [(.ret, { t := [(4, .slf 4030 (.pair (.int .i64) (.pair (.int .i64) .unit)))], h := [(4030, .arr (.pair (.int .i64) (.pair (.int .i64) .unit)) true [])] })]
noncomputable def f157_s1 (ls : List P) : Tree (Nat × List P) :=
 .ite (decide (IntKind.i64.wrap ((((lf ls 1).xs).length : Int) - (1 : Int)) ≥ (0 : Int))) (
  .ite (inb (IntKind.i64.wrap ((((lf ls 1).xs).length : Int) - (1 : Int))) (((lf ls 1).xs).length)) (
   .ite (decide (((lf ls 0).fst).toInt ≤ (((rd ((lf ls 1).xs) ((IntKind.i64.wrap ((((lf ls 1).xs).length : Int) - (1 : Int))).toNat)).snd).fst).toInt)) (
    .ite (inb (IntKind.i64.wrap ((((lf ls 1).xs).length : Int) - (1 : Int))) (((lf ls 1).xs).length)) (
     .ite (inb (IntKind.i64.wrap ((((lf ls 1).xs).length : Int) - (1 : Int))) (((lf ls 1).xs).length)) (
      .ret (0, [.list ((lf ls 1).isNil) (((lf ls 1).xs).set ((IntKind.i64.wrap ((((lf ls 1).xs).length : Int) - (1 : Int))).toNat) (.pair ((rd ((lf ls 1).xs) ((IntKind.i64.wrap ((((lf ls 1).xs).length : Int) - (1 : Int))).toNat)).fst) (.pair (.int .i64 (mmx true ((((rd ((lf ls 1).xs) ((IntKind.i64.wrap ((((lf ls 1).xs).length : Int) - (1 : Int))).toNat)).snd).fst).toInt) ((((lf ls 0).snd).fst).toInt))) (((rd ((lf ls 1).xs) ((IntKind.i64.wrap ((((lf ls 1).xs).length : Int) - (1 : Int))).toNat)).snd).snd))))])) (
      .fail)) (
     .fail)) (
    .ite (decide ((((lf ls 1).xs).length + 1) * 16 ≤ 140737488355328)) (
     .ret (0, [.list (((lf ls 1).isNil) && false) (((lf ls 1).xs) ++ [lf ls 0])])) (
     .fail))) (
   .fail)) (
  .ite (decide ((((lf ls 1).xs).length + 1) * 16 ≤ 140737488355328)) (
   .ret (0, [.list (((lf ls 1).isNil) && false) (((lf ls 1).xs) ++ [lf ls 0])])) (
   .fail))
noncomputable def f157_t (ps : List P) : Tree (Nat × List P) :=
 .loop ((f157_s1 [lf ps 1, .list ((lf ps 0).isNil) ((lf ps 0).xs)]).run some) fun y1 =>
  .ite (Nat.beq y1.1 0) (
   .ret (0, [.list ((lf y1.2 0).isNil) ((lf y1.2 0).xs)])) (
   .fail)
noncomputable def f157_v (ps : List P) : Option (Nat × List P) := (f157_t ps).run some
noncomputable def f157_e : EntD := ⟨157, [.own (.pair (.int .i64) (.pair (.int .i64) .unit)), .imm (.pair (.int .i64) (.pair (.int .i64) .unit))], f157_v, [fun ps ls qs => ⟨[.own (ls.getD 2029 0) (.pair (.int .i64) (.pair (.int .i64) .unit)) (lf qs 0).isNil (lf qs 0).xs], [.u, .imm (.pair (.int .i64) (.pair (.int .i64) .unit)) (lf ps 1)]⟩]⟩
noncomputable def f157_u : List Cu := [.cut 1 f157_k1 f157_o1 f157_s1]
noncomputable def f157_c : Cx := ⟨Try.prog, envOf [], 38, lOf f157_u⟩
noncomputable def f157_b : Code := match Try.f157.body with | some b => b | none => .skip
theorem f157_q1 : (Cu.cut 1 f157_k1 f157_o1 f157_s1).Ok f157_c f157_b := ⟨by kernel_rfl, fun ls Kx => by kernel_rfl⟩
theorem f157_x (ps : List P) (ls : List Nat) : execFn f157_c 157 f157_e.tm (explF ps 2 0) ls = (f157_t ps).run fun q => altR (f157_e.res.map fun f => f ps ls) 0 q some := by kernel_rfl
theorem f157_ok : OkEnt Try.prog f157_e := ent_ok (c := f157_c) (g := 157) (body := f157_b) (us := f157_u) (n := 2) (t := f157_t) (good_envOf _ trivial) Try.func157 rfl Try.call157 rfl ⟨f157_q1, trivial⟩ (by kernel_rfl) f157_x (fun _ => rfl)
/-! ### comprador/span.Of -/
noncomputable def f83_k506 : Sk := { t := [(6, .slf 6500 (.pair (.int .i64) (.pair (.int .i64) .unit))), (34, .slf 6501 (.pair (.int .i64) (.pair (.int .i64) .unit))), (35, .imm (.int .i64) .unit), (36, .imm (.int .i64) .unit)], h := [(6500, .arr (.pair (.int .i64) (.pair (.int .i64) .unit)) true []), (6501, .arr (.pair (.int .i64) (.pair (.int .i64) .unit)) true [])] }
noncomputable def f83_o506 : List (Out × Sk) := [((.exit 2), { t := [(6, .slf 6530 (.pair (.int .i64) (.pair (.int .i64) .unit)))], h := [(6530, .arr (.pair (.int .i64) (.pair (.int .i64) .unit)) true [])] })]
noncomputable def f83_s506 (ls : List P) : Tree Step :=
 .ite (decide ((lf ls 1).toInt < (lf ls 0).toInt)) (
  .ite (inb ((lf ls 1).toInt) (((lf ls 3).xs).length)) (
   .loop (f157_v [.list ((lf ls 2).isNil) ((lf ls 2).xs), rd ((lf ls 3).xs) (((lf ls 1).toInt).toNat)]) fun x3 =>
    .ite (Nat.beq x3.1 0) (
     .ret (.inl [lf ls 0, .int .i64 (IntKind.i64.wrap (((lf ls 1).toInt) + (1 : Int))), .list ((lf x3.2 0).isNil) ((lf x3.2 0).xs), .list ((lf ls 3).isNil) ((lf ls 3).xs)])) (
     .fail)) (
   .fail)) (
  .ret (.inr (0, [.list ((lf ls 2).isNil) ((lf ls 2).xs)])))
noncomputable def f83_k58 : Sk := { t := [(3, .slf 5100 (.pair (.int .i64) (.pair (.int .i64) .unit))), (9, .imm (.slice (.pair (.int .i64) (.pair (.int .i64) .unit))) .unit), (10, .imm (.int .i64) .unit), (11, .imm (.int .i64) .unit)], h := [(5100, .arr (.pair (.int .i64) (.pair (.int .i64) .unit)) true [])] }
noncomputable def f83_o58 : List (Out × Sk) := [((.exit 0), { t := [(3, .slf 5130 (.pair (.int .i64) (.pair (.int .i64) .unit)))], h := [(5130, .arr (.pair (.int .i64) (.pair (.int .i64) .unit)) true [])] })]
noncomputable def f83_s58 (ls : List P) : Tree Step :=
 .ite (decide ((lf ls 2).toInt < (lf ls 1).toInt)) (
  .ite (inb ((lf ls 2).toInt) (((lf ls 0).xs).length)) (
   .ite (decide (mmx true (((rd ((lf ls 0).xs) (((lf ls 2).toInt).toNat)).fst).toInt) (0 : Int) < mmx false ((((rd ((lf ls 0).xs) (((lf ls 2).toInt).toNat)).snd).fst).toInt) (1000000000 : Int))) (
    .ite (decide ((((lf ls 3).xs).length + 1) * 16 ≤ 140737488355328)) (
     .ret (.inl [lf ls 0, lf ls 1, .int .i64 (IntKind.i64.wrap (((lf ls 2).toInt) + (1 : Int))), .list (((lf ls 3).isNil) && false) (((lf ls 3).xs) ++ [.pair (.int .i64 (mmx true (((rd ((lf ls 0).xs) (((lf ls 2).toInt).toNat)).fst).toInt) (0 : Int))) (.pair (.int .i64 (mmx false ((((rd ((lf ls 0).xs) (((lf ls 2).toInt).toNat)).snd).fst).toInt) (1000000000 : Int))) .unit)])])) (
     .fail)) (
    .ret (.inl [lf ls 0, lf ls 1, .int .i64 (IntKind.i64.wrap (((lf ls 2).toInt) + (1 : Int))), .list ((lf ls 3).isNil) ((lf ls 3).xs)]))) (
   .fail)) (
  .ret (.inr (0, [.list ((lf ls 3).isNil) ((lf ls 3).xs)])))
noncomputable def f83_t (ps : List P) : Tree (Nat × List P) :=
 .loop (loopT f83_s58 FUEL [lf ps 0, .int .i64 (((lf ps 0).xs).length : Int), .int .i64 (0 : Int), .list true []]) fun y1 =>
  .ite (Nat.beq y1.1 0) (
   .loop (sort155_156_v [.list ((lf y1.2 0).isNil) ((lf y1.2 0).xs), .unit]) fun x2 =>
    .ite (Nat.beq x2.1 0) (
     .loop (loopT f83_s506 FUEL [.int .i64 (((lf x2.2 0).xs).length : Int), .int .i64 (0 : Int), .list true [], .list ((lf x2.2 0).isNil) ((lf x2.2 0).xs)]) fun y4 =>
      .ite (Nat.beq y4.1 0) (
       .ret (0, [.list ((lf y4.2 0).isNil) ((lf y4.2 0).xs)])) (
       .fail)) (
     .fail)) (
   .fail)
noncomputable def f83_v (ps : List P) : Option (Nat × List P) := (f83_t ps).run some
noncomputable def f83_e : EntD := ⟨83, [.imm (.slice (.pair (.int .i64) (.pair (.int .i64) .unit)))], f83_v, [fun ps ls qs => ⟨[.own (ls.getD 4529 0) (.pair (.int .i64) (.pair (.int .i64) .unit)) (lf qs 0).isNil (lf qs 0).xs], [.imm (.slice (.pair (.int .i64) (.pair (.int .i64) .unit))) (lf ps 0)]⟩]⟩
noncomputable def f83_u : List Cu := [.loop 506 f83_k506 f83_o506 f83_s506, .loop 58 f83_k58 f83_o58 f83_s58]
noncomputable def f83_c : Cx := ⟨Try.prog, envOf [sort155_156_e, f157_e], 45, lOf f83_u⟩
noncomputable def f83_b : Code := match Try.f83.body with | some b => b | none => .skip
theorem f83_q506 : (Cu.loop 506 f83_k506 f83_o506 f83_s506).Ok f83_c f83_b := ⟨by kernel_rfl, fun ls Kr Kx => by kernel_rfl⟩
theorem f83_q58 : (Cu.loop 58 f83_k58 f83_o58 f83_s58).Ok f83_c f83_b := ⟨by kernel_rfl, fun ls Kr Kx => by kernel_rfl⟩
theorem f83_x (ps : List P) (ls : List Nat) : execFn f83_c 83 f83_e.tm (explF ps 1 0) ls = (f83_t ps).run fun q => altR (f83_e.res.map fun f => f ps ls) 0 q some := by kernel_rfl
theorem f83_ok : OkEnt Try.prog f83_e := ent_ok (c := f83_c) (g := 83) (body := f83_b) (us := f83_u) (n := 1) (t := f83_t) (good_envOf _ ⟨sort155_156_ok, f157_ok, trivial⟩) Try.func83 rfl Try.call83 rfl ⟨f83_q506, f83_q58, trivial⟩ (by kernel_rfl) f83_x (fun _ => rfl)
/-! ### comprador/span.after$1 -/
noncomputable def f189_t (ps : List P) : Tree (Nat × List P) :=
 .ite (decide ((((lf ps 0).snd).fst).toInt ≤ (lf ps 1).toInt)) (
  .ret (0, [.int .i64 (-1 : Int)])) (
  .ret (0, [.int .i64 (1 : Int)]))
noncomputable def f189_v (ps : List P) : Option (Nat × List P) := (f189_t ps).run some
noncomputable def f189_e : EntD := ⟨189, [.imm (.pair (.int .i64) (.pair (.int .i64) .unit)), .imm (.int .i64)], f189_v, [fun ps ls qs => ⟨[.imm (.int .i64) (lf qs 0)], [.imm (.pair (.int .i64) (.pair (.int .i64) .unit)) (lf ps 0), .imm (.int .i64) (lf ps 1)]⟩]⟩
noncomputable def f189_u : List Cu := []
noncomputable def f189_c : Cx := ⟨Try.prog, envOf [], 9, lOf f189_u⟩
noncomputable def f189_b : Code := match Try.f189.body with | some b => b | none => .skip
theorem f189_x (ps : List P) (ls : List Nat) : execFn f189_c 189 f189_e.tm (explF ps 2 0) ls = (f189_t ps).run fun q => altR (f189_e.res.map fun f => f ps ls) 0 q some := by kernel_rfl
theorem f189_ok : OkEnt Try.prog f189_e := ent_ok (c := f189_c) (g := 189) (body := f189_b) (us := f189_u) (n := 2) (t := f189_t) (good_envOf _ trivial) Try.func189 rfl Try.call189 rfl trivial (by kernel_rfl) f189_x (fun _ => rfl)
/-! ### slices.BinarySearchFunc[[]comprador/api.Span,comprador/api.Span,int] -/
noncomputable def f188_k60 : Sk := { t := [(0, .imm (.slice (.pair (.int .i64) (.pair (.int .i64) .unit))) .unit), (1, .imm (.int .i64) .unit), (2, .fn 189 (.imm .unit .unit)), (8, .imm (.int .i64) .unit), (9, .imm (.int .i64) .unit), (10, .imm (.int .i64) .unit)], h := [] }
noncomputable def f188_o60 : List (Out × Sk) := [((.exit 0), { t := [(0, .imm (.slice (.pair (.int .i64) (.pair (.int .i64) .unit))) .unit), (1, .imm (.int .i64) .unit), (2, .fn 189 (.imm .unit .unit)), (8, .imm (.int .i64) .unit), (9, .imm (.int .i64) .unit)], h := [] })]
noncomputable def f188_s60 (ls : List P) : Tree Step :=
 .ite (decide ((lf ls 4).toInt < (lf ls 5).toInt)) (
  .ite (inb (IntKind.i64.wrap ((IntKind.u64.wrap (IntKind.i64.wrap (((lf ls 4).toInt) + ((lf ls 5).toInt)))).fdiv (2 ^ (1)))) (((lf ls 0).xs).length)) (
   .loop (f189_v [rd ((lf ls 0).xs) ((IntKind.i64.wrap ((IntKind.u64.wrap (IntKind.i64.wrap (((lf ls 4).toInt) + ((lf ls 5).toInt)))).fdiv (2 ^ (1)))).toNat), lf ls 1]) fun x1 =>
    .ite (Nat.beq x1.1 0) (
     .ite (decide ((lf x1.2 0).toInt < (0 : Int))) (
      .ret (.inl [lf ls 0, lf ls 1, lf ls 2, lf ls 3, .int .i64 (IntKind.i64.wrap ((IntKind.i64.wrap ((IntKind.u64.wrap (IntKind.i64.wrap (((lf ls 4).toInt) + ((lf ls 5).toInt)))).fdiv (2 ^ (1)))) + (1 : Int))), lf ls 5])) (
      .ret (.inl [lf ls 0, lf ls 1, lf ls 2, lf ls 3, lf ls 4, .int .i64 (IntKind.i64.wrap ((IntKind.u64.wrap (IntKind.i64.wrap (((lf ls 4).toInt) + ((lf ls 5).toInt)))).fdiv (2 ^ (1))))]))) (
     .fail)) (
   .fail)) (
  .ret (.inr (0, [lf ls 0, lf ls 1, lf ls 2, lf ls 3, lf ls 4])))
noncomputable def f188_t (ps : List P) : Tree (Nat × List P) :=
 .loop (loopT f188_s60 FUEL [lf ps 0, lf ps 1, lf ps 2, .int .i64 (((lf ps 0).xs).length : Int), .int .i64 (0 : Int), .int .i64 (((lf ps 0).xs).length : Int)]) fun y2 =>
  .ite (Nat.beq y2.1 0) (
   .ite (decide ((lf y2.2 4).toInt < (lf y2.2 3).toInt)) (
    .ite (inb ((lf y2.2 4).toInt) (((lf y2.2 0).xs).length)) (
     .loop (f189_v [rd ((lf y2.2 0).xs) (((lf y2.2 4).toInt).toNat), lf y2.2 1]) fun x3 =>
      .ite (Nat.beq x3.1 0) (
       .ret (0, [lf y2.2 4, .bool (((lf x3.2 0).toInt) == (0 : Int))])) (
       .fail)) (
     .fail)) (
    .ret (0, [lf y2.2 4, .bool false]))) (
   .fail)
noncomputable def f188_v (ps : List P) : Option (Nat × List P) := (f188_t ps).run some
noncomputable def f188_e : EntD := ⟨188, [.imm (.slice (.pair (.int .i64) (.pair (.int .i64) .unit))), .imm (.int .i64), .fn 189 (.imm .unit)], f188_v, [fun ps ls qs => ⟨[.imm (.int .i64) (lf qs 0), .imm .bool (lf qs 1)], [.imm (.slice (.pair (.int .i64) (.pair (.int .i64) .unit))) (lf ps 0), .imm (.int .i64) (lf ps 1), .fn 189 (.imm .unit (lf ps 2))]⟩]⟩
noncomputable def f188_u : List Cu := [.loop 60 f188_k60 f188_o60 f188_s60]
noncomputable def f188_c : Cx := ⟨Try.prog, envOf [f189_e], 49, lOf f188_u⟩
noncomputable def f188_b : Code := match Try.f188.body with | some b => b | none => .skip
theorem f188_q60 : (Cu.loop 60 f188_k60 f188_o60 f188_s60).Ok f188_c f188_b := ⟨by kernel_rfl, fun ls Kr Kx => by kernel_rfl⟩
theorem f188_x (ps : List P) (ls : List Nat) : execFn f188_c 188 f188_e.tm (explF ps 3 0) ls = (f188_t ps).run fun q => altR (f188_e.res.map fun f => f ps ls) 0 q some := by kernel_rfl
theorem f188_ok : OkEnt Try.prog f188_e := ent_ok (c := f188_c) (g := 188) (body := f188_b) (us := f188_u) (n := 3) (t := f188_t) (good_envOf _ ⟨f189_ok, trivial⟩) Try.func188 rfl Try.call188 rfl ⟨f188_q60, trivial⟩ (by kernel_rfl) f188_x (fun _ => rfl)
/-! ### comprador/span.after -/
noncomputable def f160_t (ps : List P) : Tree (Nat × List P) :=
 .loop (f188_v [lf ps 0, lf ps 1, .unit]) fun x1 =>
  .ite (Nat.beq x1.1 0) (
   .ret (0, [lf x1.2 0])) (
   .fail)
noncomputable def f160_v (ps : List P) : Option (Nat × List P) := (f160_t ps).run some
noncomputable def f160_e : EntD := ⟨160, [.imm (.slice (.pair (.int .i64) (.pair (.int .i64) .unit))), .imm (.int .i64)], f160_v, [fun ps ls qs => ⟨[.imm (.int .i64) (lf qs 0)], [.imm (.slice (.pair (.int .i64) (.pair (.int .i64) .unit))) (lf ps 0), .imm (.int .i64) (lf ps 1)]⟩]⟩
noncomputable def f160_u : List Cu := []
noncomputable def f160_c : Cx := ⟨Try.prog, envOf [f188_e], 14, lOf f160_u⟩
noncomputable def f160_b : Code := match Try.f160.body with | some b => b | none => .skip
theorem f160_x (ps : List P) (ls : List Nat) : execFn f160_c 160 f160_e.tm (explF ps 2 0) ls = (f160_t ps).run fun q => altR (f160_e.res.map fun f => f ps ls) 0 q some := by kernel_rfl
theorem f160_ok : OkEnt Try.prog f160_e := ent_ok (c := f160_c) (g := 160) (body := f160_b) (us := f160_u) (n := 2) (t := f160_t) (good_envOf _ ⟨f188_ok, trivial⟩) Try.func160 rfl Try.call160 rfl trivial (by kernel_rfl) f160_x (fun _ => rfl)
/-! ### comprador/span.next -/
noncomputable def f190_t (ps : List P) : Tree (Nat × List P) :=
 .loop (f160_v [lf ps 0, lf ps 1]) fun x1 =>
  .ite (Nat.beq x1.1 0) (
   .ite (((lf x1.2 0).toInt) == (((lf ps 0).xs).length : Int)) (
    .ret (0, [.int .i64 (1000000000 : Int)])) (
    .ite (inb ((lf x1.2 0).toInt) (((lf ps 0).xs).length)) (
     .ite (decide (((rd ((lf ps 0).xs) (((lf x1.2 0).toInt).toNat)).fst).toInt > (lf ps 1).toInt)) (
      .ite (inb ((lf x1.2 0).toInt) (((lf ps 0).xs).length)) (
       .ret (0, [(rd ((lf ps 0).xs) (((lf x1.2 0).toInt).toNat)).fst])) (
       .fail)) (
      .ite (inb ((lf x1.2 0).toInt) (((lf ps 0).xs).length)) (
       .ret (0, [((rd ((lf ps 0).xs) (((lf x1.2 0).toInt).toNat)).snd).fst])) (
       .fail))) (
     .fail))) (
   .fail)
noncomputable def f190_v (ps : List P) : Option (Nat × List P) := (f190_t ps).run some
noncomputable def f190_e : EntD := ⟨190, [.imm (.slice (.pair (.int .i64) (.pair (.int .i64) .unit))), .imm (.int .i64)], f190_v, [fun ps ls qs => ⟨[.imm (.int .i64) (lf qs 0)], [.imm (.slice (.pair (.int .i64) (.pair (.int .i64) .unit))) (lf ps 0), .imm (.int .i64) (lf ps 1)]⟩]⟩
noncomputable def f190_u : List Cu := []
noncomputable def f190_c : Cx := ⟨Try.prog, envOf [f160_e], 32, lOf f190_u⟩
noncomputable def f190_b : Code := match Try.f190.body with | some b => b | none => .skip
theorem f190_x (ps : List P) (ls : List Nat) : execFn f190_c 190 f190_e.tm (explF ps 2 0) ls = (f190_t ps).run fun q => altR (f190_e.res.map fun f => f ps ls) 0 q some := by kernel_rfl
theorem f190_ok : OkEnt Try.prog f190_e := ent_ok (c := f190_c) (g := 190) (body := f190_b) (us := f190_u) (n := 2) (t := f190_t) (good_envOf _ ⟨f160_ok, trivial⟩) Try.func190 rfl Try.call190 rfl trivial (by kernel_rfl) f190_x (fun _ => rfl)
/-! ### comprador/span.Has -/
noncomputable def f92_t (ps : List P) : Tree (Nat × List P) :=
 .loop (f160_v [lf ps 0, lf ps 1]) fun x1 =>
  .ite (Nat.beq x1.1 0) (
   .ite (decide ((lf x1.2 0).toInt < (((lf ps 0).xs).length : Int))) (
    .ite (inb ((lf x1.2 0).toInt) (((lf ps 0).xs).length)) (
     .ret (0, [.bool (decide (((rd ((lf ps 0).xs) (((lf x1.2 0).toInt).toNat)).fst).toInt ≤ (lf ps 1).toInt))])) (
     .fail)) (
    .ret (0, [.bool false]))) (
   .fail)
noncomputable def f92_v (ps : List P) : Option (Nat × List P) := (f92_t ps).run some
noncomputable def f92_e : EntD := ⟨92, [.imm (.slice (.pair (.int .i64) (.pair (.int .i64) .unit))), .imm (.int .i64)], f92_v, [fun ps ls qs => ⟨[.imm .bool (lf qs 0)], [.imm (.slice (.pair (.int .i64) (.pair (.int .i64) .unit))) (lf ps 0), .imm (.int .i64) (lf ps 1)]⟩]⟩
noncomputable def f92_u : List Cu := []
noncomputable def f92_c : Cx := ⟨Try.prog, envOf [f160_e], 22, lOf f92_u⟩
noncomputable def f92_b : Code := match Try.f92.body with | some b => b | none => .skip
theorem f92_x (ps : List P) (ls : List Nat) : execFn f92_c 92 f92_e.tm (explF ps 2 0) ls = (f92_t ps).run fun q => altR (f92_e.res.map fun f => f ps ls) 0 q some := by kernel_rfl
theorem f92_ok : OkEnt Try.prog f92_e := ent_ok (c := f92_c) (g := 92) (body := f92_b) (us := f92_u) (n := 2) (t := f92_t) (good_envOf _ ⟨f160_ok, trivial⟩) Try.func92 rfl Try.call92 rfl trivial (by kernel_rfl) f92_x (fun _ => rfl)
/-! ### comprador/span.Not$1 -/
noncomputable def f164_t (ps : List P) : Tree (Nat × List P) :=
 .ret (0, [.bool (!((lf ps 0).toBool))])
noncomputable def f164_v (ps : List P) : Option (Nat × List P) := (f164_t ps).run some
noncomputable def f164_e : EntD := ⟨164, [.imm .bool, .imm .bool], f164_v, [fun ps ls qs => ⟨[.imm .bool (lf qs 0)], [.imm .bool (lf ps 0), .imm .bool (lf ps 1)]⟩]⟩
noncomputable def f164_u : List Cu := []
noncomputable def f164_c : Cx := ⟨Try.prog, envOf [], 7, lOf f164_u⟩
noncomputable def f164_b : Code := match Try.f164.body with | some b => b | none => .skip
theorem f164_x (ps : List P) (ls : List Nat) : execFn f164_c 164 f164_e.tm (explF ps 2 0) ls = (f164_t ps).run fun q => altR (f164_e.res.map fun f => f ps ls) 0 q some := by kernel_rfl
theorem f164_ok : OkEnt Try.prog f164_e := ent_ok (c := f164_c) (g := 164) (body := f164_b) (us := f164_u) (n := 2) (t := f164_t) (good_envOf _ trivial) Try.func164 rfl Try.call164 rfl trivial (by kernel_rfl) f164_x (fun _ => rfl)
/-! ### comprador/span.kept -/
noncomputable def f161_k58 : Sk := { t := [(0, .imm (.slice (.pair (.int .i64) (.pair (.int .i64) .unit))) .unit), (1, .imm (.slice (.pair (.int .i64) (.pair (.int .i64) .unit))) .unit), (2, .fn 164 (.imm .unit .unit)), (7, .slf 5100 (.pair (.int .i64) (.pair (.int .i64) .unit))), (8, .imm (.int .i64) .unit)], h := [(5100, .arr (.pair (.int .i64) (.pair (.int .i64) .unit)) true [])] }
noncomputable def f161_o58 : List (Out × Sk) := [((.exit 0), { t := [(7, .slf 5130 (.pair (.int .i64) (.pair (.int .i64) .unit)))], h := [(5130, .arr (.pair (.int .i64) (.pair (.int .i64) .unit)) true [])] })]
noncomputable def f161_s58 (ls : List P) : Tree Step :=
 .ite (decide ((lf ls 3).toInt < (1000000000 : Int))) (
  .loop (f190_v [lf ls 0, lf ls 3]) fun x1 =>
   .ite (Nat.beq x1.1 0) (
    .loop (f190_v [lf ls 1, lf ls 3]) fun x2 =>
     .ite (Nat.beq x2.1 0) (
      .loop (f92_v [lf ls 0, lf ls 3]) fun x3 =>
       .ite (Nat.beq x3.1 0) (
        .loop (f92_v [lf ls 1, lf ls 3]) fun x4 =>
         .ite (Nat.beq x4.1 0) (
          .loop (f164_v [lf x3.2 0, lf x4.2 0]) fun x5 =>
           .ite (Nat.beq x5.1 0) (
            .ite ((lf x5.2 0).toBool) (
             .loop (f157_v [.list ((lf ls 4).isNil) ((lf ls 4).xs), .pair (lf ls 3) (.pair (.int .i64 (mmx false ((lf x1.2 0).toInt) ((lf x2.2 0).toInt))) .unit)]) fun x6 =>
              .ite (Nat.beq x6.1 0) (
               .ret (.inl [lf ls 0, lf ls 1, lf ls 2, .int .i64 (mmx false ((lf x1.2 0).toInt) ((lf x2.2 0).toInt)), .list ((lf x6.2 0).isNil) ((lf x6.2 0).xs)])) (
               .fail)) (
             .ret (.inl [lf ls 0, lf ls 1, lf ls 2, .int .i64 (mmx false ((lf x1.2 0).toInt) ((lf x2.2 0).toInt)), .list ((lf ls 4).isNil) ((lf ls 4).xs)]))) (
            .fail)) (
          .fail)) (
        .fail)) (
      .fail)) (
    .fail)) (
  .ret (.inr (0, [.list ((lf ls 4).isNil) ((lf ls 4).xs)])))
noncomputable def f161_t (ps : List P) : Tree (Nat × List P) :=
 .loop (loopT f161_s58 FUEL [lf ps 0, lf ps 1, lf ps 2, .int .i64 (0 : Int), .list true []]) fun y7 =>
  .ite (Nat.beq y7.1 0) (
   .ret (0, [.list ((lf y7.2 0).isNil) ((lf y7.2 0).xs)])) (
   .fail)
noncomputable def f161_v (ps : List P) : Option (Nat × List P) := (f161_t ps).run some
noncomputable def f161_e : EntD := ⟨161, [.imm (.slice (.pair (.int .i64) (.pair (.int .i64) .unit))), .imm (.slice (.pair (.int .i64) (.pair (.int .i64) .unit))), .fn 164 (.imm .unit)], f161_v, [fun ps ls qs => ⟨[.own (ls.getD 3129 0) (.pair (.int .i64) (.pair (.int .i64) .unit)) (lf qs 0).isNil (lf qs 0).xs], [.imm (.slice (.pair (.int .i64) (.pair (.int .i64) .unit))) (lf ps 0), .imm (.slice (.pair (.int .i64) (.pair (.int .i64) .unit))) (lf ps 1), .fn 164 (.imm .unit (lf ps 2))]⟩]⟩
noncomputable def f161_u : List Cu := [.loop 58 f161_k58 f161_o58 f161_s58]
noncomputable def f161_c : Cx := ⟨Try.prog, envOf [f92_e, f157_e, f164_e, f190_e], 34, lOf f161_u⟩
noncomputable def f161_b : Code := match Try.f161.body with | some b => b | none => .skip
theorem f161_q58 : (Cu.loop 58 f161_k58 f161_o58 f161_s58).Ok f161_c f161_b := ⟨by kernel_rfl, fun ls Kr Kx => by kernel_rfl⟩
theorem f161_x (ps : List P) (ls : List Nat) : execFn f161_c 161 f161_e.tm (explF ps 3 0) ls = (f161_t ps).run fun q => altR (f161_e.res.map fun f => f ps ls) 0 q some := by kernel_rfl
theorem f161_ok : OkEnt Try.prog f161_e := ent_ok (c := f161_c) (g := 161) (body := f161_b) (us := f161_u) (n := 3) (t := f161_t) (good_envOf _ ⟨f92_ok, f157_ok, f164_ok, f190_ok, trivial⟩) Try.func161 rfl Try.call161 rfl ⟨f161_q58, trivial⟩ (by kernel_rfl) f161_x (fun _ => rfl)
/-! ### comprador/span.Not -/
noncomputable def f98_t (ps : List P) : Tree (Nat × List P) :=
 .loop (f161_v [lf ps 0, .list true [], .unit]) fun x1 =>
  .ite (Nat.beq x1.1 0) (
   .ret (0, [.list ((lf x1.2 0).isNil) ((lf x1.2 0).xs)])) (
   .fail)
noncomputable def f98_v (ps : List P) : Option (Nat × List P) := (f98_t ps).run some
noncomputable def f98_e : EntD := ⟨98, [.imm (.slice (.pair (.int .i64) (.pair (.int .i64) .unit)))], f98_v, [fun ps ls qs => ⟨[.own (ls.getD 98399 0) (.pair (.int .i64) (.pair (.int .i64) .unit)) (lf qs 0).isNil (lf qs 0).xs], [.imm (.slice (.pair (.int .i64) (.pair (.int .i64) .unit))) (lf ps 0)]⟩]⟩
noncomputable def f98_u : List Cu := []
noncomputable def f98_c : Cx := ⟨Try.prog, envOf [f161_e], 5, lOf f98_u⟩
noncomputable def f98_b : Code := match Try.f98.body with | some b => b | none => .skip
theorem f98_x (ps : List P) (ls : List Nat) : execFn f98_c 98 f98_e.tm (explF ps 1 0) ls = (f98_t ps).run fun q => altR (f98_e.res.map fun f => f ps ls) 0 q some := by kernel_rfl
theorem f98_ok : OkEnt Try.prog f98_e := ent_ok (c := f98_c) (g := 98) (body := f98_b) (us := f98_u) (n := 1) (t := f98_t) (good_envOf _ ⟨f161_ok, trivial⟩) Try.func98 rfl Try.call98 rfl trivial (by kernel_rfl) f98_x (fun _ => rfl)
/-! ### comprador/span.Meet$1 -/
noncomputable def f163_t (ps : List P) : Tree (Nat × List P) :=
 .ite ((lf ps 0).toBool) (
  .ret (0, [lf ps 1])) (
  .ret (0, [.bool false]))
noncomputable def f163_v (ps : List P) : Option (Nat × List P) := (f163_t ps).run some
noncomputable def f163_e : EntD := ⟨163, [.imm .bool, .imm .bool], f163_v, [fun ps ls qs => ⟨[.imm .bool (lf qs 0)], [.imm .bool (lf ps 0), .imm .bool (lf ps 1)]⟩]⟩
noncomputable def f163_u : List Cu := []
noncomputable def f163_c : Cx := ⟨Try.prog, envOf [], 9, lOf f163_u⟩
noncomputable def f163_b : Code := match Try.f163.body with | some b => b | none => .skip
theorem f163_x (ps : List P) (ls : List Nat) : execFn f163_c 163 f163_e.tm (explF ps 2 0) ls = (f163_t ps).run fun q => altR (f163_e.res.map fun f => f ps ls) 0 q some := by kernel_rfl
theorem f163_ok : OkEnt Try.prog f163_e := ent_ok (c := f163_c) (g := 163) (body := f163_b) (us := f163_u) (n := 2) (t := f163_t) (good_envOf _ trivial) Try.func163 rfl Try.call163 rfl trivial (by kernel_rfl) f163_x (fun _ => rfl)
/-! ### comprador/span.kept -/
noncomputable def f161_1_k58 : Sk := { t := [(0, .imm (.slice (.pair (.int .i64) (.pair (.int .i64) .unit))) .unit), (1, .imm (.slice (.pair (.int .i64) (.pair (.int .i64) .unit))) .unit), (2, .fn 163 (.imm .unit .unit)), (7, .slf 5100 (.pair (.int .i64) (.pair (.int .i64) .unit))), (8, .imm (.int .i64) .unit)], h := [(5100, .arr (.pair (.int .i64) (.pair (.int .i64) .unit)) true [])] }
noncomputable def f161_1_o58 : List (Out × Sk) := [((.exit 0), { t := [(7, .slf 5130 (.pair (.int .i64) (.pair (.int .i64) .unit)))], h := [(5130, .arr (.pair (.int .i64) (.pair (.int .i64) .unit)) true [])] })]
noncomputable def f161_1_s58 (ls : List P) : Tree Step :=
 .ite (decide ((lf ls 3).toInt < (1000000000 : Int))) (
  .loop (f190_v [lf ls 0, lf ls 3]) fun x1 =>
   .ite (Nat.beq x1.1 0) (
    .loop (f190_v [lf ls 1, lf ls 3]) fun x2 =>
     .ite (Nat.beq x2.1 0) (
      .loop (f92_v [lf ls 0, lf ls 3]) fun x3 =>
       .ite (Nat.beq x3.1 0) (
        .loop (f92_v [lf ls 1, lf ls 3]) fun x4 =>
         .ite (Nat.beq x4.1 0) (
          .loop (f163_v [lf x3.2 0, lf x4.2 0]) fun x5 =>
           .ite (Nat.beq x5.1 0) (
            .ite ((lf x5.2 0).toBool) (
             .loop (f157_v [.list ((lf ls 4).isNil) ((lf ls 4).xs), .pair (lf ls 3) (.pair (.int .i64 (mmx false ((lf x1.2 0).toInt) ((lf x2.2 0).toInt))) .unit)]) fun x6 =>
              .ite (Nat.beq x6.1 0) (
               .ret (.inl [lf ls 0, lf ls 1, lf ls 2, .int .i64 (mmx false ((lf x1.2 0).toInt) ((lf x2.2 0).toInt)), .list ((lf x6.2 0).isNil) ((lf x6.2 0).xs)])) (
               .fail)) (
             .ret (.inl [lf ls 0, lf ls 1, lf ls 2, .int .i64 (mmx false ((lf x1.2 0).toInt) ((lf x2.2 0).toInt)), .list ((lf ls 4).isNil) ((lf ls 4).xs)]))) (
            .fail)) (
          .fail)) (
        .fail)) (
      .fail)) (
    .fail)) (
  .ret (.inr (0, [.list ((lf ls 4).isNil) ((lf ls 4).xs)])))
noncomputable def f161_1_t (ps : List P) : Tree (Nat × List P) :=
 .loop (loopT f161_1_s58 FUEL [lf ps 0, lf ps 1, lf ps 2, .int .i64 (0 : Int), .list true []]) fun y7 =>
  .ite (Nat.beq y7.1 0) (
   .ret (0, [.list ((lf y7.2 0).isNil) ((lf y7.2 0).xs)])) (
   .fail)
noncomputable def f161_1_v (ps : List P) : Option (Nat × List P) := (f161_1_t ps).run some
noncomputable def f161_1_e : EntD := ⟨161, [.imm (.slice (.pair (.int .i64) (.pair (.int .i64) .unit))), .imm (.slice (.pair (.int .i64) (.pair (.int .i64) .unit))), .fn 163 (.imm .unit)], f161_1_v, [fun ps ls qs => ⟨[.own (ls.getD 3129 0) (.pair (.int .i64) (.pair (.int .i64) .unit)) (lf qs 0).isNil (lf qs 0).xs], [.imm (.slice (.pair (.int .i64) (.pair (.int .i64) .unit))) (lf ps 0), .imm (.slice (.pair (.int .i64) (.pair (.int .i64) .unit))) (lf ps 1), .fn 163 (.imm .unit (lf ps 2))]⟩]⟩
noncomputable def f161_1_u : List Cu := [.loop 58 f161_1_k58 f161_1_o58 f161_1_s58]
noncomputable def f161_1_c : Cx := ⟨Try.prog, envOf [f92_e, f157_e, f163_e, f190_e], 34, lOf f161_1_u⟩
noncomputable def f161_1_b : Code := match Try.f161.body with | some b => b | none => .skip
theorem f161_1_q58 : (Cu.loop 58 f161_1_k58 f161_1_o58 f161_1_s58).Ok f161_1_c f161_1_b := ⟨by kernel_rfl, fun ls Kr Kx => by kernel_rfl⟩
theorem f161_1_x (ps : List P) (ls : List Nat) : execFn f161_1_c 161 f161_1_e.tm (explF ps 3 0) ls = (f161_1_t ps).run fun q => altR (f161_1_e.res.map fun f => f ps ls) 0 q some := by kernel_rfl
theorem f161_1_ok : OkEnt Try.prog f161_1_e := ent_ok (c := f161_1_c) (g := 161) (body := f161_1_b) (us := f161_1_u) (n := 3) (t := f161_1_t) (good_envOf _ ⟨f92_ok, f157_ok, f163_ok, f190_ok, trivial⟩) Try.func161 rfl Try.call161 rfl ⟨f161_1_q58, trivial⟩ (by kernel_rfl) f161_1_x (fun _ => rfl)
/-! ### comprador/span.Meet -/
noncomputable def f96_t (ps : List P) : Tree (Nat × List P) :=
 .loop (f161_1_v [lf ps 0, lf ps 1, .unit]) fun x1 =>
  .ite (Nat.beq x1.1 0) (
   .ret (0, [.list ((lf x1.2 0).isNil) ((lf x1.2 0).xs)])) (
   .fail)
noncomputable def f96_v (ps : List P) : Option (Nat × List P) := (f96_t ps).run some
noncomputable def f96_e : EntD := ⟨96, [.imm (.slice (.pair (.int .i64) (.pair (.int .i64) .unit))), .imm (.slice (.pair (.int .i64) (.pair (.int .i64) .unit)))], f96_v, [fun ps ls qs => ⟨[.own (ls.getD 98699 0) (.pair (.int .i64) (.pair (.int .i64) .unit)) (lf qs 0).isNil (lf qs 0).xs], [.imm (.slice (.pair (.int .i64) (.pair (.int .i64) .unit))) (lf ps 0), .imm (.slice (.pair (.int .i64) (.pair (.int .i64) .unit))) (lf ps 1)]⟩]⟩
noncomputable def f96_u : List Cu := []
noncomputable def f96_c : Cx := ⟨Try.prog, envOf [f161_1_e], 8, lOf f96_u⟩
noncomputable def f96_b : Code := match Try.f96.body with | some b => b | none => .skip
theorem f96_x (ps : List P) (ls : List Nat) : execFn f96_c 96 f96_e.tm (explF ps 2 0) ls = (f96_t ps).run fun q => altR (f96_e.res.map fun f => f ps ls) 0 q some := by kernel_rfl
theorem f96_ok : OkEnt Try.prog f96_e := ent_ok (c := f96_c) (g := 96) (body := f96_b) (us := f96_u) (n := 2) (t := f96_t) (good_envOf _ ⟨f161_1_ok, trivial⟩) Try.func96 rfl Try.call96 rfl trivial (by kernel_rfl) f96_x (fun _ => rfl)
/-! ### comprador/compradorlaw06.awake -/
noncomputable def f79_t (ps : List P) : Tree (Nat × List P) :=
 .loop (f83_v [.list false [.pair (.int .i64 (5 : Int)) (.pair (.int .i64 (9 : Int)) .unit), .pair (.int .i64 (1 : Int)) (.pair (.int .i64 (5 : Int)) .unit)]]) fun x1 =>
  .ite (Nat.beq x1.1 0) (
   .loop (f98_v [.list ((lf x1.2 0).isNil) ((lf x1.2 0).xs)]) fun x2 =>
    .ite (Nat.beq x2.1 0) (
     .loop (f96_v [.list ((lf x1.2 0).isNil) ((lf x1.2 0).xs), .list false [.pair (.int .i64 (8 : Int)) (.pair (.int .i64 (12 : Int)) .unit)]]) fun x3 =>
      .ite (Nat.beq x3.1 0) (
       .ite ((((lf x1.2 0).xs).length : Int) == (1 : Int)) (
        .ite (inb (0 : Int) (((lf x1.2 0).xs).length)) (
         .ite (eqP (.pair (.int .i64) (.pair (.int .i64) .unit)) (rd ((lf x1.2 0).xs) 0) (.pair (.int .i64 (1 : Int)) (.pair (.int .i64 (9 : Int)) .unit))) (
          .ite ((((lf x2.2 0).xs).length : Int) == (2 : Int)) (
           .ite (inb (1 : Int) (((lf x2.2 0).xs).length)) (
            .ite (eqP (.pair (.int .i64) (.pair (.int .i64) .unit)) (rd ((lf x2.2 0).xs) 1) (.pair (.int .i64 (9 : Int)) (.pair (.int .i64 (1000000000 : Int)) .unit))) (
             .ite ((((lf x3.2 0).xs).length : Int) == (1 : Int)) (
              .ite (inb (0 : Int) (((lf x3.2 0).xs).length)) (
               .ret (0, [.bool (eqP (.pair (.int .i64) (.pair (.int .i64) .unit)) (rd ((lf x3.2 0).xs) 0) (.pair (.int .i64 (8 : Int)) (.pair (.int .i64 (9 : Int)) .unit)))])) (
               .fail)) (
              .ret (0, [.bool false]))) (
             .ret (0, [.bool false]))) (
            .fail)) (
           .ret (0, [.bool false]))) (
          .ret (0, [.bool false]))) (
         .fail)) (
        .ret (0, [.bool false]))) (
       .fail)) (
     .fail)) (
   .fail)
noncomputable def f79_v (ps : List P) : Option (Nat × List P) := (f79_t ps).run some
noncomputable def f79_e : EntD := ⟨79, [], f79_v, [fun ps ls qs => ⟨[.imm .bool (lf qs 0)], []⟩]⟩
noncomputable def f79_u : List Cu := []
noncomputable def f79_c : Cx := ⟨Try.prog, envOf [f83_e, f96_e, f98_e], 48, lOf f79_u⟩
noncomputable def f79_b : Code := match Try.f79.body with | some b => b | none => .skip
theorem f79_x (ps : List P) (ls : List Nat) : execFn f79_c 79 f79_e.tm (explF ps 0 0) ls = (f79_t ps).run fun q => altR (f79_e.res.map fun f => f ps ls) 0 q some := by kernel_rfl
theorem f79_ok : OkEnt Try.prog f79_e := ent_ok (c := f79_c) (g := 79) (body := f79_b) (us := f79_u) (n := 0) (t := f79_t) (good_envOf _ ⟨f83_ok, f96_ok, f98_ok, trivial⟩) Try.func79 rfl Try.call79 rfl trivial (by kernel_rfl) f79_x (fun _ => rfl)
/-! ### comprador/compradorref06.Check -/
noncomputable def f81_k26 : Sk := { t := [(0, .imm (.slice (.pair (.int .i64) (.pair (.int .i64) .unit))) .unit), (3, .imm (.int .i64) .unit)], h := [] }
noncomputable def f81_o26 : List (Out × Sk) := [(.ret, { t := [(2, .imm .bool .unit)], h := [] }), ((.exit 0), { t := [], h := [] })]
noncomputable def f81_s26 (ls : List P) : Tree Step :=
 .ite (decide ((lf ls 1).toInt < (((lf ls 0).xs).length : Int))) (
  .ite (inb ((lf ls 1).toInt) (((lf ls 0).xs).length)) (
   .ite (decide (((rd ((lf ls 0).xs) (((lf ls 1).toInt).toNat)).fst).toInt < (0 : Int))) (
    .ret (.inr (0, [.bool false]))) (
    .ite (inb ((lf ls 1).toInt) (((lf ls 0).xs).length)) (
     .ite (decide ((((rd ((lf ls 0).xs) (((lf ls 1).toInt).toNat)).snd).fst).toInt > (1000000000 : Int))) (
      .ret (.inr (0, [.bool false]))) (
      .ite (inb ((lf ls 1).toInt) (((lf ls 0).xs).length)) (
       .ite (inb ((lf ls 1).toInt) (((lf ls 0).xs).length)) (
        .ite (decide (((rd ((lf ls 0).xs) (((lf ls 1).toInt).toNat)).fst).toInt ≥ (((rd ((lf ls 0).xs) (((lf ls 1).toInt).toNat)).snd).fst).toInt)) (
         .ret (.inr (0, [.bool false]))) (
         .ite (decide ((lf ls 1).toInt > (0 : Int))) (
          .ite (inb ((lf ls 1).toInt) (((lf ls 0).xs).length)) (
           .ite (inb (IntKind.i64.wrap (((lf ls 1).toInt) - (1 : Int))) (((lf ls 0).xs).length)) (
            .ite (decide (((rd ((lf ls 0).xs) (((lf ls 1).toInt).toNat)).fst).toInt ≤ (((rd ((lf ls 0).xs) ((IntKind.i64.wrap (((lf ls 1).toInt) - (1 : Int))).toNat)).snd).fst).toInt)) (
             .ret (.inr (0, [.bool false]))) (
             .ret (.inl [lf ls 0, .int .i64 (IntKind.i64.wrap (((lf ls 1).toInt) + (1 : Int)))]))) (
            .fail)) (
           .fail)) (
          .ret (.inl [lf ls 0, .int .i64 (IntKind.i64.wrap (((lf ls 1).toInt) + (1 : Int)))])))) (
        .fail)) (
       .fail))) (
     .fail))) (
   .fail)) (
  .ret (.inr (1, [])))
noncomputable def f81_t (ps : List P) : Tree (Nat × List P) :=
 .loop (loopT f81_s26 FUEL [lf ps 0, .int .i64 (0 : Int)]) fun y1 =>
  .ite (Nat.beq y1.1 0) (
   .ret (0, [lf y1.2 0])) (
   .ite (Nat.beq y1.1 1) (
    .ret (0, [.bool true])) (
    .fail))
noncomputable def f81_v (ps : List P) : Option (Nat × List P) := (f81_t ps).run some
noncomputable def f81_e : EntD := ⟨81, [.imm (.slice (.pair (.int .i64) (.pair (.int .i64) .unit)))], f81_v, [fun ps ls qs => ⟨[.imm .bool (lf qs 0)], [.imm (.slice (.pair (.int .i64) (.pair (.int .i64) .unit))) (lf ps 0)]⟩]⟩
noncomputable def f81_u : List Cu := [.loop 26 f81_k26 f81_o26 f81_s26]
noncomputable def f81_c : Cx := ⟨Try.prog, envOf [], 55, lOf f81_u⟩
noncomputable def f81_b : Code := match Try.f81.body with | some b => b | none => .skip
theorem f81_q26 : (Cu.loop 26 f81_k26 f81_o26 f81_s26).Ok f81_c f81_b := ⟨by kernel_rfl, fun ls Kr Kx => by kernel_rfl⟩
theorem f81_x (ps : List P) (ls : List Nat) : execFn f81_c 81 f81_e.tm (explF ps 1 0) ls = (f81_t ps).run fun q => altR (f81_e.res.map fun f => f ps ls) 0 q some := by kernel_rfl
theorem f81_ok : OkEnt Try.prog f81_e := ent_ok (c := f81_c) (g := 81) (body := f81_b) (us := f81_u) (n := 1) (t := f81_t) (good_envOf _ trivial) Try.func81 rfl Try.call81 rfl ⟨f81_q26, trivial⟩ (by kernel_rfl) f81_x (fun _ => rfl)
/-! ### comprador/span.Least -/
noncomputable def f90_t (ps : List P) : Tree (Nat × List P) :=
 .ite ((((lf ps 0).xs).length : Int) == (0 : Int)) (
  .ret (0, [.int .i64 (0 : Int), .bool false])) (
  .ite (inb (0 : Int) (((lf ps 0).xs).length)) (
   .ret (0, [(rd ((lf ps 0).xs) 0).fst, .bool true])) (
   .fail))
noncomputable def f90_v (ps : List P) : Option (Nat × List P) := (f90_t ps).run some
noncomputable def f90_e : EntD := ⟨90, [.imm (.slice (.pair (.int .i64) (.pair (.int .i64) .unit)))], f90_v, [fun ps ls qs => ⟨[.imm (.int .i64) (lf qs 0), .imm .bool (lf qs 1)], [.imm (.slice (.pair (.int .i64) (.pair (.int .i64) .unit))) (lf ps 0)]⟩]⟩
noncomputable def f90_u : List Cu := []
noncomputable def f90_c : Cx := ⟨Try.prog, envOf [], 11, lOf f90_u⟩
noncomputable def f90_b : Code := match Try.f90.body with | some b => b | none => .skip
theorem f90_x (ps : List P) (ls : List Nat) : execFn f90_c 90 f90_e.tm (explF ps 1 0) ls = (f90_t ps).run fun q => altR (f90_e.res.map fun f => f ps ls) 0 q some := by kernel_rfl
theorem f90_ok : OkEnt Try.prog f90_e := ent_ok (c := f90_c) (g := 90) (body := f90_b) (us := f90_u) (n := 1) (t := f90_t) (good_envOf _ trivial) Try.func90 rfl Try.call90 rfl trivial (by kernel_rfl) f90_x (fun _ => rfl)
/-! ### comprador/span.Most -/
noncomputable def f91_t (ps : List P) : Tree (Nat × List P) :=
 .ite ((((lf ps 0).xs).length : Int) == (0 : Int)) (
  .ret (0, [.int .i64 (0 : Int), .bool false])) (
  .ite (inb (IntKind.i64.wrap ((((lf ps 0).xs).length : Int) - (1 : Int))) (((lf ps 0).xs).length)) (
   .ret (0, [.int .i64 (IntKind.i64.wrap (((((rd ((lf ps 0).xs) ((IntKind.i64.wrap ((((lf ps 0).xs).length : Int) - (1 : Int))).toNat)).snd).fst).toInt) - (1 : Int))), .bool true])) (
   .fail))
noncomputable def f91_v (ps : List P) : Option (Nat × List P) := (f91_t ps).run some
noncomputable def f91_e : EntD := ⟨91, [.imm (.slice (.pair (.int .i64) (.pair (.int .i64) .unit)))], f91_v, [fun ps ls qs => ⟨[.imm (.int .i64) (lf qs 0), .imm .bool (lf qs 1)], [.imm (.slice (.pair (.int .i64) (.pair (.int .i64) .unit))) (lf ps 0)]⟩]⟩
noncomputable def f91_u : List Cu := []
noncomputable def f91_c : Cx := ⟨Try.prog, envOf [], 15, lOf f91_u⟩
noncomputable def f91_b : Code := match Try.f91.body with | some b => b | none => .skip
theorem f91_x (ps : List P) (ls : List Nat) : execFn f91_c 91 f91_e.tm (explF ps 1 0) ls = (f91_t ps).run fun q => altR (f91_e.res.map fun f => f ps ls) 0 q some := by kernel_rfl
theorem f91_ok : OkEnt Try.prog f91_e := ent_ok (c := f91_c) (g := 91) (body := f91_b) (us := f91_u) (n := 1) (t := f91_t) (good_envOf _ trivial) Try.func91 rfl Try.call91 rfl trivial (by kernel_rfl) f91_x (fun _ => rfl)
/-! ### comprador/compradorref06.Has -/
noncomputable def f93_k26 : Sk := { t := [(0, .imm (.slice (.pair (.int .i64) (.pair (.int .i64) .unit))) .unit), (1, .imm (.int .i64) .unit), (5, .imm (.int .i64) .unit)], h := [] }
noncomputable def f93_o26 : List (Out × Sk) := [(.ret, { t := [(4, .imm .bool .unit)], h := [] }), ((.exit 0), { t := [], h := [] })]
noncomputable def f93_s26 (ls : List P) : Tree Step :=
 .ite (decide ((lf ls 2).toInt < (((lf ls 0).xs).length : Int))) (
  .ite (inb ((lf ls 2).toInt) (((lf ls 0).xs).length)) (
   .ite (decide (((rd ((lf ls 0).xs) (((lf ls 2).toInt).toNat)).fst).toInt ≤ (lf ls 1).toInt)) (
    .ite (inb ((lf ls 2).toInt) (((lf ls 0).xs).length)) (
     .ite (decide ((lf ls 1).toInt < (((rd ((lf ls 0).xs) (((lf ls 2).toInt).toNat)).snd).fst).toInt)) (
      .ite (decide ((lf ls 1).toInt ≥ (0 : Int))) (
       .ret (.inr (0, [.bool (decide ((lf ls 1).toInt < (1000000000 : Int)))]))) (
       .ret (.inr (0, [.bool false])))) (
      .ret (.inl [lf ls 0, lf ls 1, .int .i64 (IntKind.i64.wrap (((lf ls 2).toInt) + (1 : Int)))]))) (
     .fail)) (
    .ret (.inl [lf ls 0, lf ls 1, .int .i64 (IntKind.i64.wrap (((lf ls 2).toInt) + (1 : Int)))]))) (
   .fail)) (
  .ret (.inr (1, [])))
noncomputable def f93_t (ps : List P) : Tree (Nat × List P) :=
 .loop (loopT f93_s26 FUEL [lf ps 0, lf ps 1, .int .i64 (0 : Int)]) fun y1 =>
  .ite (Nat.beq y1.1 0) (
   .ret (0, [lf y1.2 0])) (
   .ite (Nat.beq y1.1 1) (
    .ret (0, [.bool false])) (
    .fail))
noncomputable def f93_v (ps : List P) : Option (Nat × List P) := (f93_t ps).run some
noncomputable def f93_e : EntD := ⟨93, [.imm (.slice (.pair (.int .i64) (.pair (.int .i64) .unit))), .imm (.int .i64)], f93_v, [fun ps ls qs => ⟨[.imm .bool (lf qs 0)], [.imm (.slice (.pair (.int .i64) (.pair (.int .i64) .unit))) (lf ps 0), .imm (.int .i64) (lf ps 1)]⟩]⟩
noncomputable def f93_u : List Cu := [.loop 26 f93_k26 f93_o26 f93_s26]
noncomputable def f93_c : Cx := ⟨Try.prog, envOf [], 34, lOf f93_u⟩
noncomputable def f93_b : Code := match Try.f93.body with | some b => b | none => .skip
theorem f93_q26 : (Cu.loop 26 f93_k26 f93_o26 f93_s26).Ok f93_c f93_b := ⟨by kernel_rfl, fun ls Kr Kx => by kernel_rfl⟩
theorem f93_x (ps : List P) (ls : List Nat) : execFn f93_c 93 f93_e.tm (explF ps 2 0) ls = (f93_t ps).run fun q => altR (f93_e.res.map fun f => f ps ls) 0 q some := by kernel_rfl
theorem f93_ok : OkEnt Try.prog f93_e := ent_ok (c := f93_c) (g := 93) (body := f93_b) (us := f93_u) (n := 2) (t := f93_t) (good_envOf _ trivial) Try.func93 rfl Try.call93 rfl ⟨f93_q26, trivial⟩ (by kernel_rfl) f93_x (fun _ => rfl)
/-! ### comprador/span.Union$1 -/
noncomputable def f162_t (ps : List P) : Tree (Nat × List P) :=
 .ite ((lf ps 0).toBool) (
  .ret (0, [.bool true])) (
  .ret (0, [lf ps 1]))
noncomputable def f162_v (ps : List P) : Option (Nat × List P) := (f162_t ps).run some
noncomputable def f162_e : EntD := ⟨162, [.imm .bool, .imm .bool], f162_v, [fun ps ls qs => ⟨[.imm .bool (lf qs 0)], [.imm .bool (lf ps 0), .imm .bool (lf ps 1)]⟩]⟩
noncomputable def f162_u : List Cu := []
noncomputable def f162_c : Cx := ⟨Try.prog, envOf [], 9, lOf f162_u⟩
noncomputable def f162_b : Code := match Try.f162.body with | some b => b | none => .skip
theorem f162_x (ps : List P) (ls : List Nat) : execFn f162_c 162 f162_e.tm (explF ps 2 0) ls = (f162_t ps).run fun q => altR (f162_e.res.map fun f => f ps ls) 0 q some := by kernel_rfl
theorem f162_ok : OkEnt Try.prog f162_e := ent_ok (c := f162_c) (g := 162) (body := f162_b) (us := f162_u) (n := 2) (t := f162_t) (good_envOf _ trivial) Try.func162 rfl Try.call162 rfl trivial (by kernel_rfl) f162_x (fun _ => rfl)
/-! ### comprador/span.kept -/
noncomputable def f161_2_k58 : Sk := { t := [(0, .imm (.slice (.pair (.int .i64) (.pair (.int .i64) .unit))) .unit), (1, .imm (.slice (.pair (.int .i64) (.pair (.int .i64) .unit))) .unit), (2, .fn 162 (.imm .unit .unit)), (7, .slf 5100 (.pair (.int .i64) (.pair (.int .i64) .unit))), (8, .imm (.int .i64) .unit)], h := [(5100, .arr (.pair (.int .i64) (.pair (.int .i64) .unit)) true [])] }
noncomputable def f161_2_o58 : List (Out × Sk) := [((.exit 0), { t := [(7, .slf 5130 (.pair (.int .i64) (.pair (.int .i64) .unit)))], h := [(5130, .arr (.pair (.int .i64) (.pair (.int .i64) .unit)) true [])] })]
noncomputable def f161_2_s58 (ls : List P) : Tree Step :=
 .ite (decide ((lf ls 3).toInt < (1000000000 : Int))) (
  .loop (f190_v [lf ls 0, lf ls 3]) fun x1 =>
   .ite (Nat.beq x1.1 0) (
    .loop (f190_v [lf ls 1, lf ls 3]) fun x2 =>
     .ite (Nat.beq x2.1 0) (
      .loop (f92_v [lf ls 0, lf ls 3]) fun x3 =>
       .ite (Nat.beq x3.1 0) (
        .loop (f92_v [lf ls 1, lf ls 3]) fun x4 =>
         .ite (Nat.beq x4.1 0) (
          .loop (f162_v [lf x3.2 0, lf x4.2 0]) fun x5 =>
           .ite (Nat.beq x5.1 0) (
            .ite ((lf x5.2 0).toBool) (
             .loop (f157_v [.list ((lf ls 4).isNil) ((lf ls 4).xs), .pair (lf ls 3) (.pair (.int .i64 (mmx false ((lf x1.2 0).toInt) ((lf x2.2 0).toInt))) .unit)]) fun x6 =>
              .ite (Nat.beq x6.1 0) (
               .ret (.inl [lf ls 0, lf ls 1, lf ls 2, .int .i64 (mmx false ((lf x1.2 0).toInt) ((lf x2.2 0).toInt)), .list ((lf x6.2 0).isNil) ((lf x6.2 0).xs)])) (
               .fail)) (
             .ret (.inl [lf ls 0, lf ls 1, lf ls 2, .int .i64 (mmx false ((lf x1.2 0).toInt) ((lf x2.2 0).toInt)), .list ((lf ls 4).isNil) ((lf ls 4).xs)]))) (
            .fail)) (
          .fail)) (
        .fail)) (
      .fail)) (
    .fail)) (
  .ret (.inr (0, [.list ((lf ls 4).isNil) ((lf ls 4).xs)])))
noncomputable def f161_2_t (ps : List P) : Tree (Nat × List P) :=
 .loop (loopT f161_2_s58 FUEL [lf ps 0, lf ps 1, lf ps 2, .int .i64 (0 : Int), .list true []]) fun y7 =>
  .ite (Nat.beq y7.1 0) (
   .ret (0, [.list ((lf y7.2 0).isNil) ((lf y7.2 0).xs)])) (
   .fail)
noncomputable def f161_2_v (ps : List P) : Option (Nat × List P) := (f161_2_t ps).run some
noncomputable def f161_2_e : EntD := ⟨161, [.imm (.slice (.pair (.int .i64) (.pair (.int .i64) .unit))), .imm (.slice (.pair (.int .i64) (.pair (.int .i64) .unit))), .fn 162 (.imm .unit)], f161_2_v, [fun ps ls qs => ⟨[.own (ls.getD 3129 0) (.pair (.int .i64) (.pair (.int .i64) .unit)) (lf qs 0).isNil (lf qs 0).xs], [.imm (.slice (.pair (.int .i64) (.pair (.int .i64) .unit))) (lf ps 0), .imm (.slice (.pair (.int .i64) (.pair (.int .i64) .unit))) (lf ps 1), .fn 162 (.imm .unit (lf ps 2))]⟩]⟩
noncomputable def f161_2_u : List Cu := [.loop 58 f161_2_k58 f161_2_o58 f161_2_s58]
noncomputable def f161_2_c : Cx := ⟨Try.prog, envOf [f92_e, f157_e, f162_e, f190_e], 34, lOf f161_2_u⟩
noncomputable def f161_2_b : Code := match Try.f161.body with | some b => b | none => .skip
theorem f161_2_q58 : (Cu.loop 58 f161_2_k58 f161_2_o58 f161_2_s58).Ok f161_2_c f161_2_b := ⟨by kernel_rfl, fun ls Kr Kx => by kernel_rfl⟩
theorem f161_2_x (ps : List P) (ls : List Nat) : execFn f161_2_c 161 f161_2_e.tm (explF ps 3 0) ls = (f161_2_t ps).run fun q => altR (f161_2_e.res.map fun f => f ps ls) 0 q some := by kernel_rfl
theorem f161_2_ok : OkEnt Try.prog f161_2_e := ent_ok (c := f161_2_c) (g := 161) (body := f161_2_b) (us := f161_2_u) (n := 3) (t := f161_2_t) (good_envOf _ ⟨f92_ok, f157_ok, f162_ok, f190_ok, trivial⟩) Try.func161 rfl Try.call161 rfl ⟨f161_2_q58, trivial⟩ (by kernel_rfl) f161_2_x (fun _ => rfl)
/-! ### comprador/span.Union -/
noncomputable def f94_t (ps : List P) : Tree (Nat × List P) :=
 .loop (f161_2_v [lf ps 0, lf ps 1, .unit]) fun x1 =>
  .ite (Nat.beq x1.1 0) (
   .ret (0, [.list ((lf x1.2 0).isNil) ((lf x1.2 0).xs)])) (
   .fail)
noncomputable def f94_v (ps : List P) : Option (Nat × List P) := (f94_t ps).run some
noncomputable def f94_e : EntD := ⟨94, [.imm (.slice (.pair (.int .i64) (.pair (.int .i64) .unit))), .imm (.slice (.pair (.int .i64) (.pair (.int .i64) .unit)))], f94_v, [fun ps ls qs => ⟨[.own (ls.getD 98699 0) (.pair (.int .i64) (.pair (.int .i64) .unit)) (lf qs 0).isNil (lf qs 0).xs], [.imm (.slice (.pair (.int .i64) (.pair (.int .i64) .unit))) (lf ps 0), .imm (.slice (.pair (.int .i64) (.pair (.int .i64) .unit))) (lf ps 1)]⟩]⟩
noncomputable def f94_u : List Cu := []
noncomputable def f94_c : Cx := ⟨Try.prog, envOf [f161_2_e], 8, lOf f94_u⟩
noncomputable def f94_b : Code := match Try.f94.body with | some b => b | none => .skip
theorem f94_x (ps : List P) (ls : List Nat) : execFn f94_c 94 f94_e.tm (explF ps 2 0) ls = (f94_t ps).run fun q => altR (f94_e.res.map fun f => f ps ls) 0 q some := by kernel_rfl
theorem f94_ok : OkEnt Try.prog f94_e := ent_ok (c := f94_c) (g := 94) (body := f94_b) (us := f94_u) (n := 2) (t := f94_t) (good_envOf _ ⟨f161_2_ok, trivial⟩) Try.func94 rfl Try.call94 rfl trivial (by kernel_rfl) f94_x (fun _ => rfl)
/-! ### comprador/compradorref06.put -/
noncomputable def f215_k250 : Sk := { t := [(0, .imm (.slice (.int .i64)) .unit), (1, .imm (.int .i64) .unit), (5, .slf 5500 (.int .i64)), (6, .imm .bool .unit), (7, .imm (.int .i64) .unit)], h := [(5500, .arr (.int .i64) true [])] }
noncomputable def f215_o250 : List (Out × Sk) := [((.exit 0), { t := [(1, .imm (.int .i64) .unit), (5, .slf 5530 (.int .i64)), (6, .imm .bool .unit)], h := [(5530, .arr (.int .i64) true [])] })]
noncomputable def f215_s250 (ls : List P) : Tree Step :=
 .ite (decide ((lf ls 3).toInt < (((lf ls 0).xs).length : Int))) (
  .ite (!((lf ls 2).toBool)) (
   .ite (inb ((lf ls 3).toInt) (((lf ls 0).xs).length)) (
    .ite (decide ((lf ls 1).toInt ≤ (rd ((lf ls 0).xs) (((lf ls 3).toInt).toNat)).toInt)) (
     .ite (decide ((((lf ls 4).xs).length + 1) * 8 ≤ 140737488355328)) (
      .ite (inb ((lf ls 3).toInt) (((lf ls 0).xs).length)) (
       .ite (((lf ls 1).toInt) == ((rd ((lf ls 0).xs) (((lf ls 3).toInt).toNat)).toInt)) (
        .ret (.inl [lf ls 0, lf ls 1, .bool true, .int .i64 (IntKind.i64.wrap (((lf ls 3).toInt) + (1 : Int))), .list (((lf ls 4).isNil) && false) (((lf ls 4).xs) ++ [lf ls 1])])) (
        .ite (inb ((lf ls 3).toInt) (((lf ls 0).xs).length)) (
         .ite (decide (((((lf ls 4).xs) ++ [lf ls 1]).length + 1) * 8 ≤ 140737488355328)) (
          .ret (.inl [lf ls 0, lf ls 1, .bool true, .int .i64 (IntKind.i64.wrap (((lf ls 3).toInt) + (1 : Int))), .list ((((lf ls 4).isNil) && false) && false) ((((lf ls 4).xs) ++ [lf ls 1]) ++ [rd ((lf ls 0).xs) (((lf ls 3).toInt).toNat)])])) (
          .fail)) (
         .fail))) (
       .fail)) (
      .fail)) (
     .ite (inb ((lf ls 3).toInt) (((lf ls 0).xs).length)) (
      .ite (decide ((((lf ls 4).xs).length + 1) * 8 ≤ 140737488355328)) (
       .ret (.inl [lf ls 0, lf ls 1, lf ls 2, .int .i64 (IntKind.i64.wrap (((lf ls 3).toInt) + (1 : Int))), .list (((lf ls 4).isNil) && false) (((lf ls 4).xs) ++ [rd ((lf ls 0).xs) (((lf ls 3).toInt).toNat)])])) (
       .fail)) (
      .fail))) (
    .fail)) (
   .ite (inb ((lf ls 3).toInt) (((lf ls 0).xs).length)) (
    .ite (decide ((((lf ls 4).xs).length + 1) * 8 ≤ 140737488355328)) (
     .ret (.inl [lf ls 0, lf ls 1, lf ls 2, .int .i64 (IntKind.i64.wrap (((lf ls 3).toInt) + (1 : Int))), .list (((lf ls 4).isNil) && false) (((lf ls 4).xs) ++ [rd ((lf ls 0).xs) (((lf ls 3).toInt).toNat)])])) (
     .fail)) (
    .fail))) (
  .ret (.inr (0, [lf ls 1, lf ls 2, .list ((lf ls 4).isNil) ((lf ls 4).xs)])))
noncomputable def f215_k1 : Sk := { t := [(0, .imm (.slice (.int .i64)) .unit), (1, .imm (.int .i64) .unit)], h := [] }
noncomputable def f215_o1 : List (Out × Sk) := [(.ret, { t := [(4, .slf 4030 (.int .i64))], h := [(4030, .arr (.int .i64) true [])] })]
noncomputable def f215_s1 (ls : List P) : Tree (Nat × List P) :=
 .loop (loopT f215_s250 FUEL [lf ls 0, .int .i64 (mmx false (mmx true ((lf ls 1).toInt) (0 : Int)) (1000000000 : Int)), .bool false, .int .i64 (0 : Int), .list true []]) fun y1 =>
  .ite (Nat.beq y1.1 0) (
   .ite (!((lf y1.2 1).toBool)) (
    .ite (decide ((((lf y1.2 2).xs).length + 1) * 8 ≤ 140737488355328)) (
     .ret (0, [.list (((lf y1.2 2).isNil) && false) (((lf y1.2 2).xs) ++ [lf y1.2 0])])) (
     .fail)) (
    .ret (0, [.list ((lf y1.2 2).isNil) ((lf y1.2 2).xs)]))) (
   .fail)
noncomputable def f215_t (ps : List P) : Tree (Nat × List P) :=
 .loop ((f215_s1 [lf ps 0, lf ps 1]).run some) fun y2 =>
  .ite (Nat.beq y2.1 0) (
   .ret (0, [.list ((lf y2.2 0).isNil) ((lf y2.2 0).xs)])) (
   .fail)
noncomputable def f215_v (ps : List P) : Option (Nat × List P) := (f215_t ps).run some
noncomputable def f215_e : EntD := ⟨215, [.imm (.slice (.int .i64)), .imm (.int .i64)], f215_v, [fun ps ls qs => ⟨[.own (ls.getD 2029 0) (.int .i64) (lf qs 0).isNil (lf qs 0).xs], [.imm (.slice (.int .i64)) (lf ps 0), .imm (.int .i64) (lf ps 1)]⟩]⟩
noncomputable def f215_u : List Cu := [.loop 250 f215_k250 f215_o250 f215_s250, .cut 1 f215_k1 f215_o1 f215_s1]
noncomputable def f215_c : Cx := ⟨Try.prog, envOf [], 51, lOf f215_u⟩
noncomputable def f215_b : Code := match Try.f215.body with | some b => b | none => .skip
theorem f215_q250 : (Cu.loop 250 f215_k250 f215_o250 f215_s250).Ok f215_c f215_b := ⟨by kernel_rfl, fun ls Kr Kx => by kernel_rfl⟩
theorem f215_q1 : (Cu.cut 1 f215_k1 f215_o1 f215_s1).Ok f215_c f215_b := ⟨by kernel_rfl, fun ls Kx => by kernel_rfl⟩
theorem f215_x (ps : List P) (ls : List Nat) : execFn f215_c 215 f215_e.tm (explF ps 2 0) ls = (f215_t ps).run fun q => altR (f215_e.res.map fun f => f ps ls) 0 q some := by kernel_rfl
theorem f215_ok : OkEnt Try.prog f215_e := ent_ok (c := f215_c) (g := 215) (body := f215_b) (us := f215_u) (n := 2) (t := f215_t) (good_envOf _ trivial) Try.func215 rfl Try.call215 rfl ⟨f215_q250, f215_q1, trivial⟩ (by kernel_rfl) f215_x (fun _ => rfl)
/-! ### comprador/compradorref06.cuts -/
noncomputable def f186_k122 : Sk := { t := [(1, .imm (.slice (.pair (.int .i64) (.pair (.int .i64) .unit))) .unit), (5, .slf 5700 (.int .i64)), (7, .imm (.int .i64) .unit)], h := [(5700, .arr (.int .i64) true [])] }
noncomputable def f186_o122 : List (Out × Sk) := [((.exit 2), { t := [(5, .slf 5730 (.int .i64))], h := [(5730, .arr (.int .i64) true [])] })]
noncomputable def f186_s122 (ls : List P) : Tree Step :=
 .ite (decide ((lf ls 1).toInt < (((lf ls 0).xs).length : Int))) (
  .ite (inb ((lf ls 1).toInt) (((lf ls 0).xs).length)) (
   .ite (inb ((lf ls 1).toInt) (((lf ls 0).xs).length)) (
    .loop (f215_v [.list ((lf ls 2).isNil) ((lf ls 2).xs), (rd ((lf ls 0).xs) (((lf ls 1).toInt).toNat)).fst]) fun x4 =>
     .ite (Nat.beq x4.1 0) (
      .loop (f215_v [.list ((lf x4.2 0).isNil) ((lf x4.2 0).xs), ((rd ((lf ls 0).xs) (((lf ls 1).toInt).toNat)).snd).fst]) fun x5 =>
       .ite (Nat.beq x5.1 0) (
        .ret (.inl [lf ls 0, .int .i64 (IntKind.i64.wrap (((lf ls 1).toInt) + (1 : Int))), .list ((lf x5.2 0).isNil) ((lf x5.2 0).xs)])) (
        .fail)) (
      .fail)) (
    .fail)) (
   .fail)) (
  .ret (.inr (0, [.list ((lf ls 2).isNil) ((lf ls 2).xs)])))
noncomputable def f186_k58 : Sk := { t := [(0, .imm (.slice (.pair (.int .i64) (.pair (.int .i64) .unit))) .unit), (1, .imm (.slice (.pair (.int .i64) (.pair (.int .i64) .unit))) .unit), (5, .slf 5100 (.int .i64)), (6, .imm (.int .i64) .unit)], h := [(5100, .arr (.int .i64) true [])] }
noncomputable def f186_o58 : List (Out × Sk) := [((.exit 0), { t := [(1, .imm (.slice (.pair (.int .i64) (.pair (.int .i64) .unit))) .unit), (5, .slf 5130 (.int .i64))], h := [(5130, .arr (.int .i64) true [])] })]
noncomputable def f186_s58 (ls : List P) : Tree Step :=
 .ite (decide ((lf ls 2).toInt < (((lf ls 0).xs).length : Int))) (
  .ite (inb ((lf ls 2).toInt) (((lf ls 0).xs).length)) (
   .ite (inb ((lf ls 2).toInt) (((lf ls 0).xs).length)) (
    .loop (f215_v [.list ((lf ls 3).isNil) ((lf ls 3).xs), (rd ((lf ls 0).xs) (((lf ls 2).toInt).toNat)).fst]) fun x1 =>
     .ite (Nat.beq x1.1 0) (
      .loop (f215_v [.list ((lf x1.2 0).isNil) ((lf x1.2 0).xs), ((rd ((lf ls 0).xs) (((lf ls 2).toInt).toNat)).snd).fst]) fun x2 =>
       .ite (Nat.beq x2.1 0) (
        .ret (.inl [lf ls 0, lf ls 1, .int .i64 (IntKind.i64.wrap (((lf ls 2).toInt) + (1 : Int))), .list ((lf x2.2 0).isNil) ((lf x2.2 0).xs)])) (
        .fail)) (
      .fail)) (
    .fail)) (
   .fail)) (
  .ret (.inr (0, [lf ls 1, .list ((lf ls 3).isNil) ((lf ls 3).xs)])))
noncomputable def f186_t (ps : List P) : Tree (Nat × List P) :=
 .loop (loopT f186_s58 FUEL [lf ps 0, lf ps 1, .int .i64 (0 : Int), .list false [.int .i64 (0 : Int), .int .i64 (1000000000 : Int)]]) fun y3 =>
  .ite (Nat.beq y3.1 0) (
   .loop (loopT f186_s122 FUEL [lf y3.2 0, .int .i64 (0 : Int), .list ((lf y3.2 1).isNil) ((lf y3.2 1).xs)]) fun y6 =>
    .ite (Nat.beq y6.1 0) (
     .ret (0, [.list ((lf y6.2 0).isNil) ((lf y6.2 0).xs)])) (
     .fail)) (
   .fail)
noncomputable def f186_v (ps : List P) : Option (Nat × List P) := (f186_t ps).run some
noncomputable def f186_e : EntD := ⟨186, [.imm (.slice (.pair (.int .i64) (.pair (.int .i64) .unit))), .imm (.slice (.pair (.int .i64) (.pair (.int .i64) .unit)))], f186_v, [fun ps ls qs => ⟨[.own (ls.getD 3729 0) (.int .i64) (lf qs 0).isNil (lf qs 0).xs], [.imm (.slice (.pair (.int .i64) (.pair (.int .i64) .unit))) (lf ps 0), .imm (.slice (.pair (.int .i64) (.pair (.int .i64) .unit))) (lf ps 1)]⟩]⟩
noncomputable def f186_u : List Cu := [.loop 122 f186_k122 f186_o122 f186_s122, .loop 58 f186_k58 f186_o58 f186_s58]
noncomputable def f186_c : Cx := ⟨Try.prog, envOf [f215_e], 48, lOf f186_u⟩
noncomputable def f186_b : Code := match Try.f186.body with | some b => b | none => .skip
theorem f186_q122 : (Cu.loop 122 f186_k122 f186_o122 f186_s122).Ok f186_c f186_b := ⟨by kernel_rfl, fun ls Kr Kx => by kernel_rfl⟩
theorem f186_q58 : (Cu.loop 58 f186_k58 f186_o58 f186_s58).Ok f186_c f186_b := ⟨by kernel_rfl, fun ls Kr Kx => by kernel_rfl⟩
theorem f186_x (ps : List P) (ls : List Nat) : execFn f186_c 186 f186_e.tm (explF ps 2 0) ls = (f186_t ps).run fun q => altR (f186_e.res.map fun f => f ps ls) 0 q some := by kernel_rfl
theorem f186_ok : OkEnt Try.prog f186_e := ent_ok (c := f186_c) (g := 186) (body := f186_b) (us := f186_u) (n := 2) (t := f186_t) (good_envOf _ ⟨f215_ok, trivial⟩) Try.func186 rfl Try.call186 rfl ⟨f186_q122, f186_q58, trivial⟩ (by kernel_rfl) f186_x (fun _ => rfl)
/-! ### comprador/compradorref06.told -/
noncomputable def f187_t (ps : List P) : Tree (Nat × List P) :=
 .ite (((lf ps 0).toInt) == (0 : Int)) (
  .ite ((lf ps 1).toBool) (
   .ret (0, [.bool true])) (
   .ret (0, [lf ps 2]))) (
  .ite (((lf ps 0).toInt) == (1 : Int)) (
   .ite ((lf ps 1).toBool) (
    .ret (0, [lf ps 2])) (
    .ret (0, [.bool false]))) (
   .ret (0, [.bool (!((lf ps 1).toBool))])))
noncomputable def f187_v (ps : List P) : Option (Nat × List P) := (f187_t ps).run some
noncomputable def f187_e : EntD := ⟨187, [.imm (.int .i64), .imm .bool, .imm .bool], f187_v, [fun ps ls qs => ⟨[.imm .bool (lf qs 0)], [.imm (.int .i64) (lf ps 0), .imm .bool (lf ps 1), .imm .bool (lf ps 2)]⟩]⟩
noncomputable def f187_u : List Cu := []
noncomputable def f187_c : Cx := ⟨Try.prog, envOf [], 21, lOf f187_u⟩
noncomputable def f187_b : Code := match Try.f187.body with | some b => b | none => .skip
theorem f187_x (ps : List P) (ls : List Nat) : execFn f187_c 187 f187_e.tm (explF ps 3 0) ls = (f187_t ps).run fun q => altR (f187_e.res.map fun f => f ps ls) 0 q some := by kernel_rfl
theorem f187_ok : OkEnt Try.prog f187_e := ent_ok (c := f187_c) (g := 187) (body := f187_b) (us := f187_u) (n := 3) (t := f187_t) (good_envOf _ trivial) Try.func187 rfl Try.call187 rfl trivial (by kernel_rfl) f187_x (fun _ => rfl)
end Go.Proofs.Ytjemihhhkhdbeaa
