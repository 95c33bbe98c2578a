/- Functions: what each tells. Conditions: none. -/
import Derived.Test.YtjemihhhkhdbeaaFSph
open Go Go.Eng Go.Proofs
set_option pp.deepTerms true
set_option linter.unusedVariables false
namespace Go.Proofs.Ytjemihhhkhdbeaa
/-! ### comprador/compradorlaw18.Large -/
noncomputable def f165_t (ps : List P) : Tree (Nat × List P) :=
 .ite (decide ((((((lf ps 0).snd).fst).xs).length : Int) > (60 : Int))) (
  .ret (0, [.bool true])) (
  .ret (0, [.bool (decide (((((lf ps 0).fst).toStr).size : Int) > (200 : Int)))]))
noncomputable def f165_v (ps : List P) : Option (Nat × List P) := (f165_t ps).run some
noncomputable def f165_e : EntD := ⟨165, [.imm (.pair .str (.pair (.slice (.pair (.int .i64) (.pair (.int .i64) .unit))) (.pair .bool .unit)))], f165_v, [fun ps ls qs => ⟨[.imm .bool (lf qs 0)], [.imm (.pair .str (.pair (.slice (.pair (.int .i64) (.pair (.int .i64) .unit))) (.pair .bool .unit))) (lf ps 0)]⟩]⟩
noncomputable def f165_u : List Cu := []
noncomputable def f165_c : Cx := ⟨Try.prog, envOf [], 13, lOf f165_u, fun _ => false⟩
noncomputable def f165_b : Code := match Try.f165.body with | some b => b | none => .skip
theorem f165_x (ps : List P) (ls : List Nat) : execFn f165_c 165 f165_e.tm (explF ps 1 0) ls = (f165_t ps).run fun q => altR (f165_e.res.map fun f => f ps ls) 0 q some := by kernel_rfl
theorem f165_ok : OkEnt Try.prog f165_e := ent_ok (c := f165_c) (g := 165) (body := f165_b) (us := f165_u) (n := 1) (t := f165_t) (good_envOf _ trivial) Try.func165 rfl Try.call165 rfl trivial (by kernel_rfl) f165_x (fun _ => rfl)
/-! ### comprador/compradorlaw19.Large -/
noncomputable def f104_k58 : Sk := { t := [(0, .imm (.slice (.pair .str (.pair (.slice (.pair (.int .i64) (.pair (.int .i64) .unit))) (.pair .bool .unit)))) .unit), (3, .imm (.int .i64) .unit)], h := [] }
noncomputable def f104_o58 : List (Out × Sk) := [(.ret, { t := [(2, .imm .bool .unit)], h := [] }), ((.exit 0), { t := [], h := [] })]
noncomputable def f104_s58 (ls : List P) : Tree Step :=
 .ite (decide ((lf ls 1).toInt < (((lf ls 0).xs).length : Int))) (
  .ite (inb ((lf ls 1).toInt) (((lf ls 0).xs).length)) (
   .loop (f165_v [rd ((lf ls 0).xs) (((lf ls 1).toInt).toNat)]) fun x1 =>
    .ite (Nat.beq x1.1 0) (
     .ite ((lf x1.2 0).toBool) (
      .ret (.inr (0, [.bool true]))) (
      .ret (.inl [lf ls 0, .int .i64 (IntKind.i64.wrap (((lf ls 1).toInt) + (1 : Int)))]))) (
     .fail)) (
   .fail)) (
  .ret (.inr (1, [])))
noncomputable def f104_t (ps : List P) : Tree (Nat × List P) :=
 .ite (decide ((((lf ps 0).xs).length : Int) > (40 : Int))) (
  .ret (0, [.bool true])) (
  .loop (loopT f104_s58 FUEL [lf ps 0, .int .i64 (0 : Int)]) fun y2 =>
   .ite (Nat.beq y2.1 0) (
    .ret (0, [lf y2.2 0])) (
    .ite (Nat.beq y2.1 1) (
     .ret (0, [.bool false])) (
     .fail)))
noncomputable def f104_v (ps : List P) : Option (Nat × List P) := (f104_t ps).run some
noncomputable def f104_e : EntD := ⟨104, [.imm (.slice (.pair .str (.pair (.slice (.pair (.int .i64) (.pair (.int .i64) .unit))) (.pair .bool .unit))))], f104_v, [fun ps ls qs => ⟨[.imm .bool (lf qs 0)], [.imm (.slice (.pair .str (.pair (.slice (.pair (.int .i64) (.pair (.int .i64) .unit))) (.pair .bool .unit)))) (lf ps 0)]⟩]⟩
noncomputable def f104_u : List Cu := [.loop 58 f104_k58 f104_o58 f104_s58]
noncomputable def f104_c : Cx := ⟨Try.prog, envOf [f165_e], 18, lOf f104_u, fun _ => false⟩
noncomputable def f104_b : Code := match Try.f104.body with | some b => b | none => .skip
theorem f104_q58 : (Cu.loop 58 f104_k58 f104_o58 f104_s58).Ok f104_c f104_b := ⟨by kernel_rfl, fun ls Kr Kx => by kernel_rfl⟩
theorem f104_x (ps : List P) (ls : List Nat) : execFn f104_c 104 f104_e.tm (explF ps 1 0) ls = (f104_t ps).run fun q => altR (f104_e.res.map fun f => f ps ls) 0 q some := by kernel_rfl
theorem f104_ok : OkEnt Try.prog f104_e := ent_ok (c := f104_c) (g := 104) (body := f104_b) (us := f104_u) (n := 1) (t := f104_t) (good_envOf _ ⟨f165_ok, trivial⟩) Try.func104 rfl Try.call104 rfl ⟨f104_q58, trivial⟩ (by kernel_rfl) f104_x (fun _ => rfl)
/-! ### comprador/compradorlaw24.Large -/
noncomputable def f15_k58 : Sk := { t := [(0, .imm (.slice (.pair .bool (.pair (.int .i64) (.pair (.slice (.pair .str (.pair (.slice (.pair (.int .i64) (.pair (.int .i64) .unit))) (.pair .bool .unit)))) (.pair .bool .unit))))) .unit), (3, .imm (.int .i64) .unit)], h := [] }
noncomputable def f15_o58 : List (Out × Sk) := [(.ret, { t := [(2, .imm .bool .unit)], h := [] }), ((.exit 0), { t := [], h := [] })]
noncomputable def f15_s58 (ls : List P) : Tree Step :=
 .ite (decide ((lf ls 1).toInt < (((lf ls 0).xs).length : Int))) (
  .ite (inb ((lf ls 1).toInt) (((lf ls 0).xs).length)) (
   .loop (f104_v [(((rd ((lf ls 0).xs) (((lf ls 1).toInt).toNat)).snd).snd).fst]) fun x1 =>
    .ite (Nat.beq x1.1 0) (
     .ite ((lf x1.2 0).toBool) (
      .ret (.inr (0, [.bool true]))) (
      .ret (.inl [lf ls 0, .int .i64 (IntKind.i64.wrap (((lf ls 1).toInt) + (1 : Int)))]))) (
     .fail)) (
   .fail)) (
  .ret (.inr (1, [])))
noncomputable def f15_t (ps : List P) : Tree (Nat × List P) :=
 .ite (decide ((((lf ps 0).xs).length : Int) > (60 : Int))) (
  .ret (0, [.bool true])) (
  .loop (loopT f15_s58 FUEL [lf ps 0, .int .i64 (0 : Int)]) fun y2 =>
   .ite (Nat.beq y2.1 0) (
    .ret (0, [lf y2.2 0])) (
    .ite (Nat.beq y2.1 1) (
     .ret (0, [.bool false])) (
     .fail)))
noncomputable def f15_v (ps : List P) : Option (Nat × List P) := (f15_t ps).run some
noncomputable def f15_e : EntD := ⟨15, [.imm (.slice (.pair .bool (.pair (.int .i64) (.pair (.slice (.pair .str (.pair (.slice (.pair (.int .i64) (.pair (.int .i64) .unit))) (.pair .bool .unit)))) (.pair .bool .unit)))))], f15_v, [fun ps ls qs => ⟨[.imm .bool (lf qs 0)], [.imm (.slice (.pair .bool (.pair (.int .i64) (.pair (.slice (.pair .str (.pair (.slice (.pair (.int .i64) (.pair (.int .i64) .unit))) (.pair .bool .unit)))) (.pair .bool .unit))))) (lf ps 0)]⟩]⟩
noncomputable def f15_u : List Cu := [.loop 58 f15_k58 f15_o58 f15_s58]
noncomputable def f15_c : Cx := ⟨Try.prog, envOf [f104_e], 19, lOf f15_u, fun _ => false⟩
noncomputable def f15_b : Code := match Try.f15.body with | some b => b | none => .skip
theorem f15_q58 : (Cu.loop 58 f15_k58 f15_o58 f15_s58).Ok f15_c f15_b := ⟨by kernel_rfl, fun ls Kr Kx => by kernel_rfl⟩
theorem f15_x (ps : List P) (ls : List Nat) : execFn f15_c 15 f15_e.tm (explF ps 1 0) ls = (f15_t ps).run fun q => altR (f15_e.res.map fun f => f ps ls) 0 q some := by kernel_rfl
theorem f15_ok : OkEnt Try.prog f15_e := ent_ok (c := f15_c) (g := 15) (body := f15_b) (us := f15_u) (n := 1) (t := f15_t) (good_envOf _ ⟨f104_ok, trivial⟩) Try.func15 rfl Try.call15 rfl ⟨f15_q58, trivial⟩ (by kernel_rfl) f15_x (fun _ => rfl)
/-! ### comprador/store.New -/
noncomputable def f17_t (ps : List P) : Tree (Nat × List P) :=
 .ret (0, [.list false [], .unit])
noncomputable def f17_v (ps : List P) : Option (Nat × List P) := (f17_t ps).run some
noncomputable def f17_e : EntD := ⟨17, [], f17_v, [fun ps ls qs => ⟨[.box 0 (.pair (.slice (.pair (.slice (.pair .str (.pair (.slice (.pair (.int .i64) (.pair (.int .i64) .unit))) (.pair .bool .unit)))) (.pair (.int .i64) (.pair .bool (.pair .bool .unit))))) (.pair .map .unit)) (.pair (.imm (.slice (.pair (.slice (.pair .str (.pair (.slice (.pair (.int .i64) (.pair (.int .i64) .unit))) (.pair .bool .unit)))) (.pair (.int .i64) (.pair .bool (.pair .bool .unit))))) (.list true [])) (.pair (.blk 0 (.mt .str (.slice (.int .i64))) (lf qs 0)) (.imm .unit (lf qs 1))))], []⟩]⟩
noncomputable def f17_u : List Cu := []
noncomputable def f17_c : Cx := ⟨Try.prog, envOf [], 4, lOf f17_u, fun d => memB d [1]⟩
noncomputable def f17_b : Code := match Try.f17.body with | some b => b | none => .skip
theorem f17_x (ps : List P) (ls : List Nat) : execFn f17_c 17 f17_e.tm (explF ps 0 0) ls = (f17_t ps).run fun q => altR (f17_e.res.map fun f => f ps ls) 0 q some := by kernel_rfl
theorem f17_ok : OkEnt Try.prog f17_e := ent_ok (c := f17_c) (g := 17) (body := f17_b) (us := f17_u) (n := 0) (t := f17_t) (good_envOf _ trivial) Try.func17 rfl Try.call17 rfl trivial (by kernel_rfl) f17_x (fun _ => rfl)
/-! ### slices.Clone[[]comprador/api.Term,comprador/api.Term] -/
noncomputable def f166_k1 : Sk := { t := [(0, .imm (.slice (.pair .str (.pair (.slice (.pair (.int .i64) (.pair (.int .i64) .unit))) (.pair .bool .unit)))) .unit)], h := [] }
noncomputable def f166_o1 : List (Out × Sk) := [(.ret, { t := [(2, .slf 4030 (.pair .str (.pair (.slice (.pair (.int .i64) (.pair (.int .i64) .unit))) (.pair .bool .unit))))], h := [(4030, .arr (.pair .str (.pair (.slice (.pair (.int .i64) (.pair (.int .i64) .unit))) (.pair .bool .unit))) true [])] })]
noncomputable def f166_s1 (ls : List P) : Tree (Nat × List P) :=
 .ite ((lf ls 0).isNil) (
  .ret (0, [.list true []])) (
  .ite (decide ((0 + ((lf ls 0).xs).length) * 48 ≤ 140737488355328)) (
   .ret (0, [.list false ((lf ls 0).xs)])) (
   .fail))
noncomputable def f166_t (ps : List P) : Tree (Nat × List P) :=
 .loop ((f166_s1 [lf ps 0]).run some) fun y1 =>
  .ite (Nat.beq y1.1 0) (
   .ret (0, [.list ((lf y1.2 0).isNil) ((lf y1.2 0).xs)])) (
   .fail)
noncomputable def f166_v (ps : List P) : Option (Nat × List P) := (f166_t ps).run some
noncomputable def f166_e : EntD := ⟨166, [.imm (.slice (.pair .str (.pair (.slice (.pair (.int .i64) (.pair (.int .i64) .unit))) (.pair .bool .unit))))], f166_v, [fun ps ls qs => ⟨[.own (ls.getD 2029 0) (.pair .str (.pair (.slice (.pair (.int .i64) (.pair (.int .i64) .unit))) (.pair .bool .unit))) (lf qs 0).isNil (lf qs 0).xs], [.imm (.slice (.pair .str (.pair (.slice (.pair (.int .i64) (.pair (.int .i64) .unit))) (.pair .bool .unit)))) (lf ps 0)]⟩]⟩
noncomputable def f166_u : List Cu := [.cut 1 f166_k1 f166_o1 f166_s1]
noncomputable def f166_c : Cx := ⟨Try.prog, envOf [], 8, lOf f166_u, fun _ => false⟩
noncomputable def f166_b : Code := match Try.f166.body with | some b => b | none => .skip
theorem f166_q1 : (Cu.cut 1 f166_k1 f166_o1 f166_s1).Ok f166_c f166_b := ⟨by kernel_rfl, fun ls Kx => by kernel_rfl⟩
theorem f166_x (ps : List P) (ls : List Nat) : execFn f166_c 166 f166_e.tm (explF ps 1 0) ls = (f166_t ps).run fun q => altR (f166_e.res.map fun f => f ps ls) 0 q some := by kernel_rfl
theorem f166_ok : OkEnt Try.prog f166_e := ent_ok (c := f166_c) (g := 166) (body := f166_b) (us := f166_u) (n := 1) (t := f166_t) (good_envOf _ trivial) Try.func166 rfl Try.call166 rfl ⟨f166_q1, trivial⟩ (by kernel_rfl) f166_x (fun _ => rfl)
/-! ### slices.Clone[[]comprador/api.Span,comprador/api.Span] -/
noncomputable def f167_k1 : Sk := { t := [(0, .imm (.slice (.pair (.int .i64) (.pair (.int .i64) .unit))) .unit)], h := [] }
noncomputable def f167_o1 : List (Out × Sk) := [(.ret, { t := [(2, .slf 4030 (.pair (.int .i64) (.pair (.int .i64) .unit)))], h := [(4030, .arr (.pair (.int .i64) (.pair (.int .i64) .unit)) true [])] })]
noncomputable def f167_s1 (ls : List P) : Tree (Nat × List P) :=
 .ite ((lf ls 0).isNil) (
  .ret (0, [.list true []])) (
  .ite (decide ((0 + ((lf ls 0).xs).length) * 16 ≤ 140737488355328)) (
   .ret (0, [.list false ((lf ls 0).xs)])) (
   .fail))
noncomputable def f167_t (ps : List P) : Tree (Nat × List P) :=
 .loop ((f167_s1 [lf ps 0]).run some) fun y1 =>
  .ite (Nat.beq y1.1 0) (
   .ret (0, [.list ((lf y1.2 0).isNil) ((lf y1.2 0).xs)])) (
   .fail)
noncomputable def f167_v (ps : List P) : Option (Nat × List P) := (f167_t ps).run some
noncomputable def f167_e : EntD := ⟨167, [.imm (.slice (.pair (.int .i64) (.pair (.int .i64) .unit)))], f167_v, [fun ps ls qs => ⟨[.own (ls.getD 2029 0) (.pair (.int .i64) (.pair (.int .i64) .unit)) (lf qs 0).isNil (lf qs 0).xs], [.imm (.slice (.pair (.int .i64) (.pair (.int .i64) .unit))) (lf ps 0)]⟩]⟩
noncomputable def f167_u : List Cu := [.cut 1 f167_k1 f167_o1 f167_s1]
noncomputable def f167_c : Cx := ⟨Try.prog, envOf [], 8, lOf f167_u, fun _ => false⟩
noncomputable def f167_b : Code := match Try.f167.body with | some b => b | none => .skip
theorem f167_q1 : (Cu.cut 1 f167_k1 f167_o1 f167_s1).Ok f167_c f167_b := ⟨by kernel_rfl, fun ls Kx => by kernel_rfl⟩
theorem f167_x (ps : List P) (ls : List Nat) : execFn f167_c 167 f167_e.tm (explF ps 1 0) ls = (f167_t ps).run fun q => altR (f167_e.res.map fun f => f ps ls) 0 q some := by kernel_rfl
theorem f167_ok : OkEnt Try.prog f167_e := ent_ok (c := f167_c) (g := 167) (body := f167_b) (us := f167_u) (n := 1) (t := f167_t) (good_envOf _ trivial) Try.func167 rfl Try.call167 rfl ⟨f167_q1, trivial⟩ (by kernel_rfl) f167_x (fun _ => rfl)
/-! ### comprador/store.cloned -/
noncomputable def f108_k58 : Sk := { t := [(3, .slf 5100 (.pair .str (.pair (.slice (.pair (.int .i64) (.pair (.int .i64) .unit))) (.pair .bool .unit)))), (8, .slf 5100 (.pair .str (.pair (.slice (.pair (.int .i64) (.pair (.int .i64) .unit))) (.pair .bool .unit)))), (9, .imm (.int .i64) .unit), (10, .imm (.int .i64) .unit)], h := [(5100, .arr (.pair .str (.pair (.slice (.pair (.int .i64) (.pair (.int .i64) .unit))) (.pair .bool .unit))) true [])] }
noncomputable def f108_o58 : List (Out × Sk) := [((.exit 0), { t := [(3, .slf 5130 (.pair .str (.pair (.slice (.pair (.int .i64) (.pair (.int .i64) .unit))) (.pair .bool .unit))))], h := [(5130, .arr (.pair .str (.pair (.slice (.pair (.int .i64) (.pair (.int .i64) .unit))) (.pair .bool .unit))) true [])] })]
noncomputable def f108_s58 (ls : List P) : Tree Step :=
 .ite (decide ((lf ls 1).toInt < (lf ls 0).toInt)) (
  .ite (inb ((lf ls 1).toInt) (((lf ls 2).xs).length)) (
   .loop (f167_v [((rd ((lf ls 2).xs) (((lf ls 1).toInt).toNat)).snd).fst]) fun x2 =>
    .ite (Nat.beq x2.1 0) (
     .ite (inb ((lf ls 1).toInt) (((lf ls 2).xs).length)) (
      .ret (.inl [lf ls 0, .int .i64 (IntKind.i64.wrap (((lf ls 1).toInt) + (1 : Int))), .list ((lf ls 2).isNil) (((lf ls 2).xs).set (((lf ls 1).toInt).toNat) (.pair ((rd ((lf ls 2).xs) (((lf ls 1).toInt).toNat)).fst) (.pair (.list ((lf x2.2 0).isNil) ((lf x2.2 0).xs)) (((rd ((lf ls 2).xs) (((lf ls 1).toInt).toNat)).snd).snd))))])) (
      .fail)) (
     .fail)) (
   .fail)) (
  .ret (.inr (0, [.list ((lf ls 2).isNil) ((lf ls 2).xs)])))
noncomputable def f108_t (ps : List P) : Tree (Nat × List P) :=
 .loop (f166_v [lf ps 0]) fun x1 =>
  .ite (Nat.beq x1.1 0) (
   .loop (loopT f108_s58 FUEL [.int .i64 (((lf x1.2 0).xs).length : Int), .int .i64 (0 : Int), .list ((lf x1.2 0).isNil) ((lf x1.2 0).xs)]) fun y3 =>
    .ite (Nat.beq y3.1 0) (
     .ret (0, [.list ((lf y3.2 0).isNil) ((lf y3.2 0).xs)])) (
     .fail)) (
   .fail)
noncomputable def f108_v (ps : List P) : Option (Nat × List P) := (f108_t ps).run some
noncomputable def f108_e : EntD := ⟨108, [.imm (.slice (.pair .str (.pair (.slice (.pair (.int .i64) (.pair (.int .i64) .unit))) (.pair .bool .unit))))], f108_v, [fun ps ls qs => ⟨[.own (ls.getD 3129 0) (.pair .str (.pair (.slice (.pair (.int .i64) (.pair (.int .i64) .unit))) (.pair .bool .unit))) (lf qs 0).isNil (lf qs 0).xs], [.imm (.slice (.pair .str (.pair (.slice (.pair (.int .i64) (.pair (.int .i64) .unit))) (.pair .bool .unit)))) (lf ps 0)]⟩]⟩
noncomputable def f108_u : List Cu := [.loop 58 f108_k58 f108_o58 f108_s58]
noncomputable def f108_c : Cx := ⟨Try.prog, envOf [f166_e, f167_e], 24, lOf f108_u, fun _ => false⟩
noncomputable def f108_b : Code := match Try.f108.body with | some b => b | none => .skip
theorem f108_q58 : (Cu.loop 58 f108_k58 f108_o58 f108_s58).Ok f108_c f108_b := ⟨by kernel_rfl, fun ls Kr Kx => by kernel_rfl⟩
theorem f108_x (ps : List P) (ls : List Nat) : execFn f108_c 108 f108_e.tm (explF ps 1 0) ls = (f108_t ps).run fun q => altR (f108_e.res.map fun f => f ps ls) 0 q some := by kernel_rfl
theorem f108_ok : OkEnt Try.prog f108_e := ent_ok (c := f108_c) (g := 108) (body := f108_b) (us := f108_u) (n := 1) (t := f108_t) (good_envOf _ ⟨f166_ok, f167_ok, trivial⟩) Try.func108 rfl Try.call108 rfl ⟨f108_q58, trivial⟩ (by kernel_rfl) f108_x (fun _ => rfl)
/-! ### (*comprador/store.Store).Add -/
noncomputable def f19_k250 : Sk := { t := [(0, .ref 2001 [] (.pair (.slice (.pair (.slice (.pair .str (.pair (.slice (.pair (.int .i64) (.pair (.int .i64) .unit))) (.pair .bool .unit)))) (.pair (.int .i64) (.pair .bool (.pair .bool .unit))))) (.pair .map .unit))), (9, .imm (.int .i64) .unit), (33, .imm (.slice (.pair .str (.pair (.slice (.pair (.int .i64) (.pair (.int .i64) .unit))) (.pair .bool .unit)))) .unit), (34, .imm (.int .i64) .unit), (35, .imm (.int .i64) .unit)], h := [(2001, .obj (.pair (.slice (.pair (.slice (.pair .str (.pair (.slice (.pair (.int .i64) (.pair (.int .i64) .unit))) (.pair .bool .unit)))) (.pair (.int .i64) (.pair .bool (.pair .bool .unit))))) (.pair .map .unit)) (.pair (.slf 6101 (.pair (.slice (.pair .str (.pair (.slice (.pair (.int .i64) (.pair (.int .i64) .unit))) (.pair .bool .unit)))) (.pair (.int .i64) (.pair .bool (.pair .bool .unit))))) (.pair (.blk 2003 (.mt .str (.slice (.int .i64)))) (.imm .unit .unit)))), (6101, .arr (.pair (.slice (.pair .str (.pair (.slice (.pair (.int .i64) (.pair (.int .i64) .unit))) (.pair .bool .unit)))) (.pair (.int .i64) (.pair .bool (.pair .bool .unit)))) true []), (2003, .blk (.mt .str (.slice (.int .i64))) .unit)] }
noncomputable def f19_o250 : List (Out × Sk) := [((.exit 0), { t := [(0, .ref 2001 [] (.pair (.slice (.pair (.slice (.pair .str (.pair (.slice (.pair (.int .i64) (.pair (.int .i64) .unit))) (.pair .bool .unit)))) (.pair (.int .i64) (.pair .bool (.pair .bool .unit))))) (.pair .map .unit))), (9, .imm (.int .i64) .unit)], h := [(2001, .obj (.pair (.slice (.pair (.slice (.pair .str (.pair (.slice (.pair (.int .i64) (.pair (.int .i64) .unit))) (.pair .bool .unit)))) (.pair (.int .i64) (.pair .bool (.pair .bool .unit))))) (.pair .map .unit)) (.pair (.slf 6131 (.pair (.slice (.pair .str (.pair (.slice (.pair (.int .i64) (.pair (.int .i64) .unit))) (.pair .bool .unit)))) (.pair (.int .i64) (.pair .bool (.pair .bool .unit))))) (.pair (.blk 2003 (.mt .str (.slice (.int .i64)))) (.imm .unit .unit)))), (6131, .arr (.pair (.slice (.pair .str (.pair (.slice (.pair (.int .i64) (.pair (.int .i64) .unit))) (.pair .bool .unit)))) (.pair (.int .i64) (.pair .bool (.pair .bool .unit)))) true []), (2003, .blk (.mt .str (.slice (.int .i64))) .unit)] })]
noncomputable def f19_s250 (ls : List P) : Tree Step :=
 .ite (decide ((lf ls 3).toInt < (lf ls 2).toInt)) (
  .ite (inb ((lf ls 3).toInt) (((lf ls 1).xs).length)) (
   .ite (decide ((((lookP .str ((rd ((lf ls 1).xs) (((lf ls 3).toInt).toNat)).fst) (.list true []) ((lf ls 6).xs)).xs).length + 1) * 8 ≤ 140737488355328)) (
    .ite (Nat.beq (idxP .str ((rd ((lf ls 1).xs) (((lf ls 3).toInt).toNat)).fst) ((lf ls 6).xs)) (idxP .str ((rd ((lf ls 1).xs) (((lf ls 3).toInt).toNat)).fst) ((lf ls 6).xs))) (
     .ite (Nat.beq (idxP .str ((rd ((lf ls 1).xs) (((lf ls 3).toInt).toNat)).fst) ((lf ls 6).xs)) (idxP .str ((rd ((lf ls 1).xs) (((lf ls 3).toInt).toNat)).fst) ((lf ls 6).xs))) (
      .ret (.inl [lf ls 0, lf ls 1, lf ls 2, .int .i64 (IntKind.i64.wrap (((lf ls 3).toInt) + (1 : Int))), lf ls 4, .list ((lf ls 5).isNil) ((lf ls 5).xs), .list false (updP .str ((rd ((lf ls 1).xs) (((lf ls 3).toInt).toNat)).fst) (.list (((lookP .str ((rd ((lf ls 1).xs) (((lf ls 3).toInt).toNat)).fst) (.list true []) ((lf ls 6).xs)).isNil) && false) (((lookP .str ((rd ((lf ls 1).xs) (((lf ls 3).toInt).toNat)).fst) (.list true []) ((lf ls 6).xs)).xs) ++ ([lf ls 0] : List P))) ((lf ls 6).xs))])) (
      .fail)) (
     .fail)) (
    .fail)) (
   .fail)) (
  .ret (.inr (0, [lf ls 0, lf ls 4, .list ((lf ls 5).isNil) ((lf ls 5).xs), lf ls 6])))
noncomputable def f19_t (ps : List P) : Tree (Nat × List P) :=
 .loop (f108_v [lf ps 3]) fun x1 =>
  .ite (Nat.beq x1.1 0) (
   .ite (decide ((((lf ps 0).xs).length + 1) * 40 ≤ 140737488355328)) (
    .loop (loopT f19_s250 FUEL [.int .i64 (((lf ps 0).xs).length : Int), lf ps 3, .int .i64 (((lf ps 3).xs).length : Int), .int .i64 (0 : Int), lf ps 2, .list (((lf ps 0).isNil) && false) (((lf ps 0).xs) ++ ([.pair (.list ((lf x1.2 0).isNil) ((lf x1.2 0).xs)) (.pair (lf ps 4) (.pair (lf ps 5) (.pair (.bool false) .unit)))] : List P)), lf ps 1]) fun y2 =>
     .ite (Nat.beq y2.1 0) (
      .ret (0, [lf y2.2 0, .list ((lf y2.2 2).isNil) ((lf y2.2 2).xs), lf y2.2 3, lf y2.2 1])) (
      .fail)) (
    .fail)) (
   .fail)
noncomputable def f19_v (ps : List P) : Option (Nat × List P) := (f19_t ps).run some
noncomputable def f19_e : EntD := ⟨19, [.box (.pair (.slice (.pair (.slice (.pair .str (.pair (.slice (.pair (.int .i64) (.pair (.int .i64) .unit))) (.pair .bool .unit)))) (.pair (.int .i64) (.pair .bool (.pair .bool .unit))))) (.pair .map .unit)) (.pair (.own (.pair (.slice (.pair .str (.pair (.slice (.pair (.int .i64) (.pair (.int .i64) .unit))) (.pair .bool .unit)))) (.pair (.int .i64) (.pair .bool (.pair .bool .unit))))) (.pair (.blk (.mt .str (.slice (.int .i64)))) (.imm .unit))), .imm (.slice (.pair .str (.pair (.slice (.pair (.int .i64) (.pair (.int .i64) .unit))) (.pair .bool .unit)))), .imm (.int .i64), .imm .bool], f19_v, [fun ps ls qs => ⟨[.imm (.int .i64) (lf qs 0)], [.box (ls.getD 0 0) (.pair (.slice (.pair (.slice (.pair .str (.pair (.slice (.pair (.int .i64) (.pair (.int .i64) .unit))) (.pair .bool .unit)))) (.pair (.int .i64) (.pair .bool (.pair .bool .unit))))) (.pair .map .unit)) (.pair (.own (ls.getD 4130 0) (.pair (.slice (.pair .str (.pair (.slice (.pair (.int .i64) (.pair (.int .i64) .unit))) (.pair .bool .unit)))) (.pair (.int .i64) (.pair .bool (.pair .bool .unit)))) (lf qs 1).isNil (lf qs 1).xs) (.pair (.blk (ls.getD 2 0) (.mt .str (.slice (.int .i64))) (lf qs 2)) (.imm .unit (lf qs 3)))), .imm (.slice (.pair .str (.pair (.slice (.pair (.int .i64) (.pair (.int .i64) .unit))) (.pair .bool .unit)))) (lf ps 3), .imm (.int .i64) (lf ps 4), .imm .bool (lf ps 5)]⟩]⟩
noncomputable def f19_u : List Cu := [.loop 250 f19_k250 f19_o250 f19_s250]
noncomputable def f19_c : Cx := ⟨Try.prog, envOf [f108_e], 57, lOf f19_u, fun _ => false⟩
noncomputable def f19_b : Code := match Try.f19.body with | some b => b | none => .skip
theorem f19_q250 : (Cu.loop 250 f19_k250 f19_o250 f19_s250).Ok f19_c f19_b := ⟨by kernel_rfl, fun ls Kr Kx => by kernel_rfl⟩
theorem f19_x (ps : List P) (ls : List Nat) : execFn f19_c 19 f19_e.tm (explF ps 6 0) ls = (f19_t ps).run fun q => altR (f19_e.res.map fun f => f ps ls) 0 q some := by kernel_rfl
theorem f19_ok : OkEnt Try.prog f19_e := ent_ok (c := f19_c) (g := 19) (body := f19_b) (us := f19_u) (n := 6) (t := f19_t) (good_envOf _ ⟨f108_ok, trivial⟩) Try.func19 rfl Try.call19 rfl ⟨f19_q250, trivial⟩ (by kernel_rfl) f19_x (fun _ => rfl)
/-! ### (*comprador/store.Store).Len -/
noncomputable def f34_t (ps : List P) : Tree (Nat × List P) :=
 .ret (0, [.int .i64 (((lf ps 0).xs).length : Int)])
noncomputable def f34_v (ps : List P) : Option (Nat × List P) := (f34_t ps).run some
noncomputable def f34_e : EntD := ⟨34, [.box (.pair (.slice (.pair (.slice (.pair .str (.pair (.slice (.pair (.int .i64) (.pair (.int .i64) .unit))) (.pair .bool .unit)))) (.pair (.int .i64) (.pair .bool (.pair .bool .unit))))) (.pair .map .unit)) (.pair (.own (.pair (.slice (.pair .str (.pair (.slice (.pair (.int .i64) (.pair (.int .i64) .unit))) (.pair .bool .unit)))) (.pair (.int .i64) (.pair .bool (.pair .bool .unit))))) (.pair (.blk (.mt .str (.slice (.int .i64)))) (.imm .unit)))], f34_v, [fun ps ls qs => ⟨[.imm (.int .i64) (lf qs 0)], [.box (ls.getD 0 0) (.pair (.slice (.pair (.slice (.pair .str (.pair (.slice (.pair (.int .i64) (.pair (.int .i64) .unit))) (.pair .bool .unit)))) (.pair (.int .i64) (.pair .bool (.pair .bool .unit))))) (.pair .map .unit)) (.pair (.own (ls.getD 1 0) (.pair (.slice (.pair .str (.pair (.slice (.pair (.int .i64) (.pair (.int .i64) .unit))) (.pair .bool .unit)))) (.pair (.int .i64) (.pair .bool (.pair .bool .unit)))) (lf ps 0).isNil (lf ps 0).xs) (.pair (.blk (ls.getD 2 0) (.mt .str (.slice (.int .i64))) (lf ps 1)) (.imm .unit (lf ps 2))))]⟩]⟩
noncomputable def f34_u : List Cu := []
noncomputable def f34_c : Cx := ⟨Try.prog, envOf [], 10, lOf f34_u, fun _ => false⟩
noncomputable def f34_b : Code := match Try.f34.body with | some b => b | none => .skip
theorem f34_x (ps : List P) (ls : List Nat) : execFn f34_c 34 f34_e.tm (explF ps 3 0) ls = (f34_t ps).run fun q => altR (f34_e.res.map fun f => f ps ls) 0 q some := by kernel_rfl
theorem f34_ok : OkEnt Try.prog f34_e := ent_ok (c := f34_c) (g := 34) (body := f34_b) (us := f34_u) (n := 3) (t := f34_t) (good_envOf _ trivial) Try.func34 rfl Try.call34 rfl trivial (by kernel_rfl) f34_x (fun _ => rfl)
/-! ### (*comprador/store.Store).Drop -/
noncomputable def f20_t (ps : List P) : Tree (Nat × List P) :=
 .ite (decide ((lf ps 3).toInt < (0 : Int))) (
  .ret (0, [.bool false, .list ((lf ps 0).isNil) ((lf ps 0).xs)])) (
  .loop (f34_v [.list ((lf ps 0).isNil) ((lf ps 0).xs), lf ps 1, lf ps 2]) fun x1 =>
   .ite (Nat.beq x1.1 0) (
    .ite (decide ((lf ps 3).toInt ≥ (lf x1.2 0).toInt)) (
     .ret (0, [.bool false, .list ((lf ps 0).isNil) ((lf ps 0).xs)])) (
     .ite (inb ((lf ps 3).toInt) (((lf ps 0).xs).length)) (
      .ite (!(((((rd ((lf ps 0).xs) (((lf ps 3).toInt).toNat)).snd).snd).fst).toBool)) (
       .ret (0, [.bool false, .list ((lf ps 0).isNil) ((lf ps 0).xs)])) (
       .ite (inb ((lf ps 3).toInt) (((lf ps 0).xs).length)) (
        .ite ((((((rd ((lf ps 0).xs) (((lf ps 3).toInt).toNat)).snd).snd).snd).fst).toBool) (
         .ret (0, [.bool false, .list ((lf ps 0).isNil) ((lf ps 0).xs)])) (
         .ite (inb ((lf ps 3).toInt) (((lf ps 0).xs).length)) (
          .ret (0, [.bool true, .list ((lf ps 0).isNil) (((lf ps 0).xs).set (((lf ps 3).toInt).toNat) (.pair ((rd ((lf ps 0).xs) (((lf ps 3).toInt).toNat)).fst) (.pair (((rd ((lf ps 0).xs) (((lf ps 3).toInt).toNat)).snd).fst) (.pair ((((rd ((lf ps 0).xs) (((lf ps 3).toInt).toNat)).snd).snd).fst) (.pair (.bool true) (((((rd ((lf ps 0).xs) (((lf ps 3).toInt).toNat)).snd).snd).snd).snd))))))])) (
          .fail))) (
        .fail))) (
      .fail))) (
    .fail))
noncomputable def f20_v (ps : List P) : Option (Nat × List P) := (f20_t ps).run some
noncomputable def f20_e : EntD := ⟨20, [.box (.pair (.slice (.pair (.slice (.pair .str (.pair (.slice (.pair (.int .i64) (.pair (.int .i64) .unit))) (.pair .bool .unit)))) (.pair (.int .i64) (.pair .bool (.pair .bool .unit))))) (.pair .map .unit)) (.pair (.own (.pair (.slice (.pair .str (.pair (.slice (.pair (.int .i64) (.pair (.int .i64) .unit))) (.pair .bool .unit)))) (.pair (.int .i64) (.pair .bool (.pair .bool .unit))))) (.pair (.blk (.mt .str (.slice (.int .i64)))) (.imm .unit))), .imm (.int .i64)], f20_v, [fun ps ls qs => ⟨[.imm .bool (lf qs 0)], [.box (ls.getD 0 0) (.pair (.slice (.pair (.slice (.pair .str (.pair (.slice (.pair (.int .i64) (.pair (.int .i64) .unit))) (.pair .bool .unit)))) (.pair (.int .i64) (.pair .bool (.pair .bool .unit))))) (.pair .map .unit)) (.pair (.own (ls.getD 1 0) (.pair (.slice (.pair .str (.pair (.slice (.pair (.int .i64) (.pair (.int .i64) .unit))) (.pair .bool .unit)))) (.pair (.int .i64) (.pair .bool (.pair .bool .unit)))) (lf qs 1).isNil (lf qs 1).xs) (.pair (.blk (ls.getD 2 0) (.mt .str (.slice (.int .i64))) (lf ps 1)) (.imm .unit (lf ps 2)))), .imm (.int .i64) (lf ps 3)]⟩]⟩
noncomputable def f20_u : List Cu := []
noncomputable def f20_c : Cx := ⟨Try.prog, envOf [f34_e], 41, lOf f20_u, fun _ => false⟩
noncomputable def f20_b : Code := match Try.f20.body with | some b => b | none => .skip
theorem f20_x (ps : List P) (ls : List Nat) : execFn f20_c 20 f20_e.tm (explF ps 4 0) ls = (f20_t ps).run fun q => altR (f20_e.res.map fun f => f ps ls) 0 q some := by kernel_rfl
theorem f20_ok : OkEnt Try.prog f20_e := ent_ok (c := f20_c) (g := 20) (body := f20_b) (us := f20_u) (n := 4) (t := f20_t) (good_envOf _ ⟨f34_ok, trivial⟩) Try.func20 rfl Try.call20 rfl trivial (by kernel_rfl) f20_x (fun _ => rfl)
/-! ### (*comprador/store.Store).Live -/
noncomputable def f23_k58 : Sk := { t := [(0, .ref 2001 [] (.pair (.slice (.pair (.slice (.pair .str (.pair (.slice (.pair (.int .i64) (.pair (.int .i64) .unit))) (.pair .bool .unit)))) (.pair (.int .i64) (.pair .bool (.pair .bool .unit))))) (.pair .map .unit))), (3, .slf 5101 (.int .i64)), (6, .imm (.int .i64) .unit), (7, .imm (.int .i64) .unit)], h := [(2001, .obj (.pair (.slice (.pair (.slice (.pair .str (.pair (.slice (.pair (.int .i64) (.pair (.int .i64) .unit))) (.pair .bool .unit)))) (.pair (.int .i64) (.pair .bool (.pair .bool .unit))))) (.pair .map .unit)) (.pair (.slf 2002 (.pair (.slice (.pair .str (.pair (.slice (.pair (.int .i64) (.pair (.int .i64) .unit))) (.pair .bool .unit)))) (.pair (.int .i64) (.pair .bool (.pair .bool .unit))))) (.pair (.blk 2003 (.mt .str (.slice (.int .i64)))) (.imm .unit .unit)))), (5101, .arr (.int .i64) true []), (2002, .arr (.pair (.slice (.pair .str (.pair (.slice (.pair (.int .i64) (.pair (.int .i64) .unit))) (.pair .bool .unit)))) (.pair (.int .i64) (.pair .bool (.pair .bool .unit)))) true []), (2003, .blk (.mt .str (.slice (.int .i64))) .unit)] }
noncomputable def f23_o58 : List (Out × Sk) := [((.exit 0), { t := [(0, .ref 2001 [] (.pair (.slice (.pair (.slice (.pair .str (.pair (.slice (.pair (.int .i64) (.pair (.int .i64) .unit))) (.pair .bool .unit)))) (.pair (.int .i64) (.pair .bool (.pair .bool .unit))))) (.pair .map .unit))), (3, .slf 5131 (.int .i64))], h := [(2001, .obj (.pair (.slice (.pair (.slice (.pair .str (.pair (.slice (.pair (.int .i64) (.pair (.int .i64) .unit))) (.pair .bool .unit)))) (.pair (.int .i64) (.pair .bool (.pair .bool .unit))))) (.pair .map .unit)) (.pair (.slf 2002 (.pair (.slice (.pair .str (.pair (.slice (.pair (.int .i64) (.pair (.int .i64) .unit))) (.pair .bool .unit)))) (.pair (.int .i64) (.pair .bool (.pair .bool .unit))))) (.pair (.blk 2003 (.mt .str (.slice (.int .i64)))) (.imm .unit .unit)))), (5131, .arr (.int .i64) true []), (2002, .arr (.pair (.slice (.pair .str (.pair (.slice (.pair (.int .i64) (.pair (.int .i64) .unit))) (.pair .bool .unit)))) (.pair (.int .i64) (.pair .bool (.pair .bool .unit)))) true []), (2003, .blk (.mt .str (.slice (.int .i64))) .unit)] })]
noncomputable def f23_s58 (ls : List P) : Tree Step :=
 .ite (decide ((lf ls 1).toInt < (lf ls 0).toInt)) (
  .ite (inb ((lf ls 1).toInt) (((lf ls 4).xs).length)) (
   .ite (!((((((rd ((lf ls 4).xs) (((lf ls 1).toInt).toNat)).snd).snd).snd).fst).toBool)) (
    .ite (decide ((((lf ls 3).xs).length + 1) * 8 ≤ 140737488355328)) (
     .ret (.inl [lf ls 0, .int .i64 (IntKind.i64.wrap (((lf ls 1).toInt) + (1 : Int))), lf ls 2, .list (((lf ls 3).isNil) && false) (((lf ls 3).xs) ++ ([lf ls 1] : List P)), .list ((lf ls 4).isNil) ((lf ls 4).xs), lf ls 5])) (
     .fail)) (
    .ret (.inl [lf ls 0, .int .i64 (IntKind.i64.wrap (((lf ls 1).toInt) + (1 : Int))), lf ls 2, .list ((lf ls 3).isNil) ((lf ls 3).xs), .list ((lf ls 4).isNil) ((lf ls 4).xs), lf ls 5]))) (
   .fail)) (
  .ret (.inr (0, [lf ls 2, .list ((lf ls 3).isNil) ((lf ls 3).xs), .list ((lf ls 4).isNil) ((lf ls 4).xs), lf ls 5])))
noncomputable def f23_t (ps : List P) : Tree (Nat × List P) :=
 .loop (f34_v [.list ((lf ps 0).isNil) ((lf ps 0).xs), lf ps 1, lf ps 2]) fun x1 =>
  .ite (Nat.beq x1.1 0) (
   .loop (loopT f23_s58 FUEL [lf x1.2 0, .int .i64 (0 : Int), lf ps 2, .list true [], .list ((lf ps 0).isNil) ((lf ps 0).xs), lf ps 1]) fun y2 =>
    .ite (Nat.beq y2.1 0) (
     .ret (0, [.list ((lf y2.2 1).isNil) ((lf y2.2 1).xs), .list ((lf y2.2 2).isNil) ((lf y2.2 2).xs), lf y2.2 3, lf y2.2 0])) (
     .fail)) (
   .fail)
noncomputable def f23_v (ps : List P) : Option (Nat × List P) := (f23_t ps).run some
noncomputable def f23_e : EntD := ⟨23, [.box (.pair (.slice (.pair (.slice (.pair .str (.pair (.slice (.pair (.int .i64) (.pair (.int .i64) .unit))) (.pair .bool .unit)))) (.pair (.int .i64) (.pair .bool (.pair .bool .unit))))) (.pair .map .unit)) (.pair (.own (.pair (.slice (.pair .str (.pair (.slice (.pair (.int .i64) (.pair (.int .i64) .unit))) (.pair .bool .unit)))) (.pair (.int .i64) (.pair .bool (.pair .bool .unit))))) (.pair (.blk (.mt .str (.slice (.int .i64)))) (.imm .unit)))], f23_v, [fun ps ls qs => ⟨[.own (ls.getD 3130 0) (.int .i64) (lf qs 0).isNil (lf qs 0).xs], [.box (ls.getD 0 0) (.pair (.slice (.pair (.slice (.pair .str (.pair (.slice (.pair (.int .i64) (.pair (.int .i64) .unit))) (.pair .bool .unit)))) (.pair (.int .i64) (.pair .bool (.pair .bool .unit))))) (.pair .map .unit)) (.pair (.own (ls.getD 1 0) (.pair (.slice (.pair .str (.pair (.slice (.pair (.int .i64) (.pair (.int .i64) .unit))) (.pair .bool .unit)))) (.pair (.int .i64) (.pair .bool (.pair .bool .unit)))) (lf qs 1).isNil (lf qs 1).xs) (.pair (.blk (ls.getD 2 0) (.mt .str (.slice (.int .i64))) (lf qs 2)) (.imm .unit (lf qs 3))))]⟩]⟩
noncomputable def f23_u : List Cu := [.loop 58 f23_k58 f23_o58 f23_s58]
noncomputable def f23_c : Cx := ⟨Try.prog, envOf [f34_e], 25, lOf f23_u, fun _ => false⟩
noncomputable def f23_b : Code := match Try.f23.body with | some b => b | none => .skip
theorem f23_q58 : (Cu.loop 58 f23_k58 f23_o58 f23_s58).Ok f23_c f23_b := ⟨by kernel_rfl, fun ls Kr Kx => by kernel_rfl⟩
theorem f23_x (ps : List P) (ls : List Nat) : execFn f23_c 23 f23_e.tm (explF ps 3 0) ls = (f23_t ps).run fun q => altR (f23_e.res.map fun f => f ps ls) 0 q some := by kernel_rfl
theorem f23_ok : OkEnt Try.prog f23_e := ent_ok (c := f23_c) (g := 23) (body := f23_b) (us := f23_u) (n := 3) (t := f23_t) (good_envOf _ ⟨f34_ok, trivial⟩) Try.func23 rfl Try.call23 rfl ⟨f23_q58, trivial⟩ (by kernel_rfl) f23_x (fun _ => rfl)
/-! ### comprador/compradorlaw24.awake -/
noncomputable def f16_t (ps : List P) : Tree (Nat × List P) :=
 .loop (f17_v []) fun x1 =>
  .ite (Nat.beq x1.1 0) (
   .loop (f19_v [.list true [], lf x1.2 0, lf x1.2 1, .list true [], .int .i64 (5 : Int), .bool false]) fun x2 =>
    .ite (Nat.beq x2.1 0) (
     .loop (f19_v [.list ((lf x2.2 1).isNil) ((lf x2.2 1).xs), lf x2.2 2, lf x2.2 3, .list true [], .int .i64 (6 : Int), .bool true]) fun x3 =>
      .ite (Nat.beq x3.1 0) (
       .loop (f20_v [.list ((lf x3.2 1).isNil) ((lf x3.2 1).xs), lf x3.2 2, lf x3.2 3, .int .i64 (0 : Int)]) fun x4 =>
        .ite (Nat.beq x4.1 0) (
         .loop (f20_v [.list ((lf x4.2 1).isNil) ((lf x4.2 1).xs), lf x3.2 2, lf x3.2 3, .int .i64 (1 : Int)]) fun x5 =>
          .ite (Nat.beq x5.1 0) (
           .loop (f23_v [.list ((lf x5.2 1).isNil) ((lf x5.2 1).xs), lf x3.2 2, lf x3.2 3]) fun x6 =>
            .ite (Nat.beq x6.1 0) (
             .ite (((lf x2.2 0).toInt) == (0 : Int)) (
              .ite (((lf x3.2 0).toInt) == (1 : Int)) (
               .ite (!((lf x4.2 0).toBool)) (
                .ite ((lf x5.2 0).toBool) (
                 .ite ((((lf x6.2 0).xs).length : Int) == (1 : Int)) (
                  .ite (inb (0 : Int) (((lf x6.2 0).xs).length)) (
                   .ret (0, [.bool (((rd ((lf x6.2 0).xs) 0).toInt) == (0 : Int))])) (
                   .fail)) (
                  .ret (0, [.bool false]))) (
                 .ret (0, [.bool false]))) (
                .ret (0, [.bool false]))) (
               .ret (0, [.bool false]))) (
              .ret (0, [.bool false]))) (
             .fail)) (
           .fail)) (
         .fail)) (
       .fail)) (
     .fail)) (
   .fail)
noncomputable def f16_v (ps : List P) : Option (Nat × List P) := (f16_t ps).run some
noncomputable def f16_e : EntD := ⟨16, [], f16_v, [fun ps ls qs => ⟨[.imm .bool (lf qs 0)], []⟩]⟩
noncomputable def f16_u : List Cu := []
noncomputable def f16_c : Cx := ⟨Try.prog, envOf [f17_e, f19_e, f20_e, f23_e], 42, lOf f16_u, fun _ => false⟩
noncomputable def f16_b : Code := match Try.f16.body with | some b => b | none => .skip
theorem f16_x (ps : List P) (ls : List Nat) : execFn f16_c 16 f16_e.tm (explF ps 0 0) ls = (f16_t ps).run fun q => altR (f16_e.res.map fun f => f ps ls) 0 q some := by kernel_rfl
theorem f16_ok : OkEnt Try.prog f16_e := ent_ok (c := f16_c) (g := 16) (body := f16_b) (us := f16_u) (n := 0) (t := f16_t) (good_envOf _ ⟨f17_ok, f19_ok, f20_ok, f23_ok, trivial⟩) Try.func16 rfl Try.call16 rfl trivial (by kernel_rfl) f16_x (fun _ => rfl)
/-! ### (comprador/compradorref24.X).Get -/
noncomputable def f33_t (ps : List P) : Tree (Nat × List P) :=
 .ite (decide ((lf ps 1).toInt < (0 : Int))) (
  .ret (0, [.pair (.list true []) (.pair (.int .i64 (0 : Int)) (.pair (.bool false) (.pair (.bool false) .unit))), .bool false])) (
  .ite (decide ((lf ps 1).toInt ≥ ((((lf ps 0).fst).xs).length : Int))) (
   .ret (0, [.pair (.list true []) (.pair (.int .i64 (0 : Int)) (.pair (.bool false) (.pair (.bool false) .unit))), .bool false])) (
   .ite (inb ((lf ps 1).toInt) ((((lf ps 0).fst).xs).length)) (
    .ret (0, [rd (((lf ps 0).fst).xs) (((lf ps 1).toInt).toNat), .bool true])) (
    .fail)))
noncomputable def f33_v (ps : List P) : Option (Nat × List P) := (f33_t ps).run some
noncomputable def f33_e : EntD := ⟨33, [.imm (.pair (.slice (.pair (.slice (.pair .str (.pair (.slice (.pair (.int .i64) (.pair (.int .i64) .unit))) (.pair .bool .unit)))) (.pair (.int .i64) (.pair .bool (.pair .bool .unit))))) .unit), .imm (.int .i64)], f33_v, [fun ps ls qs => ⟨[.imm (.pair (.slice (.pair .str (.pair (.slice (.pair (.int .i64) (.pair (.int .i64) .unit))) (.pair .bool .unit)))) (.pair (.int .i64) (.pair .bool (.pair .bool .unit)))) (lf qs 0), .imm .bool (lf qs 1)], [.imm (.pair (.slice (.pair (.slice (.pair .str (.pair (.slice (.pair (.int .i64) (.pair (.int .i64) .unit))) (.pair .bool .unit)))) (.pair (.int .i64) (.pair .bool (.pair .bool .unit))))) .unit) (lf ps 0), .imm (.int .i64) (lf ps 1)]⟩]⟩
noncomputable def f33_u : List Cu := []
noncomputable def f33_c : Cx := ⟨Try.prog, envOf [], 21, lOf f33_u, fun _ => false⟩
noncomputable def f33_b : Code := match Try.f33.body with | some b => b | none => .skip
theorem f33_x (ps : List P) (ls : List Nat) : execFn f33_c 33 f33_e.tm (explF ps 2 0) ls = (f33_t ps).run fun q => altR (f33_e.res.map fun f => f ps ls) 0 q some := by kernel_rfl
theorem f33_ok : OkEnt Try.prog f33_e := ent_ok (c := f33_c) (g := 33) (body := f33_b) (us := f33_u) (n := 2) (t := f33_t) (good_envOf _ trivial) Try.func33 rfl Try.call33 rfl trivial (by kernel_rfl) f33_x (fun _ => rfl)
/-! ### (*comprador/compradorref24.X).Drop -/
noncomputable def f31_k1 : Sk := { t := [(0, .ref 2001 [] (.pair (.slice (.pair (.slice (.pair .str (.pair (.slice (.pair (.int .i64) (.pair (.int .i64) .unit))) (.pair .bool .unit)))) (.pair (.int .i64) (.pair .bool (.pair .bool .unit))))) .unit)), (1, .imm (.int .i64) .unit)], h := [(2001, .obj (.pair (.slice (.pair (.slice (.pair .str (.pair (.slice (.pair (.int .i64) (.pair (.int .i64) .unit))) (.pair .bool .unit)))) (.pair (.int .i64) (.pair .bool (.pair .bool .unit))))) .unit) (.pair (.slf 2002 (.pair (.slice (.pair .str (.pair (.slice (.pair (.int .i64) (.pair (.int .i64) .unit))) (.pair .bool .unit)))) (.pair (.int .i64) (.pair .bool (.pair .bool .unit))))) (.imm .unit .unit))), (2002, .arr (.pair (.slice (.pair .str (.pair (.slice (.pair (.int .i64) (.pair (.int .i64) .unit))) (.pair .bool .unit)))) (.pair (.int .i64) (.pair .bool (.pair .bool .unit)))) true [])] }
noncomputable def f31_o1 : List (Out × Sk) := [(.ret, { t := [(0, .ref 2001 [] (.pair (.slice (.pair (.slice (.pair .str (.pair (.slice (.pair (.int .i64) (.pair (.int .i64) .unit))) (.pair .bool .unit)))) (.pair (.int .i64) (.pair .bool (.pair .bool .unit))))) .unit)), (4, .imm .bool .unit)], h := [(2001, .obj (.pair (.slice (.pair (.slice (.pair .str (.pair (.slice (.pair (.int .i64) (.pair (.int .i64) .unit))) (.pair .bool .unit)))) (.pair (.int .i64) (.pair .bool (.pair .bool .unit))))) .unit) (.imm (.pair (.slice (.pair (.slice (.pair .str (.pair (.slice (.pair (.int .i64) (.pair (.int .i64) .unit))) (.pair .bool .unit)))) (.pair (.int .i64) (.pair .bool (.pair .bool .unit))))) .unit) .unit))], z := [0] })]
noncomputable def f31_s1 (ls : List P) : Tree (Nat × List P) :=
 .loop (f33_v [.pair (.list ((lf ls 2).isNil) ((lf ls 2).xs)) (lf ls 1), lf ls 0]) fun x1 =>
  .ite (Nat.beq x1.1 0) (
   .ite (!((lf x1.2 1).toBool)) (
    .ret (0, [.bool false, .pair (.list ((lf ls 2).isNil) ((lf ls 2).xs)) (lf ls 1)])) (
    .ite (!(((((lf x1.2 0).snd).snd).fst).toBool)) (
     .ret (0, [.bool false, .pair (.list ((lf ls 2).isNil) ((lf ls 2).xs)) (lf ls 1)])) (
     .ite ((((((lf x1.2 0).snd).snd).snd).fst).toBool) (
      .ret (0, [.bool false, .pair (.list ((lf ls 2).isNil) ((lf ls 2).xs)) (lf ls 1)])) (
      .ite (decide ((0 + ((lf ls 2).xs).length) * 40 ≤ 140737488355328)) (
       .ite (inb ((lf ls 0).toInt) (((lf ls 2).xs).length)) (
        .ret (0, [.bool true, .pair (.list (((lf ls 2).xs).isEmpty) (((lf ls 2).xs).set (((lf ls 0).toInt).toNat) (.pair ((lf x1.2 0).fst) (.pair (((lf x1.2 0).snd).fst) (.pair ((((lf x1.2 0).snd).snd).fst) (.pair (.bool true) (((((lf x1.2 0).snd).snd).snd).snd))))))) (lf ls 1)])) (
        .fail)) (
       .fail))))) (
   .fail)
noncomputable def f31_t (ps : List P) : Tree (Nat × List P) :=
 .loop ((f31_s1 [lf ps 2, lf ps 1, .list ((lf ps 0).isNil) ((lf ps 0).xs)]).run some) fun y2 =>
  .ite (Nat.beq y2.1 0) (
   .ret (0, [lf y2.2 0, lf y2.2 1])) (
   .fail)
noncomputable def f31_v (ps : List P) : Option (Nat × List P) := (f31_t ps).run some
noncomputable def f31_e : EntD := ⟨31, [.box (.pair (.slice (.pair (.slice (.pair .str (.pair (.slice (.pair (.int .i64) (.pair (.int .i64) .unit))) (.pair .bool .unit)))) (.pair (.int .i64) (.pair .bool (.pair .bool .unit))))) .unit) (.pair (.own (.pair (.slice (.pair .str (.pair (.slice (.pair (.int .i64) (.pair (.int .i64) .unit))) (.pair .bool .unit)))) (.pair (.int .i64) (.pair .bool (.pair .bool .unit))))) (.imm .unit)), .imm (.int .i64)], f31_v, [fun ps ls qs => ⟨[.imm .bool (lf qs 0)], [.box (ls.getD 0 0) (.pair (.slice (.pair (.slice (.pair .str (.pair (.slice (.pair (.int .i64) (.pair (.int .i64) .unit))) (.pair .bool .unit)))) (.pair (.int .i64) (.pair .bool (.pair .bool .unit))))) .unit) (.imm (.pair (.slice (.pair (.slice (.pair .str (.pair (.slice (.pair (.int .i64) (.pair (.int .i64) .unit))) (.pair .bool .unit)))) (.pair (.int .i64) (.pair .bool (.pair .bool .unit))))) .unit) (lf qs 1)), .imm (.int .i64) (lf ps 2)]⟩]⟩
noncomputable def f31_u : List Cu := [.cut 1 f31_k1 f31_o1 f31_s1]
noncomputable def f31_c : Cx := ⟨Try.prog, envOf [f33_e], 42, lOf f31_u, fun _ => false⟩
noncomputable def f31_b : Code := match Try.f31.body with | some b => b | none => .skip
theorem f31_q1 : (Cu.cut 1 f31_k1 f31_o1 f31_s1).Ok f31_c f31_b := ⟨by kernel_rfl, fun ls Kx => by kernel_rfl⟩
theorem f31_x (ps : List P) (ls : List Nat) : execFn f31_c 31 f31_e.tm (explF ps 3 0) ls = (f31_t ps).run fun q => altR (f31_e.res.map fun f => f ps ls) 0 q some := by kernel_rfl
theorem f31_ok : OkEnt Try.prog f31_e := ent_ok (c := f31_c) (g := 31) (body := f31_b) (us := f31_u) (n := 3) (t := f31_t) (good_envOf _ ⟨f33_ok, trivial⟩) Try.func31 rfl Try.call31 rfl ⟨f31_q1, trivial⟩ (by kernel_rfl) f31_x (fun _ => rfl)
/-! ### (*comprador/compradorref24.X).Drop -/
noncomputable def f31_1_k1 : Sk := { t := [(0, .ref 2001 [] (.pair (.slice (.pair (.slice (.pair .str (.pair (.slice (.pair (.int .i64) (.pair (.int .i64) .unit))) (.pair .bool .unit)))) (.pair (.int .i64) (.pair .bool (.pair .bool .unit))))) .unit)), (1, .imm (.int .i64) .unit)], h := [(2001, .obj (.pair (.slice (.pair (.slice (.pair .str (.pair (.slice (.pair (.int .i64) (.pair (.int .i64) .unit))) (.pair .bool .unit)))) (.pair (.int .i64) (.pair .bool (.pair .bool .unit))))) .unit) (.imm (.pair (.slice (.pair (.slice (.pair .str (.pair (.slice (.pair (.int .i64) (.pair (.int .i64) .unit))) (.pair .bool .unit)))) (.pair (.int .i64) (.pair .bool (.pair .bool .unit))))) .unit) .unit))] }
noncomputable def f31_1_o1 : List (Out × Sk) := [(.ret, { t := [(0, .ref 2001 [] (.pair (.slice (.pair (.slice (.pair .str (.pair (.slice (.pair (.int .i64) (.pair (.int .i64) .unit))) (.pair .bool .unit)))) (.pair (.int .i64) (.pair .bool (.pair .bool .unit))))) .unit)), (4, .imm .bool .unit)], h := [(2001, .obj (.pair (.slice (.pair (.slice (.pair .str (.pair (.slice (.pair (.int .i64) (.pair (.int .i64) .unit))) (.pair .bool .unit)))) (.pair (.int .i64) (.pair .bool (.pair .bool .unit))))) .unit) (.imm (.pair (.slice (.pair (.slice (.pair .str (.pair (.slice (.pair (.int .i64) (.pair (.int .i64) .unit))) (.pair .bool .unit)))) (.pair (.int .i64) (.pair .bool (.pair .bool .unit))))) .unit) .unit))], z := [0] })]
noncomputable def f31_1_s1 (ls : List P) : Tree (Nat × List P) :=
 .loop (f33_v [lf ls 1, lf ls 0]) fun x1 =>
  .ite (Nat.beq x1.1 0) (
   .ite (!((lf x1.2 1).toBool)) (
    .ret (0, [.bool false, lf ls 1])) (
    .ite (!(((((lf x1.2 0).snd).snd).fst).toBool)) (
     .ret (0, [.bool false, lf ls 1])) (
     .ite ((((((lf x1.2 0).snd).snd).snd).fst).toBool) (
      .ret (0, [.bool false, lf ls 1])) (
      .ite (decide ((0 + (((lf ls 1).fst).xs).length) * 40 ≤ 140737488355328)) (
       .ite (inb ((lf ls 0).toInt) ((((lf ls 1).fst).xs).length)) (
        .ret (0, [.bool true, .pair (.list ((((lf ls 1).fst).xs).isEmpty) ((((lf ls 1).fst).xs).set (((lf ls 0).toInt).toNat) (.pair ((lf x1.2 0).fst) (.pair (((lf x1.2 0).snd).fst) (.pair ((((lf x1.2 0).snd).snd).fst) (.pair (.bool true) (((((lf x1.2 0).snd).snd).snd).snd))))))) ((lf ls 1).snd)])) (
        .fail)) (
       .fail))))) (
   .fail)
noncomputable def f31_1_t (ps : List P) : Tree (Nat × List P) :=
 .loop ((f31_1_s1 [lf ps 1, lf ps 0]).run some) fun y2 =>
  .ite (Nat.beq y2.1 0) (
   .ret (0, [lf y2.2 0, lf y2.2 1])) (
   .fail)
noncomputable def f31_1_v (ps : List P) : Option (Nat × List P) := (f31_1_t ps).run some
noncomputable def f31_1_e : EntD := ⟨31, [.box (.pair (.slice (.pair (.slice (.pair .str (.pair (.slice (.pair (.int .i64) (.pair (.int .i64) .unit))) (.pair .bool .unit)))) (.pair (.int .i64) (.pair .bool (.pair .bool .unit))))) .unit) (.imm (.pair (.slice (.pair (.slice (.pair .str (.pair (.slice (.pair (.int .i64) (.pair (.int .i64) .unit))) (.pair .bool .unit)))) (.pair (.int .i64) (.pair .bool (.pair .bool .unit))))) .unit)), .imm (.int .i64)], f31_1_v, [fun ps ls qs => ⟨[.imm .bool (lf qs 0)], [.box (ls.getD 0 0) (.pair (.slice (.pair (.slice (.pair .str (.pair (.slice (.pair (.int .i64) (.pair (.int .i64) .unit))) (.pair .bool .unit)))) (.pair (.int .i64) (.pair .bool (.pair .bool .unit))))) .unit) (.imm (.pair (.slice (.pair (.slice (.pair .str (.pair (.slice (.pair (.int .i64) (.pair (.int .i64) .unit))) (.pair .bool .unit)))) (.pair (.int .i64) (.pair .bool (.pair .bool .unit))))) .unit) (lf qs 1)), .imm (.int .i64) (lf ps 1)]⟩]⟩
noncomputable def f31_1_u : List Cu := [.cut 1 f31_1_k1 f31_1_o1 f31_1_s1]
noncomputable def f31_1_c : Cx := ⟨Try.prog, envOf [f33_e], 42, lOf f31_1_u, fun _ => false⟩
noncomputable def f31_1_b : Code := match Try.f31.body with | some b => b | none => .skip
theorem f31_1_q1 : (Cu.cut 1 f31_1_k1 f31_1_o1 f31_1_s1).Ok f31_1_c f31_1_b := ⟨by kernel_rfl, fun ls Kx => by kernel_rfl⟩
theorem f31_1_x (ps : List P) (ls : List Nat) : execFn f31_1_c 31 f31_1_e.tm (explF ps 2 0) ls = (f31_1_t ps).run fun q => altR (f31_1_e.res.map fun f => f ps ls) 0 q some := by kernel_rfl
theorem f31_1_ok : OkEnt Try.prog f31_1_e := ent_ok (c := f31_1_c) (g := 31) (body := f31_1_b) (us := f31_1_u) (n := 2) (t := f31_1_t) (good_envOf _ ⟨f33_ok, trivial⟩) Try.func31 rfl Try.call31 rfl ⟨f31_1_q1, trivial⟩ (by kernel_rfl) f31_1_x (fun _ => rfl)
end Go.Proofs.Ytjemihhhkhdbeaa
