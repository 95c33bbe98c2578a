/- Arguments, read as data, are lists and records of plain values: one way for all kinds. Conditions: none; what is read is what the row's own reading gives. -/
import Derived.Test.YtjemihhhkhdbeaaWNEv
import Derived.Test.YtjemihhhkhdbeaaWMore
import Derived.Deep.Slices
import Derived.Deep.Fields
import Derived.ChangeSame
import Derived.ProofKit
import Derived.OpenShut
import Derived.SizedLaws
namespace Go.Proofs.YtjemihhhkhdbeaaOpn
open Go.RowKit Go.ChangeShapes Go.WideShapes Go.Deep
open Go.Proofs.YtjemihhhkhdbeaaW.PrintWords
/-- A number that is of its kind. -/
def InK (k : IntKind) (n : Int) : Prop := (Lit.int k n).wf = true
theorem InK.i64 {n : Int} (h : InK .i64 n) : -9223372036854775808 ≤ n ∧ n ≤ 9223372036854775807 := by
  unfold InK at h
  simp [Lit.wf, IntKind.min, IntKind.max, IntKind.bits, IntKind.signed] at h
  omega
theorem InK.u8 {n : Int} (h : InK .u8 n) : 0 ≤ n ∧ n ≤ 255 := by
  unfold InK at h
  simp [Lit.wf, IntKind.min, IntKind.max, IntKind.bits, IntKind.signed] at h
  omega
/-- What can be read at type t reads as a plain value of the kind d, for which G holds. -/
structure Opn {α : Type} (P : Program) (t : TypeId) (d : Kd α) (G : α → Prop) : Prop where
  cells : P.cellsOf t = d.sz
  open_ : ∀ {H : Type} {enc : TypeId × Value → H} {w : World} {base : Nat} {spare : Nat → Bool} {held : Bool} {fuel : Nat} {cs : List Value} {x : DataW H × List MemPlace}, DataW.trod enc P w base spare held fuel t cs = some x → ∃ a : α, d.K w a cs ∧ G a
variable {P : Program}
theorem opn_int {t : TypeId} {k : IntKind} (hu : P.underlying t = some (.int k)) (hc : P.cellsOf t = 1) : Opn P t (Kd.int k) (InK k) where
  cells := hc
  open_ h := by
    obtain ⟨n, rfl, _, hw⟩ := DataW.trod_int hu h
    exact ⟨n, rfl, hw⟩
theorem opn_bool {t : TypeId} (hu : P.underlying t = some .bool) (hc : P.cellsOf t = 1) : Opn P t Kd.bool (fun _ => True) where
  cells := hc
  open_ h := by
    obtain ⟨n, rfl, _⟩ := DataW.trod_bool hu h
    exact ⟨n, rfl, trivial⟩
theorem opn_string {t : TypeId} (hu : P.underlying t = some .string) (hc : P.cellsOf t = 1) : Opn P t Kd.string (fun s => s.size ≤ maxLen) where
  cells := hc
  open_ h := by
    obtain ⟨n, rfl, _, hw⟩ := DataW.trod_string hu h
    exact ⟨n, rfl, hw⟩
def All {α : Type} (G : α → Prop) (l : List α) : Prop := l.length ≤ 9223372036854775807 ∧ ∀ x, x ∈ l → G x
theorem choose_list {α : Type} (R : Nat → α → Prop) : ∀ n : Nat, (∀ i, i < n → ∃ a, R i a) → ∃ l : List α, l.length = n ∧ ∀ i a, l[i]? = some a → R i a
  | 0, _ => ⟨[], rfl, fun i a h => by simp at h⟩
  | n + 1, h => by
    obtain ⟨l, hl, hr⟩ := choose_list R n fun i hi => h i (by omega)
    obtain ⟨a, ha⟩ := h n (by omega)
    refine ⟨l ++ [a], by simp [hl], fun i b hb => ?_⟩
    rcases Nat.lt_or_ge i l.length with hi | hi
    · rw [List.getElem?_append_left hi] at hb
      exact hr i b hb
    · rw [List.getElem?_append_right hi] at hb
      have : i = n := by
        rcases Nat.lt_or_ge (i - l.length) 1 with h1 | h1
        · omega
        · rw [List.getElem?_eq_none (by simpa using h1)] at hb; cases hb
      subst this
      rw [← hl, Nat.sub_self] at hb
      obtain rfl : a = b := by simpa using hb
      exact ha
theorem opn_slice {α : Type} {t e : TypeId} {d : Kd α} {G : α → Prop} (hu : P.underlying t = some (.slice e)) (hc : P.cellsOf t = 1) (o : Opn P e d G) : Opn P t (Kd.slice e d) (All G) where
  cells := hc
  open_ {H enc w base spare held fuel cs x} h := by
    rcases open_slice hu h with ⟨rfl, _⟩ | ⟨a, len, cap, m, n, D, Pl, rfl, _, hl, hm, hmm, _, hi⟩
    · exact ⟨[], ⟨none, 0, rfl, Nat.le_refl _, rfl, by simp, fun h => absurd h (by simp)⟩, by simp, by simp⟩
    · have hlm : len ≤ m := by rw [hmm]; split <;> omega
      obtain ⟨l, hll, hr⟩ := choose_list (fun i b => G b ∧ ∃ c, c.length = d.sz ∧ d.K w b c ∧ ∀ j u, c[j]? = some u → w.cell? (a.add (i * d.sz + j)) = some u) len fun i hil => by
        obtain ⟨cs', hcs, ht⟩ := hi i (by omega)
        obtain ⟨b, hb, hg⟩ := o.open_ ht
        obtain ⟨_, hcl, hat⟩ := World.cells?_some hcs
        rw [o.cells] at hcl hat
        refine ⟨b, hg, cs', hcl, hb, fun j u hj => ?_⟩
        have hjl : j < d.sz := by rw [← hcl]; exact (List.getElem?_eq_some_iff.1 hj).1
        rw [← Go.Deep.add_add, hat j hjl, hj]
      have hcap : len ≤ 9223372036854775807 := by unfold maxLen at hm; omega
      refine ⟨l, ⟨some a, cap, by rw [hll], by omega, rfl, by omega, fun _ => ⟨a, rfl, fun j p hp => (hr j p hp).2⟩⟩, by omega, fun y hy => ?_⟩
      obtain ⟨j, hj⟩ := List.getElem?_of_mem hy
      exact (hr j y hj).1
/-- The fields of a record, from the place 'off' on. -/
structure Flds {α : Type} (P : Program) (d : Kd α) (G : α → Prop) (fs : List Field) (off : Nat) : Prop where
  out : ∀ {H : Type} {enc : TypeId × Value → H} {w : World} {base : Nat} {spare : Nat → Bool} {held : Bool} {cs : List Value}, cs.length = off + d.sz →
    (∀ f, f ∈ fs → ∃ n y, DataW.trod enc P w base spare held n f.type ((cs.drop f.offset).take (P.cellsOf f.type)) = some y) → ∃ a : α, d.K w a (cs.drop off) ∧ G a
theorem flds_last {α : Type} {d : Kd α} {G : α → Prop} {f : Field} {off : Nat} (ho : f.offset = off) (o : Opn P f.type d G) : Flds P d G [f] off := by
  refine ⟨?_⟩
  intro H enc w base spare held cs hl h
  obtain ⟨n, y, hy⟩ := h f (by simp)
  obtain ⟨a, ha, hg⟩ := o.open_ hy
  rw [ho, o.cells, List.take_of_length_le (by simp; omega)] at ha
  exact ⟨a, ha, hg⟩
theorem flds_pair {α β : Type} {d : Kd α} {G : α → Prop} {d2 : Kd β} {G2 : β → Prop} {f : Field} {fs : List Field} {off : Nat} (ho : f.offset = off) (o : Opn P f.type d G) (r : Flds P d2 G2 fs (off + d.sz)) : Flds P (Kd.pair d d2) (fun p => G p.1 ∧ G2 p.2) (f :: fs) off := by
  refine ⟨?_⟩
  intro H enc w base spare held cs hl h
  have hl' : cs.length = off + (d.sz + d2.sz) := hl
  obtain ⟨n, y, hy⟩ := h f (by simp)
  obtain ⟨a, ha, hg⟩ := o.open_ hy
  rw [ho, o.cells] at ha
  obtain ⟨b, hb, hg2⟩ := r.out (enc := enc) (w := w) (base := base) (spare := spare) (held := held) (cs := cs) (by omega) fun f' hf => h f' (List.mem_cons_of_mem _ hf)
  refine ⟨(a, b), ⟨(cs.drop off).take d.sz, cs.drop (off + d.sz), ?_, ha, hb⟩, hg, hg2⟩
  rw [← List.drop_drop, List.take_append_drop]
theorem opn_struct {α β : Type} {t : TypeId} {fs : Array Field} {d : Kd α} {G : α → Prop} {dd : Kd β} {G' : β → Prop} (hu : P.underlying t = some (.struct fs)) (f : β → α) (g : α → β) (hfg : ∀ a, f (g a) = a) (hdd : dd = Kd.iso d f) (hc : P.cellsOf t = d.sz) (r : Flds P d G fs.toList 0) (hG : ∀ a, G a → G' (g a)) :
    Opn P t dd G' where
  cells := by rw [hdd]; exact hc
  open_ {H enc w base spare held fuel cs x} h := by
    subst hdd
    obtain ⟨xs, n, _, _, hl, hlen, hf⟩ := DataW.trod_struct hu h
    obtain ⟨a, ha, hg⟩ := r.out (enc := enc) (w := w) (base := base) (spare := spare) (held := held) (cs := cs) (by rw [hl, hc]; omega) fun f' hf' => by
      obtain ⟨i, hi⟩ := List.getElem?_of_mem hf'
      have hi' : fs[i]? = some f' := by simpa using hi
      have hlt : i < fs.size := (Array.getElem?_eq_some_iff.1 hi').1
      exact ⟨n, _, (hf i f' hi').trans (List.getElem?_eq_getElem (by omega))⟩
    refine ⟨g a, ?_, hG a hg⟩
    show d.K w (f (g a)) cs
    rw [hfg]; exact ha
/-- An argument that is a slice. -/
theorem arg_slice {α : Type} {t e : TypeId} {d : Kd α} {G : α → Prop} (o : Opn P t (Kd.slice e d) (All G)) {H : Type} {enc : TypeId × Value → H} {w : World} {base : Nat} {spare : Nat → Bool} {held : Bool} {a : Option Addr} {len cap : Nat} {x : DataW H} {p : List MemPlace}
    (h : DataW.Trod enc P w base spare held t (.slice a len cap) x p) : ∃ l : List α, len = l.length ∧ l.length ≤ cap ∧ d.C w a l.length l ∧ All G l := by
  obtain ⟨fuel, hf⟩ := h
  obtain ⟨l, ⟨A, c, he, hl, hC⟩, hg⟩ := o.open_ hf
  have he' : [Value.slice a len cap] = [.slice A l.length c] := he
  injection he' with he' _
  injection he' with h1 h2 h3
  subst h1; subst h2; subst h3
  exact ⟨l, rfl, hl, hC, hg⟩
end Go.Proofs.YtjemihhhkhdbeaaOpn
