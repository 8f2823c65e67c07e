/- What came in, opened by its type: whatever a kind of the printed words tells (numbers, texts, structs, slices of these, one in the other). No function of the program occurs. -/
import Derived.Test.YthjljkdiglpbaaaDoorWWords
import Derived.Deep.Slices
import Derived.ChangeArms
import Derived.WideShapes
import Derived.DataReads
namespace Go.Proofs.YthjljkdiglpbaaaDoor.Open
open Go Go.ChangeShapes Go.WideShapes Go.Deep Go.Proofs.YthjljkdiglpbaaaDoorW.PrintWords
set_option linter.unusedVariables false
set_option linter.unusedSimpArgs false

structure Opens {α : Type} (P : Program) (d : Kd α) (t : TypeId) (Wf : α → Prop) : Prop where
  sz : P.cellsOf t = d.sz
  go : ∀ {H : Type} {enc : TypeId × Value → H} {w : World} {base : Nat} {spare : Nat → Bool} {held : Bool} {fuel : Nat} {cs : List Value} {x : DataW H × List MemPlace},
    DataW.trod enc P w base spare held fuel t cs = some x → ∃ a, d.K w a cs ∧ Wf a
theorem int {P : Program} {k : IntKind} {t : TypeId} (ht : P.underlying t = some (.int k)) (hs : P.cellsOf t = 1) : Opens P (Kd.int k) t (fun n => (Lit.int k n).wf = true) :=
  ⟨hs, fun h => by
    obtain ⟨n, rfl, _, hw⟩ := DataW.trod_int ht h
    exact ⟨n, rfl, hw⟩⟩
theorem bool {P : Program} {t : TypeId} (ht : P.underlying t = some .bool) (hs : P.cellsOf t = 1) : Opens P Kd.bool t (fun _ => True) :=
  ⟨hs, fun h => by
    obtain ⟨n, rfl, _⟩ := DataW.trod_bool ht h
    exact ⟨n, rfl, trivial⟩⟩
theorem string {P : Program} {t : TypeId} (ht : P.underlying t = some .string) (hs : P.cellsOf t = 1) : Opens P Kd.string t (fun s => s.size ≤ 9223372036854775807) :=
  ⟨hs, fun h => by
    obtain ⟨n, rfl, _, hw⟩ := DataW.trod_string ht h
    exact ⟨n, rfl, hw⟩⟩
/-- A list of choices, one an index. -/
theorem choices {α : Type} (n : Nat) (p : Nat → α → Prop) (h : ∀ i, i < n → ∃ a, p i a) : ∃ l : List α, l.length = n ∧ ∀ i a, l[i]? = some a → p i a := by
  induction n with
  | zero => exact ⟨[], rfl, fun i a hi => by simp at hi⟩
  | succ n ih =>
    obtain ⟨l, hl, hp⟩ := ih (fun i hi => h i (by omega))
    obtain ⟨a, ha⟩ := h n (by omega)
    refine ⟨l ++ [a], by simp [hl], fun i b hi => ?_⟩
    rw [List.getElem?_append] at hi
    split at hi
    · exact hp i b hi
    · rename_i hlt
      have : i = n := by
        have := (List.getElem?_eq_some_iff.1 hi).1
        simp at this; omega
      subst this
      rw [hl, Nat.sub_self] at hi
      cases hi
      exact ha
theorem row {α : Type} {P : Program} {d : Kd α} {t e : TypeId} {Wf : α → Prop} (ht : P.underlying t = some (.slice e)) (o : Opens P d e Wf)
    {H : Type} {enc : TypeId × Value → H} {w : World} {base : Nat} {spare : Nat → Bool} {held : Bool} {fuel : Nat} {cs : List Value} {x : DataW H × List MemPlace} (h : DataW.trod enc P w base spare held fuel t cs = some x) :
    ∃ (A : Option Addr) (c : Nat) (l : List α), cs = [.slice A l.length c] ∧ l.length ≤ c ∧ l.length ≤ 9223372036854775807 ∧ Kd.C d w A l.length l ∧ ∀ a ∈ l, Wf a := by
  rcases open_slice ht h with ⟨rfl, _⟩ | ⟨a, len, cap, m, n, D, Pl, rfl, _, hl, hm, hmm, _, hi⟩
  · exact ⟨none, 0, [], rfl, Nat.le_refl _, by simp, ⟨rfl, by simp, fun h => absurd h (by simp)⟩, by simp⟩
  · have hlm : len ≤ m := by rw [hmm]; split <;> omega
    have hm' : cap ≤ 9223372036854775807 := hm
    obtain ⟨l, hll, hp⟩ := choices len (fun i (b : α) => (∃ c, c.length = d.sz ∧ d.K w b c ∧ ∀ j u, c[j]? = some u → w.cell? (a.add (i * d.sz + j)) = some u) ∧ Wf b) (fun i hil => by
      obtain ⟨cs', hc, ht'⟩ := hi i (by omega)
      obtain ⟨b, hK, hW⟩ := o.go ht'
      rw [o.sz] at hc
      obtain ⟨_, hcl, hat⟩ := World.cells?_some hc
      refine ⟨b, ⟨cs', hcl, hK, fun j u hj => ?_⟩, hW⟩
      have hjl : j < d.sz := by rw [← hcl]; exact (List.getElem?_eq_some_iff.1 hj).1
      rw [← Go.Deep.add_add, hat j hjl, hj])
    refine ⟨some a, cap, l, by rw [hll], by omega, by omega, ⟨rfl, by omega, fun _ => ⟨a, rfl, fun j p hj => (hp j p hj).1⟩⟩, fun b hb => ?_⟩
    obtain ⟨i, hi'⟩ := List.getElem?_of_mem hb
    exact (hp i b hi').2
theorem slice {α : Type} {P : Program} {d : Kd α} {t e : TypeId} {Wf : α → Prop} (ht : P.underlying t = some (.slice e)) (hs : P.cellsOf t = 1) (o : Opens P d e Wf) : Opens P (Kd.slice e d) t (fun l => l.length ≤ 9223372036854775807 ∧ ∀ a ∈ l, Wf a) :=
  ⟨hs, fun h => by
    obtain ⟨A, c, l, rfl, hl, hm, hC, hW⟩ := row ht o h
    exact ⟨l, ⟨A, c, rfl, hl, hC⟩, hm, hW⟩⟩
/-- A part of a struct's fields, that begins at a cell. -/
def Part {α : Type} (P : Program) (d : Kd α) (off : Nat) (fs : List Field) (Wf : α → Prop) : Prop :=
  ∀ {H : Type} {enc : TypeId × Value → H} {w : World} {base : Nat} {spare : Nat → Bool} {held : Bool} {n : Nat} {cs : List Value},
    (∀ f ∈ fs, ∃ y, DataW.trod enc P w base spare held n f.type ((cs.drop f.offset).take (P.cellsOf f.type)) = some y) → ∃ a, d.K w a ((cs.drop off).take d.sz) ∧ Wf a
theorem part_one {α : Type} {P : Program} {d : Kd α} {off : Nat} {f : Field} {Wf : α → Prop} (o : Opens P d f.type Wf) (ho : f.offset = off) : Part P d off [f] Wf := by
  intro H enc w base spare held n cs h
  obtain ⟨y, hy⟩ := h f (by simp)
  rw [ho, o.sz] at hy
  exact o.go hy
theorem part_pair {α β : Type} {P : Program} {a : Kd α} {b : Kd β} {off : Nat} {fs gs : List Field} {Wa : α → Prop} {Wb : β → Prop} (ha : Part P a off fs Wa) (hb : Part P b (off + a.sz) gs Wb) :
    Part P (Kd.pair a b) off (fs ++ gs) (fun x => Wa x.1 ∧ Wb x.2) := by
  intro H enc w base spare held n cs h
  obtain ⟨x, hx, wx⟩ := ha (fun f hf => h f (List.mem_append_left _ hf))
  obtain ⟨y, hy, wy⟩ := hb (fun f hf => h f (List.mem_append_right _ hf))
  refine ⟨(x, y), ⟨_, _, ?_, hx, hy⟩, wx, wy⟩
  show (cs.drop off).take (a.sz + b.sz) = _
  rw [List.take_add, List.drop_drop]
theorem struct {α : Type} {P : Program} {d : Kd α} {t : TypeId} {fs : Array Field} {Wf : α → Prop} (ht : P.underlying t = some (.struct fs)) (hs : P.cellsOf t = d.sz) (p : Part P d 0 fs.toList Wf) : Opens P d t Wf :=
  ⟨hs, fun {H enc w base spare held fuel cs x} h => by
    obtain ⟨xs, n, _, _, hlen, hxl, hf⟩ := DataW.trod_struct ht h
    obtain ⟨a, hK, hW⟩ := p (enc := enc) (w := w) (base := base) (spare := spare) (held := held) (n := n) (cs := cs) (fun f hm => by
      obtain ⟨i, hi⟩ := List.getElem?_of_mem hm
      have hi' : fs[i]? = some f := by rw [← Array.getElem?_toList]; exact hi
      have hil : i < xs.length := by rw [hxl]; exact (Array.getElem?_eq_some_iff.1 hi').1
      exact ⟨xs[i], by rw [hf i f hi', List.getElem?_eq_getElem hil]⟩)
    rw [List.drop_zero, List.take_of_length_le (by omega)] at hK
    exact ⟨a, hK, hW⟩⟩
theorem iso {α β : Type} {P : Program} {d : Kd α} {t : TypeId} {Wf : α → Prop} (o : Opens P d t Wf) (f : β → α) (g : α → β) (h : ∀ x, f (g x) = x) : Opens P (Kd.iso d f) t (fun b => Wf (f b)) :=
  ⟨o.sz, fun h' => by
    obtain ⟨a, hK, hW⟩ := o.go h'
    refine ⟨g a, ?_, by rw [h]; exact hW⟩
    show d.K _ (f (g a)) _
    rw [h]; exact hK⟩
end Go.Proofs.YthjljkdiglpbaaaDoor.Open
