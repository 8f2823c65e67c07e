import Derived.Test.YtjidenkhgeoaiaaGreatDoorCF6
import Derived.Deep.Slices
import Derived.ChangeArms
import Derived.WideShapes
import Derived.DataReads
import Derived.Test.YtjidenkhgeoaiaaGreatDoorRows
import Derived.Test.YtjidenkhgeoaiaaGreatDoorCards
import Derived.Test.YtjidenkhgeoaiaaGreatDoorTie
import Derived.ProofKit
import Derived.OpenShut
import Derived.ShutString
import Derived.ChangeOld
import Derived.SizedLaws
import Derived.LaidMore
import Derived.Lay
import Derived.SevenTiedAt
import Derived.Stop.Joined
/- Plain facts: the member of a header, records and bytes, told by both. -/
namespace Go.Proofs.YtjidenkhgeoaiaaGreatDoor.Q8
open Go.RowKit Go.Proofs.YtjidenkhgeoaiaaGreatDoor.P Go.Proofs.YtjidenkhgeoaiaaGreatDoorW.PrintWords Go.Proofs.YtjidenkhgeoaiaaGreatDoorW.PrintLast Go.Proofs.YtjidenkhgeoaiaaGreatDoorW.PrintMore Go.Proofs.YtjidenkhgeoaiaaGreatDoor.Hand Go.Proofs.YtjidenkhgeoaiaaGreatDoor.Q5
set_option linter.unusedVariables false
set_option linter.unusedSimpArgs false
theorem ref_j1 (k : Nat) (d : List Int) (p : ByteArray) (kd m u g t : Int) (q : ByteArray) (hp : p.size ≤ 140737488351232) (hq : q.size ≤ 1000) (hk : 2503 ≤ k) (h0 : ¬ kd = 0) : thwartref08_From.j1 (k + 3) d p kd m u g t q = some (fromOf p kd m u g t q d) := by
  have hz : (⟨#[]⟩ : ByteArray).size ≤ 1000 := Nat.zero_le _
  rw [thwartref08_From.j1]
  unfold fromOf
  rw [if_neg h0]
  have jT : ∀ b, thwartref08_From.j2 (k + 2) d true p kd m u g t b = thwartref08_From.j3 (k + 1) d p kd m u g t (⟨#[]⟩ : ByteArray) := by intro b; rw [thwartref08_From.j2, if_pos rfl]
  by_cases h1 : kd = 1
  · rw [if_pos h1, if_pos h1, jT, thwartref08_From.j3, if_pos h1, may_ref _ _ _ _ _ _ _ _ hp hz k hk, Option.bind_some, cut8_is]
  rw [if_neg h1, if_neg h1]
  by_cases h4 : kd = 4
  · rw [if_pos h4, show (kd == 4) = true from by simpa using h4, jT, thwartref08_From.j3, if_neg h1, may_ref _ _ _ _ _ _ _ _ hp hz k hk, Option.bind_some, cut8_is]; rfl
  · rw [if_neg h4, show (kd == 4) = false from by simpa using h4, thwartref08_From.j2, if_neg (by decide), thwartref08_From.j3, if_neg h1, may_ref _ _ _ _ _ _ _ _ hp hq k hk, Option.bind_some, cut8_is]; rfl
theorem join8 (a b : ByteArray) (ha : a.size ≤ 600) (hb : b.size ≤ 600) : ∃ P, strf_Join.f a b = some P ∧ thwartref02_Join.f a b = some P ∧ P.size ≤ 1300 := by
  have h1 : (⟨#[47]⟩ : ByteArray).size = 1 := rfl
  by_cases c : a.toList = ([] : List UInt8)
  · exact ⟨b, by rw [strf_Join.f, if_pos c], by rw [thwartref02_Join.f, if_pos c], by omega⟩
  · have h2 : (a ++ (⟨#[47]⟩ : ByteArray)).size + b.size ≤ 9223372036854775807 := by rw [ByteArray.size_append, h1]; omega
    exact ⟨_, by rw [strf_Join.f, if_neg c, if_pos (by omega), if_pos h2], by rw [thwartref02_Join.f, if_neg c, if_pos (by omega), if_pos h2], by rw [ByteArray.size_append, ByteArray.size_append, h1]; omega⟩
theorem fromOf_link (p : ByteArray) (kd m u g t : Int) (q : ByteArray) (d : List Int) (hq : q.size ≤ 1000) : (fromOf p kd m u g t q d).2.2.2.2.2.2.1.size ≤ 1000 := by
  have hz : (⟨#[]⟩ : ByteArray).size ≤ 1000 := Nat.zero_le _
  unfold fromOf cut8
  repeat' split
  all_goals first | exact hz | exact hq
theorem from_same (a0 a1 : ByteArray) (m u g t s c : Int) (q : ByteArray) (l : List Qf.SB) (d : List Int) (h0 : a0.size ≤ 600) (h1 : a1.size ≤ 600) (hq : q.size ≤ 600) (c0 : 0 ≤ c) (c1 : c < 256)
    (hl : l.length ≤ 10) (hv : ∀ x ∈ l, x.f1.size ≤ 1000) (hd : d.length ≤ 5000) (k : Nat) (hk : 2510 ≤ k) :
    ∃ r : Mem, memb_From.f k a0 a1 m u g t s c q (l.map Qf.vc) d = some r ∧ thwartref08_From.f k a0 a1 m u g t s c q l d = some r ∧ r.2.2.2.2.2.2.1.size ≤ 1000 := by
  obtain ⟨k, rfl⟩ : ∃ j, k = j + 4 := ⟨k - 4, by omega⟩
  obtain ⟨P, j1, j2, hP⟩ := join8 a0 a1 h0 h1
  obtain ⟨k1, k2⟩ := kinds8 c c0 c1 (k + 4) (by omega)
  obtain ⟨f1, f2⟩ := Qf.Find_same l (⟨#[112, 97, 116, 104]⟩ : ByteArray) (by omega) (k + 4) (by omega)
  obtain ⟨g1, g2⟩ := Qf.Find_same l (⟨#[108, 105, 110, 107, 112, 97, 116, 104]⟩ : ByteArray) (by omega) (k + 3) (by omega)
  have hv' : ∀ x ∈ l.map Qf.vc, x.f1.size ≤ 1000 := by
    intro x hx
    obtain ⟨y, hy, rfl⟩ := List.mem_map.1 hx
    exact hv y hy
  have s1 := Qf.last_size (l.map Qf.vc) (⟨#[112, 97, 116, 104]⟩ : ByteArray) 1000 hv' l.length (by rw [List.length_map]; exact Nat.le_refl _)
  have s2 := Qf.last_size (l.map Qf.vc) (⟨#[108, 105, 110, 107, 112, 97, 116, 104]⟩ : ByteArray) 1000 hv' l.length (by rw [List.length_map]; exact Nat.le_refl _)
  generalize lastOf (l.map Qf.vc) (⟨#[112, 97, 116, 104]⟩ : ByteArray) l.length = F at *
  generalize lastOf (l.map Qf.vc) (⟨#[108, 105, 110, 107, 112, 97, 116, 104]⟩ : ByteArray) l.length = G at *
  generalize kind8 c = kd at *
  have hm0 : ∀ p, memb_From.j0 (k + 4) (l.map Qf.vc) d p kd m u g t q = some (fromOf p kd m u g t (if G.2 = true then G.1 else q) d) := by
    intro p
    rw [memb_From.j0, g1, Option.bind_some]
    by_cases b : G.2 = true
    · rw [if_pos b, if_pos b, mine_j1 _ _ _ _ _ _ _ _ _ (by omega)]
    · rw [if_neg b, if_neg b, mine_j1 _ _ _ _ _ _ _ _ _ (by omega)]
  have hr0 : ∀ p, p.size ≤ 140737488351232 → ¬ kd = 0 → thwartref08_From.j0 (k + 4) l d p kd m u g t q = some (fromOf p kd m u g t (if G.2 = true then G.1 else q) d) := by
    intro p hp h0
    rw [thwartref08_From.j0, g2, Option.bind_some]
    by_cases b : G.2 = true
    · rw [if_pos b, if_pos b, ref_j1 k _ _ _ _ _ _ _ _ hp (by omega) (by omega) h0]
    · rw [if_neg b, if_neg b, ref_j1 k _ _ _ _ _ _ _ _ hp (by omega) (by omega) h0]
  refine ⟨fromOf (if F.2 = true then F.1 else P) kd m u g t (if G.2 = true then G.1 else q) d, ?_, ?_, fromOf_link _ _ _ _ _ _ _ _ (by split <;> omega)⟩
  · unfold memb_From.f head_Path.f
    rw [j1]
    simp only [Option.bind_some]
    rw [k1, Option.bind_some, f1, Option.bind_some]
    by_cases b : F.2 = true
    · rw [if_pos b, if_pos b, hm0]
    · rw [if_neg b, if_neg b, hm0]
  · unfold thwartref08_From.f
    rw [j2, Option.bind_some, k2, Option.bind_some]
    by_cases z : kd = 0
    · rw [if_pos z]; unfold fromOf; rw [if_pos z]
    · rw [if_neg z, f2, Option.bind_some]
      by_cases b : F.2 = true
      · rw [if_pos b, if_pos b, hr0 _ (by omega) z]
      · rw [if_neg b, if_neg b, hr0 _ (by omega) z]
end Go.Proofs.YtjidenkhgeoaiaaGreatDoor.Q8

/- The pure statement of MembFrom: the member of any header, records and bytes is the document's, or refused; two members are the same just if all is. For every input. -/
namespace Go.Proofs.YtjidenkhgeoaiaaGreatDoor.Pure
open Go.RowKit Go.Proofs.YtjidenkhgeoaiaaGreatDoor.P Go.Proofs.YtjidenkhgeoaiaaGreatDoor.Hand Go.Proofs.YtjidenkhgeoaiaaGreatDoor.Q8 Go.Proofs.YtjidenkhgeoaiaaGreatDoorW.PrintWords Go.Proofs.YtjidenkhgeoaiaaGreatDoorW.PrintLast
set_option linter.unusedVariables false
set_option linter.unusedSimpArgs false
theorem from_end (k : Nat) (hk : 2510 ≤ k) (l : List Qf.SB) (d : List Int) (a0 a1 : ByteArray) (m u g t s c : Int) (q : ByteArray) (h0 : a0.size ≤ 600) (h1 : a1.size ≤ 600) (hq : q.size ≤ 600) (c0 : 0 ≤ c) (c1 : c < 256)
    (hl : l.length ≤ 10) (hd : d.length ≤ 5000) : ∀ (n i : Nat) (K : Nat), i + n = l.length → k + n < K → (∀ x ∈ l.take i, x.f1.size ≤ 1000) →
    thwartlaw08_MembFrom.l0 K l d ((l.take i).map Qf.vc) l (l.length : Int) (i : Int) a0 a1 m u g t s c q = some true := by
  intro n
  induction n with
  | zero =>
    intro i K hi hK hx
    obtain ⟨K, rfl⟩ : ∃ j, K = j + 1 := ⟨K - 1, by omega⟩
    obtain rfl : i = l.length := by omega
    rw [List.take_length] at hx ⊢
    obtain ⟨⟨p', kd', m', u', g', t', q', d', e'⟩, r1, r2, hr⟩ := from_same a0 a1 m u g t s c q l d h0 h1 hq c0 c1 hl hx hd K (by omega)
    have h3 : q'.size ≤ 1000 := hr
    rw [thwartlaw08_MembFrom.l0, if_neg (by omega), r1, Option.bind_some, r2, Option.bind_some]
    simp only [thwartlaw08_theirs.f, Option.bind_some]
    rw [if_pos (by omega), same_self, Option.bind_some, if_pos rfl, if_pos trivial, same_link, Option.bind_some, if_neg (by decide), alive8_k K (by omega)]
    · rfl
    · intro e
      have e2 := congrArg List.length e
      rw [Q.toL, Q.toL, Q.appL, List.length_append] at e2
      have : (⟨#[120]⟩ : ByteArray).data.toList.length = 1 := rfl
      omega
  | succ n ih =>
    intro i K hi hK hx
    obtain ⟨K, rfl⟩ : ∃ j, K = j + 1 := ⟨K - 1, by omega⟩
    have h2 : i < l.length := by omega
    rw [thwartlaw08_MembFrom.l0, if_pos (by omega), if_pos (by omega), if_pos (by omega), Qf.rd_B l i h2]
    by_cases b : ((l[i].f1).size : Int) > 1000
    · rw [if_pos b, alive8_k K (by omega)]; rfl
    rw [if_neg b, if_pos (by rw [List.length_map, List.length_take]; omega), Qf.wrap_id (by omega) (by omega), show ((i : Int) + 1) = ((i + 1 : Nat) : Int) by omega]
    have ht : (l.take i).map Qf.vc ++ [(⟨l[i].f0, l[i].f1⟩ : Qf.SA)] = (l.take (i + 1)).map Qf.vc := by
      rw [List.take_succ_eq_append_getElem h2, List.map_append]; rfl
    rw [ht]
    refine ih (i + 1) K (by omega) (by omega) ?_
    intro x hx'
    rw [List.take_succ_eq_append_getElem h2, List.mem_append] at hx'
    rcases hx' with hx' | hx'
    · exact hx x hx'
    · rw [List.mem_singleton] at hx'; subst hx'; omega
theorem MembFrom : P.thwartlaw08_MembFrom.Pure := by
  intro a0 a1 m u g t s c q l d _ _ _ _ _ _ _ hc _ _ _ _ _
  obtain ⟨c0, c1⟩ := byte8 c hc
  refine ⟨3001, ?_⟩
  have jT : thwartlaw08_MembFrom.j0 3001 l d true a0 a1 m u g t s c q = some true := by
    rw [thwartlaw08_MembFrom.j0, if_pos rfl, alive8_k 3000 (by omega)]; rfl
  unfold thwartlaw08_MembFrom.f
  by_cases b1 : (a0.size : Int) > 600
  · rw [if_pos b1, jT]
  rw [if_neg b1]
  by_cases b2 : (a1.size : Int) > 600
  · rw [if_pos b2, jT]
  rw [if_neg b2]
  by_cases b3 : (q.size : Int) > 600
  · rw [if_pos b3, jT]
  rw [if_neg b3]
  by_cases b4 : (l.length : Int) > 10
  · rw [if_pos b4, jT]
  rw [if_neg b4]
  by_cases b5 : (d.length : Int) > 5000
  · rw [decide_eq_true b5, jT]
  rw [decide_eq_false b5, thwartlaw08_MembFrom.j0, if_neg (by decide)]
  exact from_end 2510 (by omega) l d a0 a1 m u g t s c q (by omega) (by omega) (by omega) c0 c1 (by omega) (by omega) l.length 0 3000 (by omega) (by omega) (by simp)
end Go.Proofs.YtjidenkhgeoaiaaGreatDoor.Pure

/- What came in, opened by its type: whatever a kind of the printed words tells (numbers, texts, structs, slices of these, one in the other). No function of the program occurs. -/
namespace Go.Proofs.YtjidenkhgeoaiaaGreatDoor.Open
open Go Go.ChangeShapes Go.WideShapes Go.Deep Go.Proofs.YtjidenkhgeoaiaaGreatDoorW.PrintWords
set_option linter.unusedVariables false
set_option linter.unusedSimpArgs false

structure Opens {α : Type} (P : Program) (d : Kd α) (t : TypeId) (Wf : α → Prop) : Prop where
  sz : P.cellsOf t = d.sz
  go : ∀ {H : Type} {enc : TypeId × Value → H} {w : World} {base : Nat} {spare : Nat → Bool} {held : Bool} {fuel : Nat} {cs : List Value} {x : DataW H × List MemPlace},
    DataW.trod enc P w base spare held fuel t cs = some x → ∃ a, d.K w a cs ∧ Wf a
theorem int {P : Program} {k : IntKind} {t : TypeId} (ht : P.underlying t = some (.int k)) (hs : P.cellsOf t = 1) : Opens P (Kd.int k) t (fun n => (Lit.int k n).wf = true) :=
  ⟨hs, fun h => by
    obtain ⟨n, rfl, _, hw⟩ := DataW.trod_int ht h
    exact ⟨n, rfl, hw⟩⟩
theorem bool {P : Program} {t : TypeId} (ht : P.underlying t = some .bool) (hs : P.cellsOf t = 1) : Opens P Kd.bool t (fun _ => True) :=
  ⟨hs, fun h => by
    obtain ⟨n, rfl, _⟩ := DataW.trod_bool ht h
    exact ⟨n, rfl, trivial⟩⟩
theorem string {P : Program} {t : TypeId} (ht : P.underlying t = some .string) (hs : P.cellsOf t = 1) : Opens P Kd.string t (fun s => s.size ≤ 9223372036854775807) :=
  ⟨hs, fun h => by
    obtain ⟨n, rfl, _, hw⟩ := DataW.trod_string ht h
    exact ⟨n, rfl, hw⟩⟩
/-- A list of choices, one an index. -/
theorem choices {α : Type} (n : Nat) (p : Nat → α → Prop) (h : ∀ i, i < n → ∃ a, p i a) : ∃ l : List α, l.length = n ∧ ∀ i a, l[i]? = some a → p i a := by
  induction n with
  | zero => exact ⟨[], rfl, fun i a hi => by simp at hi⟩
  | succ n ih =>
    obtain ⟨l, hl, hp⟩ := ih (fun i hi => h i (by omega))
    obtain ⟨a, ha⟩ := h n (by omega)
    refine ⟨l ++ [a], by simp [hl], fun i b hi => ?_⟩
    rw [List.getElem?_append] at hi
    split at hi
    · exact hp i b hi
    · rename_i hlt
      have : i = n := by
        have := (List.getElem?_eq_some_iff.1 hi).1
        simp at this; omega
      subst this
      rw [hl, Nat.sub_self] at hi
      cases hi
      exact ha
theorem row {α : Type} {P : Program} {d : Kd α} {t e : TypeId} {Wf : α → Prop} (ht : P.underlying t = some (.slice e)) (o : Opens P d e Wf)
    {H : Type} {enc : TypeId × Value → H} {w : World} {base : Nat} {spare : Nat → Bool} {held : Bool} {fuel : Nat} {cs : List Value} {x : DataW H × List MemPlace} (h : DataW.trod enc P w base spare held fuel t cs = some x) :
    ∃ (A : Option Addr) (c : Nat) (l : List α), cs = [.slice A l.length c] ∧ l.length ≤ c ∧ l.length ≤ 9223372036854775807 ∧ Kd.C d w A l.length l ∧ ∀ a ∈ l, Wf a := by
  rcases open_slice ht h with ⟨rfl, _⟩ | ⟨a, len, cap, m, n, D, Pl, rfl, _, hl, hm, hmm, _, hi⟩
  · exact ⟨none, 0, [], rfl, Nat.le_refl _, by simp, ⟨rfl, by simp, fun h => absurd h (by simp)⟩, by simp⟩
  · have hlm : len ≤ m := by rw [hmm]; split <;> omega
    have hm' : cap ≤ 9223372036854775807 := hm
    obtain ⟨l, hll, hp⟩ := choices len (fun i (b : α) => (∃ c, c.length = d.sz ∧ d.K w b c ∧ ∀ j u, c[j]? = some u → w.cell? (a.add (i * d.sz + j)) = some u) ∧ Wf b) (fun i hil => by
      obtain ⟨cs', hc, ht'⟩ := hi i (by omega)
      obtain ⟨b, hK, hW⟩ := o.go ht'
      rw [o.sz] at hc
      obtain ⟨_, hcl, hat⟩ := World.cells?_some hc
      refine ⟨b, ⟨cs', hcl, hK, fun j u hj => ?_⟩, hW⟩
      have hjl : j < d.sz := by rw [← hcl]; exact (List.getElem?_eq_some_iff.1 hj).1
      rw [← Go.Deep.add_add, hat j hjl, hj])
    refine ⟨some a, cap, l, by rw [hll], by omega, by omega, ⟨rfl, by omega, fun _ => ⟨a, rfl, fun j p hj => (hp j p hj).1⟩⟩, fun b hb => ?_⟩
    obtain ⟨i, hi'⟩ := List.getElem?_of_mem hb
    exact (hp i b hi').2
theorem slice {α : Type} {P : Program} {d : Kd α} {t e : TypeId} {Wf : α → Prop} (ht : P.underlying t = some (.slice e)) (hs : P.cellsOf t = 1) (o : Opens P d e Wf) : Opens P (Kd.slice e d) t (fun l => l.length ≤ 9223372036854775807 ∧ ∀ a ∈ l, Wf a) :=
  ⟨hs, fun h => by
    obtain ⟨A, c, l, rfl, hl, hm, hC, hW⟩ := row ht o h
    exact ⟨l, ⟨A, c, rfl, hl, hC⟩, hm, hW⟩⟩
/-- A part of a struct's fields, that begins at a cell. -/
def Part {α : Type} (P : Program) (d : Kd α) (off : Nat) (fs : List Field) (Wf : α → Prop) : Prop :=
  ∀ {H : Type} {enc : TypeId × Value → H} {w : World} {base : Nat} {spare : Nat → Bool} {held : Bool} {n : Nat} {cs : List Value},
    (∀ f ∈ fs, ∃ y, DataW.trod enc P w base spare held n f.type ((cs.drop f.offset).take (P.cellsOf f.type)) = some y) → ∃ a, d.K w a ((cs.drop off).take d.sz) ∧ Wf a
theorem part_one {α : Type} {P : Program} {d : Kd α} {off : Nat} {f : Field} {Wf : α → Prop} (o : Opens P d f.type Wf) (ho : f.offset = off) : Part P d off [f] Wf := by
  intro H enc w base spare held n cs h
  obtain ⟨y, hy⟩ := h f (by simp)
  rw [ho, o.sz] at hy
  exact o.go hy
theorem part_pair {α β : Type} {P : Program} {a : Kd α} {b : Kd β} {off : Nat} {fs gs : List Field} {Wa : α → Prop} {Wb : β → Prop} (ha : Part P a off fs Wa) (hb : Part P b (off + a.sz) gs Wb) :
    Part P (Kd.pair a b) off (fs ++ gs) (fun x => Wa x.1 ∧ Wb x.2) := by
  intro H enc w base spare held n cs h
  obtain ⟨x, hx, wx⟩ := ha (fun f hf => h f (List.mem_append_left _ hf))
  obtain ⟨y, hy, wy⟩ := hb (fun f hf => h f (List.mem_append_right _ hf))
  refine ⟨(x, y), ⟨_, _, ?_, hx, hy⟩, wx, wy⟩
  show (cs.drop off).take (a.sz + b.sz) = _
  rw [List.take_add, List.drop_drop]
theorem struct {α : Type} {P : Program} {d : Kd α} {t : TypeId} {fs : Array Field} {Wf : α → Prop} (ht : P.underlying t = some (.struct fs)) (hs : P.cellsOf t = d.sz) (p : Part P d 0 fs.toList Wf) : Opens P d t Wf :=
  ⟨hs, fun {H enc w base spare held fuel cs x} h => by
    obtain ⟨xs, n, _, _, hlen, hxl, hf⟩ := DataW.trod_struct ht h
    obtain ⟨a, hK, hW⟩ := p (enc := enc) (w := w) (base := base) (spare := spare) (held := held) (n := n) (cs := cs) (fun f hm => by
      obtain ⟨i, hi⟩ := List.getElem?_of_mem hm
      have hi' : fs[i]? = some f := by rw [← Array.getElem?_toList]; exact hi
      have hil : i < xs.length := by rw [hxl]; exact (Array.getElem?_eq_some_iff.1 hi').1
      exact ⟨xs[i], by rw [hf i f hi', List.getElem?_eq_getElem hil]⟩)
    rw [List.drop_zero, List.take_of_length_le (by omega)] at hK
    exact ⟨a, hK, hW⟩⟩
theorem iso {α β : Type} {P : Program} {d : Kd α} {t : TypeId} {Wf : α → Prop} (o : Opens P d t Wf) (f : β → α) (g : α → β) (h : ∀ x, f (g x) = x) : Opens P (Kd.iso d f) t (fun b => Wf (f b)) :=
  ⟨o.sz, fun h' => by
    obtain ⟨a, hK, hW⟩ := o.go h'
    refine ⟨g a, ?_, by rw [h]; exact hW⟩
    show d.K _ (f (g a)) _
    rw [h]; exact hK⟩
end Go.Proofs.YtjidenkhgeoaiaaGreatDoor.Open

/- The statement of MembFrom for every input, out of its pure statement and the printed walk. -/
namespace Go.Proofs.YtjidenkhgeoaiaaGreatDoor.membFrom
open Go Go.ChangeShapes Go.WideShapes Go.ChangeAt Go.RowKit Go.Proofs.YtjidenkhgeoaiaaGreatDoorW.PrintWords
open Go.ChangeMaps (open_string shut_string)
set_option linter.unusedVariables false
set_option linter.unusedSimpArgs false
theorem own : ownKnob Tryz.prog.godebug = none := by kernel_rfl
theorem laidOut : laidOutB Tryz.prog = true := by kernel_rfl
set_option maxRecDepth 100000 in
theorem lifted (os : Os) (started : os.Started) (H : Type) (enc : TypeId × Value → H) :
    ReturnsInHanded {} Tryz.checked os 4 .any (fun w args => (Rows.membFromSpec.pre enc Tryz.prog Tryz.f4 Rows.membFromRow.domain false w args ∧ laidMetH Tryz.prog Rows.membFromRow.laid w) ∧ sizedMet enc Tryz.prog Tryz.f4 (OpenSpec.ofChange Rows.membFromSpec) false w args) (Rows.membFromSpec.post enc Tryz.prog Tryz.f4 false true false false) := by
  refine returnsInHanded_of_change_and (C := Tryz.checked) (X := (fun w _ => laidMetH Tryz.prog Rows.membFromRow.laid w)) (fun _ _ _ hh h => h.of_heap hh) own started (by kernel_rfl) Tryz.func4
    (ChangeSpec.witness_shaped (enc := enc) (C := Tryz.checked) (os := os) (X := (fun w _ => laidMetH Tryz.prog Rows.membFromRow.laid w)) false (World.laidAll Tryz.prog os Rows.membFromRow.laid) #[.agg #[.string ByteArray.empty, .string ByteArray.empty, .int .i64 0, .int .i64 0, .int .i64 0, .int .i64 0, .int .i64 0, .int .u8 0, .string ByteArray.empty], .slice none 0 0, .slice none 0 0] 8 (World.laidAll_os _ _ _)
      (World.shaped_of_ZipB (by kernel_rfl) (by kernel_rfl)) (by kernel_rfl) (by kernel_rfl) (by kernel_rfl)
      (by rw [MakeChecks.laidMetH_plain _ _ _ (by kernel_rfl)]; exact laidMet_laidAll _ (by kernel_rfl) (by kernel_rfl))) ?_
  intro W base args ds gs before hval0 hW hcnd hsz0 hX _
  have htab : Aside0 (Hand.TabOk W) := ⟨Hand.tab_of_laid hX (by rfl)⟩
  have hsz : (DataW.weightsEach Tryz.prog (Tryz.f4.params.toList ++ Rows.membFromSpec.plain.varTypes Tryz.prog) (ds ++ gs)).all (· ≤ reachBytes) = true := hsz0
  have hval : ∀ (j : Nat) t v, Tryz.f4.params[j]? = some t → args[j]? = some v → Value.okWide Tryz.prog W .any base t v := hval0
  have hW' := hW
  obtain ⟨p, q, hA0, hV, rfl, hfz, hnd⟩ := hW
  have hA : DataW.TrodAll enc Tryz.prog W 0 (fun _ => true) true Tryz.f4.params.toList args.toList ds p := hA0
  rw [Tryz.params4] at hA hval hsz
  obtain ⟨v0, vs0, d0, ds0, p0, q0, hargs, rfl, rfl, h0, r0⟩ := trodAll_cons hA
  obtain ⟨v1, vs1, d1, ds1, p1, q1, rfl, rfl, rfl, h1, r1⟩ := trodAll_cons r0
  obtain ⟨v2, vs2, d2, ds2, p2, q2, rfl, rfl, rfl, h2, r2⟩ := trodAll_cons r1
  obtain ⟨rfl, rfl, rfl⟩ := trodAll_nil r2
  obtain rfl : args = #[v0, v1, v2] := by cases args; simp_all
  obtain ⟨rfl, rfl⟩ := trodVars_none hV
  obtain ⟨cs0, rfl, _⟩ := okWide_struct Tryz.underlying29 (hval 0 29 v0 rfl rfl)
  have k0 := h0
  have lt0 : ∀ x ∈ p0, x.block < W.heap.size := by obtain ⟨m, hm⟩ := k0; exact DataW.trod_lt m _ _ _ hm
  obtain ⟨a0_0, a0_1, a0_2, a0_3, a0_4, a0_5, a0_6, a0_7, a0_8, rfl, o0_0, o0_1, o0_2, o0_3, o0_4, o0_5, o0_6, o0_7, o0_8⟩ : ∃ (a0_0 : ByteArray) (a0_1 : ByteArray) (a0_2 : Int) (a0_3 : Int) (a0_4 : Int) (a0_5 : Int) (a0_6 : Int) (a0_7 : Int) (a0_8 : ByteArray), cs0 = #[.string a0_0, .string a0_1, .int .i64 a0_2, .int .i64 a0_3, .int .i64 a0_4, .int .i64 a0_5, .int .i64 a0_6, .int .u8 a0_7, .string a0_8] ∧ (a0_0.size ≤ 9223372036854775807) ∧ (a0_1.size ≤ 9223372036854775807) ∧ ((Lit.int .i64 a0_2).wf = true) ∧ ((Lit.int .i64 a0_3).wf = true) ∧ ((Lit.int .i64 a0_4).wf = true) ∧ ((Lit.int .i64 a0_5).wf = true) ∧ ((Lit.int .i64 a0_6).wf = true) ∧ ((Lit.int .u8 a0_7).wf = true) ∧ (a0_8.size ≤ 9223372036854775807) := by
    obtain ⟨fuel, hf⟩ := h0
    obtain ⟨x, hK, hW⟩ := (Open.struct (d := (Kd.pair Kd.string (Kd.pair Kd.string (Kd.pair (Kd.pair (Kd.int .i64) (Kd.pair (Kd.int .i64) (Kd.pair (Kd.int .i64) (Kd.int .i64)))) (Kd.pair (Kd.int .i64) (Kd.pair (Kd.int .u8) Kd.string)))))) Tryz.underlying29 (by kernel_rfl) (show Open.Part _ _ 0 ([_] ++ ([_] ++ ([_] ++ ([_] ++ ([_] ++ ([_])))))) _ from (Open.part_pair (Open.part_one (Open.string Tryz.underlying9 (by kernel_rfl)) rfl) (Open.part_pair (Open.part_one (Open.string Tryz.underlying9 (by kernel_rfl)) rfl) (Open.part_pair (Open.part_one (Open.struct (d := (Kd.pair (Kd.int .i64) (Kd.pair (Kd.int .i64) (Kd.pair (Kd.int .i64) (Kd.int .i64))))) Tryz.underlying27 (by kernel_rfl) (show Open.Part _ _ 0 ([_] ++ ([_] ++ ([_] ++ ([_])))) _ from (Open.part_pair (Open.part_one (Open.int Tryz.underlying2 (by kernel_rfl)) rfl) (Open.part_pair (Open.part_one (Open.int Tryz.underlying2 (by kernel_rfl)) rfl) (Open.part_pair (Open.part_one (Open.int Tryz.underlying2 (by kernel_rfl)) rfl) (Open.part_one (Open.int Tryz.underlying2 (by kernel_rfl)) rfl)))))) rfl) (Open.part_pair (Open.part_one (Open.int Tryz.underlying2 (by kernel_rfl)) rfl) (Open.part_pair (Open.part_one (Open.int Tryz.underlying5 (by kernel_rfl)) rfl) (Open.part_one (Open.string Tryz.underlying9 (by kernel_rfl)) rfl)))))))).go hf
    have hK' : ∃ cs, cs = (Value.agg cs0).cells.toList ∧ Kd.K (Kd.pair Kd.string (Kd.pair Kd.string (Kd.pair (Kd.pair (Kd.int .i64) (Kd.pair (Kd.int .i64) (Kd.pair (Kd.int .i64) (Kd.int .i64)))) (Kd.pair (Kd.int .i64) (Kd.pair (Kd.int .u8) Kd.string))))) W x cs := ⟨_, rfl, hK⟩
    obtain ⟨cs, ecs, hK2⟩ := hK'
    obtain ⟨_, _, rfl, rfl, ⟨_, _, rfl, rfl, ⟨_, _, rfl, ⟨_, _, rfl, rfl, ⟨_, _, rfl, rfl, ⟨_, _, rfl, rfl, rfl⟩⟩⟩, ⟨_, _, rfl, rfl, ⟨_, _, rfl, rfl, rfl⟩⟩⟩⟩⟩ := hK2
    obtain ⟨w0_0, ⟨w0_1, ⟨⟨w0_2, ⟨w0_3, ⟨w0_4, w0_5⟩⟩⟩, ⟨w0_6, ⟨w0_7, w0_8⟩⟩⟩⟩⟩ := hW
    exact ⟨x.1, x.2.1, x.2.2.1.1, x.2.2.1.2.1, x.2.2.1.2.2.1, x.2.2.1.2.2.2, x.2.2.2.1, x.2.2.2.2.1, x.2.2.2.2.2, Array.toList_inj.1 (by simpa [Value.cells] using ecs.symm), w0_0, w0_1, w0_2, w0_3, w0_4, w0_5, w0_6, w0_7, w0_8⟩
  obtain ⟨a1, len1, cap1, rfl⟩ := okWide_slice Tryz.underlying30 (hval 1 30 v1 rfl rfl)
  have k1 := h1
  have lt1 : ∀ x ∈ p1, x.block < W.heap.size := by obtain ⟨m, hm⟩ := k1; exact DataW.trod_lt m _ _ _ hm
  obtain ⟨l1, rfl, hc1, hm1, hr1, hw1⟩ : ∃ l : List P.S34, len1 = l.length ∧ l.length ≤ cap1 ∧ l.length ≤ 9223372036854775807 ∧ Kd.C P.k34 W a1 l.length l ∧ (∀ x ∈ l, (x.f0.size ≤ 9223372036854775807) ∧ (x.f1.size ≤ 9223372036854775807)) := by
    obtain ⟨fuel, hf⟩ := h1
    obtain ⟨A, c, l, he, x1, x2, x3, x4⟩ := Open.row Tryz.underlying30 (Open.iso (Open.struct (d := (Kd.pair Kd.string Kd.string)) Tryz.underlying34 (by kernel_rfl) (show Open.Part _ _ 0 ([_] ++ ([_])) _ from (Open.part_pair (Open.part_one (Open.string Tryz.underlying9 (by kernel_rfl)) rfl) (Open.part_one (Open.string Tryz.underlying9 (by kernel_rfl)) rfl)))) (fun x : P.S34 => (x.f0, x.f1)) (fun p => ⟨p.1, p.2⟩) (fun _ => rfl)) hf
    simp [Value.cells] at he
    obtain ⟨rfl, rfl, rfl⟩ := he
    exact ⟨l, rfl, x1, x2, x3, x4⟩
  obtain ⟨a2, len2, cap2, rfl⟩ := okWide_slice Tryz.underlying31 (hval 2 31 v2 rfl rfl)
  have k2 := h2
  have lt2 : ∀ x ∈ p2, x.block < W.heap.size := by obtain ⟨m, hm⟩ := k2; exact DataW.trod_lt m _ _ _ hm
  obtain ⟨l2, rfl, hc2, hm2, hr2, hw2⟩ : ∃ l : List Int, len2 = l.length ∧ l.length ≤ cap2 ∧ l.length ≤ 9223372036854775807 ∧ Kd.C (Kd.int .u8) W a2 l.length l ∧ (∀ x ∈ l, (Lit.int .u8 x).wf = true) := by
    obtain ⟨fuel, hf⟩ := h2
    obtain ⟨A, c, l, he, x1, x2, x3, x4⟩ := Open.row Tryz.underlying31 (Open.int Tryz.underlying5 (by kernel_rfl)) hf
    simp [Value.cells] at he
    obtain ⟨rfl, rfl, rfl⟩ := he
    exact ⟨l, rfl, x1, x2, x3, x4⟩
  clear hA0 hval0 hsz0 hsz
  obtain ⟨k, hk⟩ := Pure.MembFrom a0_0 a0_1 a0_2 a0_3 a0_4 a0_5 a0_6 a0_7 a0_8 l1 l2 o0_0 o0_1 o0_2 o0_3 o0_4 o0_5 o0_6 o0_7 o0_8 hm1 hw1 hm2 hw2
  refine (P.thwartlaw08_MembFrom.calls k a0_0 a0_1 a0_2 a0_3 a0_4 a0_5 a0_6 a0_7 a0_8 a1 cap1 l1 a2 cap2 l2 true W htab hr1 hc1 hr2 hc2 rfl hk).mono fun e W' ⟨he, bel⟩ => ?_
  subst he
  exact ⟨_, rfl, _, _, _, [], _, [], hW', trodAll_mk1 (shut_bool Tryz.underlying4 _), (trodAll_cons_mk (Below.trod laidOut (by kernel_rfl) (of_decide_eq_true (by kernel_rfl)) k0 bel lt0) (trodAll_cons_mk (Below.trod laidOut (by kernel_rfl) (of_decide_eq_true (by kernel_rfl)) k1 bel lt1) (trodAll_cons_mk (Below.trod laidOut (by kernel_rfl) (of_decide_eq_true (by kernel_rfl)) k2 bel lt2) trodAll_mk0))), rfl, bel.frame _, fun h => by cases h⟩
theorem over : Rows.membFromRow.holds Tryz.pinned (OpenSpec.ofChange Rows.membFromSpec) :=
  OpenClaim.holds_of_wide 4 Tryz.f4 rfl rfl rfl rfl rfl rfl rfl ⟨rfl, rfl, rfl, rfl, rfl⟩ rfl rfl rfl rfl rfl (by kernel_rfl) Tryz.func4 (by kernel_rfl)
    (of_decide_eq_true (by kernel_rfl)) (by unfold Func.isWrapper; first | (rw [if_pos (by decide +kernel)]; kernel_rfl) | (rw [if_neg (by decide +kernel)]; exact ⟨rfl, rfl⟩))
    (fun os started H enc _ => lifted os started H enc)
theorem proved : Rows.MembFromSaid := over
theorem card_proved : Rows.MembFromCardSaid :=
  Claim7.holds_tied_plain_at .later [] [.data, .data, .data, .data, .pinned] true (true, "d91d5e1725961860c424d8fa74ebd0e3480b6cbf9bda71444830f17a3506859f") false proved (fun _ h => by cases h) (by kernel_rfl) (fun _ h => by cases h) membFrom_row_tie rfl ⟨rfl, rfl⟩ (by kernel_rfl) rfl
    (fun f fn hf hfn => by
      obtain rfl : f = 4 := Option.some.inj ((show Tryz.prog.funcNamed "thwart/thwartlaw08.MembFrom" = some 4 by kernel_rfl).symm.trans hf) |>.symm
      obtain rfl : fn = Tryz.f4 := (Option.some.inj (Tryz.func4.symm.trans hfn)).symm
      exact ⟨by kernel_rfl, fun j t ht => by
        rw [Tryz.params4] at ht
        have hm : t ∈ [29, 30, 31] := by simpa using Array.mem_of_getElem? ht
        have hall : ([29, 30, 31].all fun u => !Tryz.prog.wantsStandIn u) = true := by kernel_rfl
        exact (show Tryz.prog.wantsStandIn t = false by simpa using List.all_eq_true.1 hall t hm)⟩)
    (by kernel_rfl)
#print axioms card_proved
end Go.Proofs.YtjidenkhgeoaiaaGreatDoor.membFrom
namespace Go.Proofs.YtjidenkhgeoaiaaGreatDoor
/-- The statement, under a short name, for the claim. -/
theorem membFrom_holds : Rows.MembFromCardSaid := membFrom.card_proved
end Go.Proofs.YtjidenkhgeoaiaaGreatDoor
