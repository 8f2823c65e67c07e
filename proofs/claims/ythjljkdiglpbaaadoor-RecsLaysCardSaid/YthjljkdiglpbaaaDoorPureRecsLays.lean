/- The pure statement of RecsLays: any records' bytes, one's length, whether it may be, and a key's value, told by both, are the same. For every list of records and every key. -/
import Derived.Test.YthjljkdiglpbaaaDoorKRecsLays
import Derived.Test.YthjljkdiglpbaaaDoorQRecs6
namespace Go.Proofs.YthjljkdiglpbaaaDoor.Pure
open Go.RowKit Go.Proofs.YthjljkdiglpbaaaDoor.P Go.Proofs.YthjljkdiglpbaaaDoor.Hand Go.Proofs.YthjljkdiglpbaaaDoor.Q Go.Proofs.YthjljkdiglpbaaaDoorW.PrintWords Go.Proofs.YthjljkdiglpbaaaDoorW.PrintLast
set_option linter.unusedVariables false
set_option linter.unusedSimpArgs false
theorem lays_loop (l : List SB) (hl : l.length ≤ 10) (hs : ∀ x ∈ l, x.f0.size ≤ 3000 ∧ x.f1.size ≤ 3000) (y : List Int) (e : Int) (s : ByteArray) (o : Bool) (hy : y.length ≤ 4611686018427387904) (F : Nat) (hF : y.length + 110000 ≤ F) :
    ∀ (d k i : Nat), i + d = l.length → d + F < k → thwartlaw06_RecsLays.l0 k y e y e s o s o l (l.length : Int) (i : Int) = some true := by
  intro d
  induction d with
  | zero =>
    intro k i hi hk
    obtain ⟨k, rfl⟩ : ∃ q, k = q + 1 := ⟨k - 1, by omega⟩
    have hb : (o == o) = true := by simp
    rw [thwartlaw06_RecsLays.l0, if_neg (by omega), Same_self y hy k (by omega), Option.bind_some, if_pos rfl, if_pos rfl, if_pos rfl, if_pos hb, alive_is k (by omega)]
    rfl
  | succ d ih =>
    intro k i hi hk
    obtain ⟨k, rfl⟩ : ∃ q, k = q + 1 + 1 := ⟨k - 2, by omega⟩
    have h2 : i < l.length := by omega
    obtain ⟨s1, s2⟩ := hs _ (List.getElem_mem h2)
    have hB := B_max l[i].f0 l[i].f1
    rw [thwartlaw06_RecsLays.l0, if_pos (by omega), if_pos (by omega), if_pos (by omega), rd_B l i h2, one_mine_is _ _ (by omega), Option.bind_some, show ref06_One.f (k + 1) l[i].f0 l[i].f1 = _ from one_ref_is _ _ (by omega) (k + 1) (by omega), Option.bind_some]
    dsimp only
    rw [Same_self _ (by omega) (k + 1) (by omega), Option.bind_some, if_pos rfl, if_pos rfl, may_mine k _ _ (by omega), Option.bind_some, may_ref _ _ (by omega) (k + 1) (by omega), Option.bind_some, if_pos rfl, len_mine _ _ (by omega), Option.bind_some]
    have hL : (if mayE l[i].f0 l[i].f1 = 0 then L ((l[i].f0.size : Int) + l[i].f1.size + 3) else 0) = ((B l[i].f0 l[i].f1).length : Int) := by
      by_cases c : mayE l[i].f0 l[i].f1 = 0
      · rw [if_pos c, B_len _ _ c]
      · rw [if_neg c, B_len0 _ _ c]; rfl
    rw [if_pos hL, Q.wrap_small (by omega) (by omega), show ((i : Int) + 1) = ((i + 1 : Nat) : Int) by omega]
    exact ih (k + 1) (i + 1) (by omega) (by omega)
theorem layOf_max : ∀ (l : List SB) (acc : List Int), (layOf acc l).1.length ≤ acc.length + 2070 * l.length := by
  intro l
  induction l with
  | nil => intro acc; simp [layOf]
  | cons x l ih =>
    intro acc
    have hB := B_max x.f0 x.f1
    unfold layOf
    split
    · have := ih (acc ++ B x.f0 x.f1)
      rw [List.length_append] at this
      rw [List.length_cons]
      omega
    · simp
theorem RecsLays : P.thwartlaw06_RecsLays.Pure := by
  intro l key hl hok hk
  obtain ⟨F, hF⟩ : ∃ F, F = 300000 := ⟨_, rfl⟩
  refine ⟨F + 1, ?_⟩
  have ha := alive_is F (by omega)
  obtain ⟨b, hb, hc⟩ := far_is l hl (F + 1) (by omega)
  have jt : thwartlaw06_RecsLays.j0 (F + 1) l key true = some true := by rw [thwartlaw06_RecsLays.j0, if_pos rfl, ha]; rfl
  unfold thwartlaw06_RecsLays.f
  rw [hb, Option.bind_some]
  cases b with
  | true => rw [if_pos rfl]; exact jt
  | false =>
    obtain ⟨h1, h2⟩ := hc rfl
    have hK : Keys l := fun x hx => by have := (h2 x hx).1; omega
    rw [if_neg (by decide)]
    by_cases c : (key.size : Int) > 3000
    · rw [decide_eq_true c]; exact jt
    · rw [decide_eq_false c, thwartlaw06_RecsLays.j0, if_neg (by decide), theirs_is l (by omega) F (by omega), Option.bind_some, Lay_mine l (by omega) hK F (by omega), Option.bind_some, Lay_ref l (by omega) hK 100100 (by omega) F (by omega), Option.bind_some, Option.bind_some]
      obtain ⟨v, hv1, hv2⟩ := Find_same l key (by omega) F (by omega)
      have hm := layOf_max l []
      rw [List.length_nil] at hm
      rw [hv1, Option.bind_some, hv2, Option.bind_some]
      exact lays_loop l h1 h2 _ _ _ _ (by omega) 200000 (by omega) l.length F 0 (by omega) (by omega)
end Go.Proofs.YthjljkdiglpbaaaDoor.Pure
