/- The pure statement of RecsBack: what is laid is read as the same records; what is read is laid as the same bytes. For every list of records and all bytes. -/
import Derived.Test.YthjljkdiglpbaaaDoorKRecsBack
import Derived.Test.YthjljkdiglpbaaaDoorQRecs7
namespace Go.Proofs.YthjljkdiglpbaaaDoor.Pure
open Go.RowKit Go.Proofs.YthjljkdiglpbaaaDoor.P Go.Proofs.YthjljkdiglpbaaaDoor.Hand Go.Proofs.YthjljkdiglpbaaaDoor.Q Go.Proofs.YthjljkdiglpbaaaDoorW.PrintWords Go.Proofs.YthjljkdiglpbaaaDoorW.PrintLast
set_option linter.unusedVariables false
set_option linter.unusedSimpArgs false
theorem back_j1 (b : List Int) (hb : Bytes b) (hl : b.length ≤ 6000) (F : Nat) (hF : 200000 ≤ F) : thwartlaw06_RecsBack.j1 (F + 1) b = some true := by
  have ha := alive_is F (by omega)
  obtain ⟨xs, e, h1, h2, h3⟩ := parse_same b hb (by omega)
  obtain ⟨p1, _⟩ := h3 F (by omega)
  rw [thwartlaw06_RecsBack.j1, p1, Option.bind_some]
  dsimp only
  rcases h2 with ⟨rfl, hc⟩ | ⟨he, rfl⟩
  · obtain ⟨c1, c2⟩ := Comes_lay b xs hc hb
    have hK : Keys (xs.map cv) := fun x hx => by have := (may_zero _ _ (c1 x hx)).2.2.1; omega
    have hlay := Lay_mine (xs.map cv) (by rw [List.length_map]; omega) hK F (by rw [List.length_map]; omega)
    rw [vc_cv, layOf_all _ _ c1, c2, List.nil_append] at hlay
    rw [if_pos rfl, hlay, Option.bind_some]
    dsimp only
    rw [if_pos rfl, Same_self b (by omega) F (by omega), Option.bind_some, if_pos rfl, ha]
    rfl
  · rw [if_neg he, if_pos (by simp), ha]
    rfl
theorem RecsBack : P.thwartlaw06_RecsBack.Pure := by
  intro l b hl hok hbl hbw
  obtain ⟨F, hF⟩ : ∃ F, F = 300000 := ⟨_, rfl⟩
  refine ⟨F + 2, ?_⟩
  have ha := alive_is (F + 1) (by omega)
  obtain ⟨f, hf, hc⟩ := far_is l hl (F + 2) (by omega)
  have jt : thwartlaw06_RecsBack.j0 (F + 2) l b true = some true := by rw [thwartlaw06_RecsBack.j0, if_pos rfl, ha]; rfl
  have hb : Bytes b := by
    intro x hx
    have := hbw x hx
    simp only [Lit.wf, IntKind.min, IntKind.max, IntKind.signed, IntKind.bits, Bool.and_eq_true, decide_eq_true_eq] at this
    simp at this
    omega
  unfold thwartlaw06_RecsBack.f
  rw [hf, Option.bind_some]
  cases f with
  | true => rw [if_pos rfl]; exact jt
  | false =>
    obtain ⟨h1, h2⟩ := hc rfl
    have hK : Keys l := fun x hx => by have := (h2 x hx).1; omega
    rw [if_neg (by decide)]
    by_cases c : (b.length : Int) > 6000
    · rw [decide_eq_true c]; exact jt
    have hj := back_j1 b hb (by omega) F (by omega)
    rw [decide_eq_false c, thwartlaw06_RecsBack.j0, if_neg (by decide), theirs_is l (by omega) (F + 1) (by omega), Option.bind_some, Lay_mine l (by omega) hK (F + 1) (by omega), Option.bind_some]
    by_cases ce : (layOf [] l).2 = 0
    · obtain ⟨m1, m2⟩ := layOf_ok l [] ce
      have hfl := flat_len l
      rw [if_pos ce, m2, List.nil_append]
      dsimp only
      have hp := parse_flat l (F + 1) [] m1 (by omega) (by simp; omega) (by omega)
      rw [show recs_Parse.f (F + 1) (flat l) = recs_Parse.l0 (F + 1) (flat l) [] from rfl, hp, List.nil_append, Option.bind_some]
      dsimp only
      have hs := same_is (l.map vc) (by rw [List.length_map]; omega) (F + 1) (by rw [List.length_map]; omega)
      rw [cv_vc] at hs
      rw [hs, Option.bind_some, if_pos rfl, if_pos rfl]
      exact hj
    · rw [if_neg ce]
      exact hj
end Go.Proofs.YthjljkdiglpbaaaDoor.Pure
