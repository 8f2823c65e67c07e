/- The pure statement of RecsParses: the records of any bytes, told by both, are the same. For every list of bytes. -/
import Derived.Test.YthjljkdiglpbaaaDoorF3
import Derived.Test.YthjljkdiglpbaaaDoorQRecs5
namespace Go.Proofs.YthjljkdiglpbaaaDoor.Pure
open Go.RowKit Go.Proofs.YthjljkdiglpbaaaDoor.P Go.Proofs.YthjljkdiglpbaaaDoor.Hand Go.Proofs.YthjljkdiglpbaaaDoor.Q Go.Proofs.YthjljkdiglpbaaaDoorW.PrintWords Go.Proofs.YthjljkdiglpbaaaDoorW.PrintLast
set_option linter.unusedSimpArgs false
theorem RecsParses : P.thwartlaw06_RecsParses.Pure := by
  intro l0 _ _ hw
  refine ⟨30000, ?_⟩
  unfold thwartlaw06_RecsParses.f
  have ha := alive_is 30000 (by omega)
  by_cases c : (l0.length : Int) > 6000
  · rw [if_pos c, ha]; rfl
  have hb : Bytes l0 := by
    intro x hx
    have := hw x hx
    simp only [Lit.wf, IntKind.min, IntKind.max, IntKind.signed, IntKind.bits, Bool.and_eq_true, decide_eq_true_eq] at this
    simp at this
    omega
  obtain ⟨xs, e, h1, _, h3⟩ := parse_same l0 hb (by omega)
  obtain ⟨a, b⟩ := h3 30000 (by omega)
  rw [if_neg c, a, Option.bind_some, b, Option.bind_some]
  dsimp only
  rw [same_is xs (by omega) 30000 (by omega), Option.bind_some, if_pos rfl, if_pos rfl, ha]
  rfl
end Go.Proofs.YthjljkdiglpbaaaDoor.Pure
