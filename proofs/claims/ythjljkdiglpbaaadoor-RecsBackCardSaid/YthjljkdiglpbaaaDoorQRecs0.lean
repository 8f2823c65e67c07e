/- The probe of layer 6 answers true; the two kinds of records. -/
import Derived.Test.YthjljkdiglpbaaaDoorF8
namespace Go.Proofs.YthjljkdiglpbaaaDoor.Q
open Go.RowKit Go.Proofs.YthjljkdiglpbaaaDoor.P Go.Proofs.YthjljkdiglpbaaaDoorW.PrintWords Go.Proofs.YthjljkdiglpbaaaDoorW.PrintLast Go.Proofs.YthjljkdiglpbaaaDoorW.PrintMore Go.Proofs.YthjljkdiglpbaaaDoor.Hand
set_option linter.unusedVariables false
set_option linter.unusedSimpArgs false
abbrev SA := S45
abbrev SB := S43
def cv (x : SA) : SB := ⟨x.f0, x.f1⟩
theorem alive_at : thwartlaw06_alive.f 40 = some true := by decide +kernel
theorem alive_is (k : Nat) (hk : 40 ≤ k) : thwartlaw06_alive.f k = some true := by
  obtain ⟨j, rfl⟩ : ∃ j, k = 40 + j := ⟨k - 40, by omega⟩
  clear hk
  induction j with
  | zero => exact alive_at
  | succ j ih => exact thwartlaw06_alive.mono _ _ ih
end Go.Proofs.YthjljkdiglpbaaaDoor.Q
