/- The pure statement of RecsBack: what the printed function tells. -/
import Derived.Test.YthjljkdiglpbaaaDoorF5
namespace Go.Proofs.YthjljkdiglpbaaaDoor.P
open Go.RowKit Go.Proofs.YthjljkdiglpbaaaDoorW.PrintWords
def thwartlaw06_RecsBack.Pure : Prop := ∀ (l0 : List P.S43) (l1 : List Int), l0.length ≤ 9223372036854775807 → (∀ x ∈ l0, (x.f0.size ≤ 9223372036854775807) ∧ (x.f1.size ≤ 9223372036854775807)) → l1.length ≤ 9223372036854775807 → (∀ x ∈ l1, (Lit.int .u8 x).wf = true) → ∃ k, thwartlaw06_RecsBack.f k l0 l1 = some true
end Go.Proofs.YthjljkdiglpbaaaDoor.P
