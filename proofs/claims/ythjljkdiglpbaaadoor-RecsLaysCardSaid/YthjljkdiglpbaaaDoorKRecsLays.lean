/- The pure statement of RecsLays: what the printed function tells. -/
import Derived.Test.YthjljkdiglpbaaaDoorF4
namespace Go.Proofs.YthjljkdiglpbaaaDoor.P
open Go.RowKit Go.Proofs.YthjljkdiglpbaaaDoorW.PrintWords
def thwartlaw06_RecsLays.Pure : Prop := ∀ (l0 : List P.S43) (a1 : ByteArray), l0.length ≤ 9223372036854775807 → (∀ x ∈ l0, (x.f0.size ≤ 9223372036854775807) ∧ (x.f1.size ≤ 9223372036854775807)) → (a1.size ≤ 140737488351232) → ∃ k, thwartlaw06_RecsLays.f k l0 a1 = some true
end Go.Proofs.YthjljkdiglpbaaaDoor.P
