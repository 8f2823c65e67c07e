/- The pure statement of PpathJoins: any text's parent and base, two joined, and what lies under another one, are told as the document says. For every two texts. -/
import Derived.Test.YtpjanlpjjemenaaDoorF10
import Derived.Test.YtpjanlpjjemenaaDoorQPpath2
import Derived.Test.YtpjanlpjjemenaaDoorPurePpathParts
namespace Go.Proofs.YtpjanlpjjemenaaDoor.Pure
open Go.RowKit Go.Proofs.YtpjanlpjjemenaaDoor.P Go.Proofs.YtpjanlpjjemenaaDoor.Hand Go.Proofs.YtpjanlpjjemenaaDoor.Q Go.Proofs.YtpjanlpjjemenaaDoor.Q5 Go.Proofs.YtpjanlpjjemenaaDoorW.PrintWords Go.Proofs.YtpjanlpjjemenaaDoorW.PrintLast
set_option linter.unusedVariables false
set_option linter.unusedSimpArgs false

theorem PpathJoins : thwartlaw04_PpathJoins.Pure := by
  intro s top hs ht
  refine ⟨3000, ?_⟩
  have hal : ∀ k, 100 ≤ k → ((thwartlaw04_alive.f k).bind fun t => some t) = some true := fun k hk => by rw [alive04_k k hk]; rfl
  unfold thwartlaw04_PpathJoins.f
  by_cases h1 : (s.size : Int) > 600
  · rw [if_pos h1, thwartlaw04_PpathJoins.j0, if_pos rfl, hal _ (by omega)]
  rw [if_neg h1]
  by_cases h2 : (top.size : Int) > 600
  · rw [decide_eq_true h2, thwartlaw04_PpathJoins.j0, if_pos rfl, hal _ (by omega)]
  rw [decide_eq_false h2, thwartlaw04_PpathJoins.j0, if_neg (by decide)]
  obtain ⟨r, r', e1, e2, e3, e4⟩ := rest_ref s top (by omega) (by omega)
  obtain ⟨p, b, p1, p2, p3⟩ := parent_base s (by omega)
  obtain ⟨j, j1, j2, j3⟩ := join_is top s (by omega) (by omega)
  unfold ppath_Under.f
  rw [parent_same s (by omega) _ (by omega), base_same s (by omega) _ (by omega), e1, e2, p1, p2, j1, j2]
  simp only [Option.bind_some]
  rw [if_pos trivial, if_pos trivial, if_pos trivial, toL, toL, if_pos e3, if_pos (by rw [e4]; simp), if_pos (by rw [e4]; simp), alive04_k _ (by omega)]; rfl
end Go.Proofs.YtpjanlpjjemenaaDoor.Pure
