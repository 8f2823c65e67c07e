/- The pure statement of PpathWhole: a path is its parent and its base, joined, and lies under its parent. For every two texts. -/
import Derived.Test.YtpjanlpjjemenaaDoorF11
import Derived.Test.YtpjanlpjjemenaaDoorQPpath2
import Derived.Test.YtpjanlpjjemenaaDoorPurePpathParts
namespace Go.Proofs.YtpjanlpjjemenaaDoor.Pure
open Go.RowKit Go.Proofs.YtpjanlpjjemenaaDoor.P Go.Proofs.YtpjanlpjjemenaaDoor.Hand Go.Proofs.YtpjanlpjjemenaaDoor.Q Go.Proofs.YtpjanlpjjemenaaDoor.Q5 Go.Proofs.YtpjanlpjjemenaaDoorW.PrintWords Go.Proofs.YtpjanlpjjemenaaDoorW.PrintLast
set_option linter.unusedVariables false
set_option linter.unusedSimpArgs false

theorem whole_rest (s top : ByteArray) (h1 : s.size ≤ 1000) (h2 : top.size ≤ 1000) (k : Nat) (hk : 200 ≤ k) : thwartlaw04_PpathWhole.j1 k s top false = some true := by
  obtain ⟨k, rfl⟩ : ∃ m, k = m + 1 := ⟨k - 1, by omega⟩
  have hal : ((thwartlaw04_alive.f k).bind fun t => some t) = some true := by rw [alive04_k k (by omega)]; rfl
  obtain ⟨r, e1, hc⟩ := rest_is s top h1 h2
  have hls := szL s
  have hlr := szL r.1
  rw [thwartlaw04_PpathWhole.j1, if_neg (by decide)]
  unfold ppath_Under.f
  rw [e1]
  simp only [Option.bind_some]
  rw [if_pos (show (r.2 == r.2) = true by simp), hal]
  by_cases ht : r.2 = true
  · rw [if_pos ht]
    have hsz : r.1.size ≤ 1000 := by
      rcases hc with ⟨_, e⟩ | ⟨_, ⟨_, e⟩ | ⟨e, _⟩⟩
      · rw [e]; exact h1
      · have := congrArg List.length e
        rw [List.length_append, List.length_cons] at this
        omega
      · rw [e] at ht; cases ht
    obtain ⟨j, j1, j2, j3⟩ := join_is top r.1 h2 hsz
    rw [j1]
    simp only [Option.bind_some]
    rw [toL, toL, toL]
    by_cases he : r.1.data.toList = []
    · rw [if_pos he]; simp
    · rw [if_pos]
      rcases hc with ⟨h0, e⟩ | ⟨h0, ⟨_, e⟩ | ⟨e, _⟩⟩
      · rcases j3 with ⟨_, e2⟩ | ⟨e2, _⟩
        · rw [e2, h0, e]; rfl
        · exact absurd h0 e2
      · rcases j3 with ⟨h | h, _⟩ | ⟨_, _, e2⟩
        · exact absurd h h0
        · exact absurd h he
        · rw [e2, e]
      · rw [e] at ht; cases ht
  · rw [if_neg ht]
theorem PpathWhole : thwartlaw04_PpathWhole.Pure := by
  intro s top hs ht
  refine ⟨3000, ?_⟩
  have hal : ∀ k, 100 ≤ k → ((thwartlaw04_alive.f k).bind fun t => some t) = some true := fun k hk => by rw [alive04_k k hk]; rfl
  unfold thwartlaw04_PpathWhole.f
  by_cases h1 : (s.size : Int) > 600
  · rw [if_pos h1, thwartlaw04_PpathWhole.j0, if_pos rfl, hal _ (by omega)]
  rw [if_neg h1]
  by_cases h2 : (top.size : Int) > 600
  · rw [decide_eq_true h2, thwartlaw04_PpathWhole.j0, if_pos rfl, hal _ (by omega)]
  rw [decide_eq_false h2, thwartlaw04_PpathWhole.j0, if_neg (by decide)]
  unfold ppath_May.f
  rw [parts_is]
  simp only [Option.bind_some]
  unfold partsOf
  by_cases hm' : ¬ (s.size ≤ 300 ∧ allOk (pieces 47 s) = true)
  · rw [if_neg hm', if_neg (by decide), whole_rest s top (by omega) (by omega) _ (by omega)]
  have hm := Decidable.of_not_not hm'
  rw [if_pos hm, if_pos (show ((pieces 47 s, (0 : Int)).snd == 0) = true from rfl)]
  have hall : ∀ x ∈ pl s.data.toList, isName x = true := by
    rw [← pieces_pl s.size s (Nat.le_refl _)]
    intro x hx
    obtain ⟨y, hy, rfl⟩ := List.mem_map.1 hx
    exact List.all_eq_true.1 hm.2 y hy
  have hno : isName [] = false := by decide
  obtain ⟨p, b, p1, p2, p3⟩ := parent_base s (by omega)
  have hls := szL s
  have hlp := szL p
  have hlb := szL b
  have hps : p.size ≤ 1000 ∧ b.size ≤ 1000 := by
    rcases p3 with ⟨a1, a2, _⟩ | ⟨a1, _⟩
    · have h0 : p.data.toList.length = 0 := by rw [a1]; rfl
      rw [a2]; omega
    · have := congrArg List.length a1
      rw [List.length_append, List.length_cons] at this
      omega
  have hb : isName b.data.toList = true := by
    rcases p3 with ⟨a1, a2, a3⟩ | ⟨a1, a2⟩
    · rw [a2]; exact hall _ (by rw [pl_one _ a3]; simp)
    · exact hall _ (by rw [a1, pl_app, pl_one _ a2]; simp)
  have hb0 : b.data.toList ≠ [] := fun e => by rw [e, hno] at hb; cases hb
  have hp0 : ∀ q, s.data.toList = p.data.toList ++ 47 :: q → p.data.toList ≠ [] := fun q e h => by
    have := hall [] (by rw [e, h, pl_app]; simp [pl])
    rw [hno] at this; cases this
  obtain ⟨j, j1, j2, j3⟩ := join_is p b hps.1 hps.2
  obtain ⟨r, r1, r2⟩ := rest_is s p (by omega) hps.1
  have hj : j.data.toList = s.data.toList := by
    rcases p3 with ⟨a1, a2, a3⟩ | ⟨a1, a2⟩
    · rcases j3 with ⟨_, e⟩ | ⟨e, _⟩
      · rw [e, a1, a2]; rfl
      · exact absurd a1 e
    · rcases j3 with ⟨e | e, _⟩ | ⟨_, _, e⟩
      · exact absurd e (hp0 _ a1)
      · exact absurd e hb0
      · rw [e, a1]
  have hr : r.2 = true := by
    rcases r2 with ⟨a1, e⟩ | ⟨a1, ⟨e, _⟩ | ⟨_, e⟩⟩
    · rw [e]
      rcases p3 with ⟨_, a2, _⟩ | ⟨a2, _⟩
      · rw [← a2]; exact bne_iff_ne.2 hb0
      · exact absurd a1 (hp0 _ a2)
    · exact e
    · rcases p3 with ⟨a2, _⟩ | ⟨a2, _⟩
      · exact absurd a2 a1
      · exact absurd ⟨_, a2⟩ e
  unfold ppath_Under.f
  rw [p1, p2]
  simp only [Option.bind_some]
  rw [j1, r1]
  simp only [Option.bind_some]
  rw [toL, toL, if_pos hj, if_pos hr, name_is b hps.2 2999 (by omega), hb]
  exact whole_rest s top (by omega) (by omega) 2999 (by omega)
end Go.Proofs.YtpjanlpjjemenaaDoor.Pure
