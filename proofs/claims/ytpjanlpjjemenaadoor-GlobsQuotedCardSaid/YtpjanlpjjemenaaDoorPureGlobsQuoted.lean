/- The pure statement of GlobsQuoted: a path matches itself quoted, if that may be, and no other path does; a path that matches has as many bytes as the pattern asks. For every three texts. -/
import Derived.Test.YtpjanlpjjemenaaDoorF12
import Derived.Test.YtpjanlpjjemenaaDoorQGlobs4
namespace Go.Proofs.YtpjanlpjjemenaaDoor.Pure
open Go.RowKit Go.Proofs.YtpjanlpjjemenaaDoor.P Go.Proofs.YtpjanlpjjemenaaDoor.Hand Go.Proofs.YtpjanlpjjemenaaDoor.Q Go.Proofs.YtpjanlpjjemenaaDoor.Q5 Go.Proofs.YtpjanlpjjemenaaDoor.Q6 Go.Proofs.YtpjanlpjjemenaaDoorW.PrintWords Go.Proofs.YtpjanlpjjemenaaDoorW.PrintLast
set_option linter.unusedVariables false
set_option linter.unusedSimpArgs false

theorem quoted_end (k : Nat) (hk : 550000000 ≤ k) (s p : ByteArray) : thwartlaw34_GlobsQuoted.j1 k s p false = some true := by
  obtain ⟨k, rfl⟩ : ∃ m, k = m + 1 := ⟨k - 1, by omega⟩
  have hal : ((thwartlaw34_alive.f k).bind fun t => some t) = some true := by rw [alive34_k k (by omega)]; rfl
  obtain ⟨r, r1, r2⟩ := match_least k (by omega) p s
  rw [thwartlaw34_GlobsQuoted.j1, if_neg (by decide), r1, Option.bind_some]
  cases r with
  | false => rw [if_neg (by decide), hal]
  | true =>
    obtain ⟨n, n1, n2⟩ := r2 rfl
    rw [if_pos rfl, n1, Option.bind_some, if_pos n2, hal]
theorem GlobsQuoted : thwartlaw34_GlobsQuoted.Pure := by
  intro s o p hs ho hp
  refine ⟨560000000 + 1, ?_⟩
  have hal : ((thwartlaw34_alive.f 560000000).bind fun t => some t) = some true := by rw [alive34_k _ (by decide)]; rfl
  unfold thwartlaw34_GlobsQuoted.f
  by_cases h1 : (s.size : Int) > 320
  · rw [if_pos h1, thwartlaw34_GlobsQuoted.j0, if_pos rfl, hal]
  rw [if_neg h1]
  by_cases h2 : (o.size : Int) > 320
  · rw [if_pos h2, thwartlaw34_GlobsQuoted.j0, if_pos rfl, hal]
  rw [if_neg h2]
  by_cases h3 : (p.size : Int) > 320
  · rw [if_pos h3, thwartlaw34_GlobsQuoted.j0, if_pos rfl, hal]
  rw [if_neg h3]
  obtain ⟨b, hb⟩ := many_told p (by omega) (560000000 + 1) (by decide)
  rw [hb, Option.bind_some, thwartlaw34_GlobsQuoted.j0]
  cases b with
  | true => rw [if_pos rfl, hal]
  | false =>
  have hend := quoted_end 560000000 (by decide) s p
  obtain ⟨q, q1, q2⟩ := quote_is s (by omega) 560000000 (Nat.lt_of_le_of_lt (show s.size ≤ 1000 by omega) (by decide))
  rw [if_neg (by decide), q1, Option.bind_some, parts_ref s (by omega) 560000000 (by decide), Option.bind_some]
  by_cases hpath : (partsOf s).2 = 0
  · have hpa := (path_zero s).1 hpath
    rw [if_pos hpath]
    obtain ⟨e, e1, e2⟩ := check_told q
    rw [e1, Option.bind_some]
    by_cases he : e = 0
    · subst he
      rw [if_pos rfl, match_quote _ (by decide) q s s q2 e1 (by omega) hpa, Option.bind_some, if_pos (by simp)]
      rw [least_quote q s q2 e1 (by omega)]
      have hne : ((s.size : Int) != (s.size : Int)) = false := by simp
      by_cases hso : s.toList = o.toList
      · rw [if_pos hso, Option.bind_some, hne, hend]
      · rw [if_neg hso]
        have hf : globs_Match.f 560000000 q o = some false := by
          by_cases hop : isPath o
          · rw [match_quote _ (by decide) q s o q2 e1 (by omega) hop, decide_eq_false (fun h => hso (by rw [toL, toL, h]))]
          · exact match_no 559999999 q o (.inl hop)
        rw [hf, Option.bind_some, if_neg (by decide), Option.bind_some, hne, hend]
    · rw [if_neg he, hend]
  · rw [if_neg hpath, hend]
end Go.Proofs.YtpjanlpjjemenaaDoor.Pure
