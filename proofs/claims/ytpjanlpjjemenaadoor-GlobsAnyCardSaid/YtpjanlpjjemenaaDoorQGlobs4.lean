/- Plain facts on patterns, on: Match, Least and the small laws' helpers, told whole. -/
import Derived.Test.YtpjanlpjjemenaaDoorQGlobs3
import Derived.Test.YtpjanlpjjemenaaDoorF52
import Derived.Test.YtpjanlpjjemenaaDoorF53
namespace Go.Proofs.YtpjanlpjjemenaaDoor.Q6
open Go.RowKit Go.Proofs.YtpjanlpjjemenaaDoor.P Go.Proofs.YtpjanlpjjemenaaDoor.Hand Go.Proofs.YtpjanlpjjemenaaDoor.Q Go.Proofs.YtpjanlpjjemenaaDoor.Q5 Go.Proofs.YtpjanlpjjemenaaDoorW.PrintWords Go.Proofs.YtpjanlpjjemenaaDoorW.PrintLast
set_option linter.unusedVariables false
set_option linter.unusedSimpArgs false

set_option maxRecDepth 100000 in
theorem alive34 : thwartlaw34_alive.f 400 = some true := by decide +kernel
theorem alive34_k (k : Nat) (hk : 400 ≤ k) : thwartlaw34_alive.f k = some true := by
  obtain ⟨d, rfl⟩ : ∃ d, k = 400 + d := ⟨k - 400, by omega⟩
  clear hk
  induction d with
  | zero => exact alive34
  | succ d ih => exact thwartlaw34_alive.mono (400 + d) true ih
theorem many_loop (l : List ByteArray) (hl : l.length ≤ 1000) (d : Nat) : ∀ (k i : Nat) (n : Int), i + d = l.length → d < k → ∃ b, thwartlaw34_many.l0 k n l (l.length : Int) i = some b := by
  induction d with
  | zero =>
    intro k i n h1 h2
    obtain ⟨k, rfl⟩ : ∃ m, k = m + 1 := ⟨k - 1, by omega⟩
    exact ⟨_, by rw [thwartlaw34_many.l0, if_neg (by omega)]⟩
  | succ d ih =>
    intro k i n h1 h2
    obtain ⟨k, rfl⟩ : ∃ m, k = m + 1 := ⟨k - 1, by omega⟩
    rw [thwartlaw34_many.l0, if_pos (by omega), if_pos (by omega), if_pos (by omega), wrap_id (i := (i : Int) + 1) (by omega) (by omega), show ((i : Int) + 1) = ((i + 1 : Nat) : Int) by omega]
    split
    · exact ih k (i + 1) _ (by omega) (by omega)
    · exact ih k (i + 1) _ (by omega) (by omega)
theorem many_told (s : ByteArray) (hs : s.size ≤ 900) (k : Nat) (hk : 2000 ≤ k) : ∃ b, thwartlaw34_many.f k s = some b := by
  unfold thwartlaw34_many.f
  have hp := pieces_len 47 s
  rw [cut_is s (by omega) k (by omega), Option.bind_some]
  exact many_loop (pieces 47 s) (by omega) (pieces 47 s).length k 0 0 (by omega) (by omega)

/-- Is this text a path? -/
def isPath (s : ByteArray) : Prop := s.size ≤ 300 ∧ allOk (pieces 47 s) = true
theorem path_parts (s : ByteArray) (h : isPath s) : partsOf s = (pieces 47 s, 0) := by unfold partsOf; exact if_pos h
theorem path_not (s : ByteArray) (h : ¬ isPath s) : partsOf s = ([], 8) := by unfold partsOf; exact if_neg h
theorem path_zero (s : ByteArray) : (partsOf s).2 = 0 ↔ isPath s := by
  by_cases h : isPath s
  · rw [path_parts s h]; exact ⟨fun _ => h, fun _ => rfl⟩
  · rw [path_not s h]; exact ⟨fun e => absurd e (by decide), fun e => absurd e h⟩
theorem path_names (s : ByteArray) (h : isPath s) : ∀ x ∈ pl s.data.toList, isName x = true := by
  rw [← pieces_pl s.size s (Nat.le_refl _)]
  intro x hx
  obtain ⟨y, hy, rfl⟩ := List.mem_map.1 hx
  exact List.all_eq_true.1 h.2 y hy
theorem match_no (k : Nat) (p s : ByteArray) (h : ¬ isPath s ∨ ∃ e, globs_Check.f p = some e ∧ e ≠ 0) : globs_Match.f (k + 1) p s = some false := by
  unfold globs_Match.f
  rw [parts_is, Option.bind_some]
  by_cases hs : isPath s
  · rw [path_parts s hs, if_pos rfl]
    rcases h with h | ⟨e, h1, h2⟩
    · exact absurd hs h
    · rw [h1, Option.bind_some, globs_Match.j0, if_pos (bne_iff_ne.2 h2)]
  · rw [path_not s hs, if_neg (by decide), globs_Match.j0, if_pos rfl]
theorem match_yes (k : Nat) (p s : ByteArray) (hs : isPath s) (hc : globs_Check.f p = some 0) : globs_Match.f (k + 1) p s = globs_match.f k (pieces 47 p) (pieces 47 s) := by
  have hp : p.size ≤ 300 := by
    obtain ⟨e, e1, e2⟩ := check_told p
    rw [hc] at e1
    exact (e2 (Option.some.inj e1).symm).1
  unfold globs_Match.f
  rw [parts_is, Option.bind_some, path_parts s hs, if_pos rfl, hc, Option.bind_some, globs_Match.j0, if_neg (by decide)]
  unfold strings_Split.f
  rw [if_pos (by omega)]
  show ((some (pieces 47 p)).bind fun t => (globs_match.f k t (pieces 47 s)).bind fun t => some t) = _
  rw [Option.bind_some]
  cases globs_match.f k (pieces 47 p) (pieces 47 s) <;> rfl
/-- A path that matches has as many bytes as are asked. -/
theorem match_least (k : Nat) (hk : 540000000 ≤ k) (p s : ByteArray) : ∃ r, globs_Match.f k p s = some r ∧ (r = true → ∃ n, globs_Least.f p = some n ∧ n ≤ s.size) := by
  obtain ⟨k, rfl⟩ : ∃ m, k = m + 1 := ⟨k - 1, by omega⟩
  obtain ⟨e, e1, e2⟩ := check_told p
  by_cases he : e = 0
  · subst he
    obtain ⟨hp, ha⟩ := e2 rfl
    by_cases hs : isPath s
    · rw [match_yes k p s hs e1]
      have t1 := tot_pieces p
      have t2 := tot_pieces s
      have t3 := tot_len (pieces 47 p)
      have hs1 := hs.1
      obtain ⟨W, hW⟩ := needm_is (pieces 47 p) (-1) (by omega) (by omega) ha
      have hmu : matchMu (pieces 47 p) [] [] false < 64482000 := by
        rw [matchMu_f]
        exact Nat.lt_of_le_of_lt (Nat.add_le_add_left (Nat.le_trans t3 (show tot (pieces 47 p) ≤ 400 by omega)) 64481201) (by decide)
      obtain ⟨r, r1, r2⟩ := match_told W s.size 64482000 (pieces 47 p) (pieces 47 s) [] [] false k (-1) 0 hW (by omega) (by omega) (by omega) (by omega) (fun h => by cases h) hmu (Nat.le_trans (by decide) (show 530000000 ≤ k by omega))
      refine ⟨r, r1, fun h => ⟨mx W 0, ?_, ?_⟩⟩
      · unfold globs_Least.f
        rw [e1, Option.bind_some, if_pos rfl, if_pos hp, hW.2.2.2]; rfl
      · have := r2 h
        unfold mx
        split <;> omega
    · exact ⟨false, match_no k p s (.inl hs), fun h => by cases h⟩
  · exact ⟨false, match_no k p s (.inr ⟨e, e1, he⟩), fun h => by cases h⟩
/-- What a quoted path matches. -/
theorem match_quote (k : Nat) (hk : 10000 ≤ k) (q s o : ByteArray) (hq : q.data.toList = qt s.data.toList) (hc : globs_Check.f q = some 0) (hs : s.size ≤ 900) (ho : isPath o) :
    globs_Match.f k q o = some (decide (o.data.toList = s.data.toList)) := by
  obtain ⟨k, rfl⟩ : ∃ m, k = m + 1 := ⟨k - 1, by omega⟩
  rw [match_yes k q o ho hc]
  unfold globs_match.f
  have ht := totL_pl s.data.toList
  have hl : (pl s.data.toList).length ≤ totL (pl s.data.toList) := by
    have := tot_len (pieces 47 s)
    rw [tot_map, pieces_pl s.size s (Nat.le_refl _)] at this
    have h2 := congrArg List.length (pieces_pl s.size s (Nat.le_refl _))
    rw [List.length_map] at h2
    omega
  have hsz := szL s
  rw [match_qt (pl s.data.toList) (pieces 47 q) (pieces 47 o) [] [] k (by rw [pieces_pl q.size q (Nat.le_refl _), hq, pl_qt]) (by omega) (by omega), pieces_pl o.size o (Nat.le_refl _)]
  congr 1
  rw [decide_eq_decide]
  constructor
  · intro h; rw [← jn_pl o.data.toList, ← jn_pl s.data.toList, h]
  · intro h; rw [h]
theorem sum_qt (ns : List (List UInt8)) : ∀ (ps : List ByteArray) (n : Int), (ps.map fun x => x.data.toList) = ns.map qt → -1 ≤ n → n + totL ns ≤ 900 → totL ns ≤ 900 → sumParts n ps = some (n + totL ns) := by
  induction ns with
  | nil =>
    intro ps n hp h1 h2 h3
    obtain rfl : ps = [] := List.map_eq_nil_iff.1 hp
    rw [sumParts, totL]; simp
  | cons x ns ih =>
    intro ps n hp h1 h2 h3
    rw [totL] at h2 h3
    cases ps with
    | nil => cases hp
    | cons p ps =>
    obtain ⟨e1, e2⟩ : p.data.toList = qt x ∧ _ := List.cons.inj hp
    have hf : globs_isPart.f 1000 p = some (0 + (x.length : Int), p.toList != ([] : List UInt8)) := by
      unfold globs_isPart.f
      exact part_qt x p 1000 0 _ e1 (by omega) (by omega) (by omega)
    rw [sumParts, if_neg (fun h => by rw [toL, e1] at h; exact qt_star _ _ h), hf, Option.bind_some]
    show sumParts (wrap64 (n + wrap64 (0 + (x.length : Int) + 1))) ps = _
    rw [wrap_id (i := 0 + (x.length : Int) + 1) (by omega) (by omega), wrap_id (by omega) (by omega), ih ps _ e2 (by omega) (by omega) (by omega), totL]
    congr 1
    omega
theorem least_quote (q s : ByteArray) (hq : q.data.toList = qt s.data.toList) (hc : globs_Check.f q = some 0) (hs : s.size ≤ 800) : globs_Least.f q = some (s.size : Int) := by
  obtain ⟨e, e1, e2⟩ := check_told q
  rw [hc] at e1
  have hqs := (e2 (Option.some.inj e1).symm).1
  have ht := totL_pl s.data.toList
  have hsz := szL s
  unfold globs_Least.f
  rw [hc, Option.bind_some, if_pos rfl, if_pos hqs, sum_qt (pl s.data.toList) (pieces 47 q) (-1) (by rw [pieces_pl q.size q (Nat.le_refl _), hq, pl_qt]) (by omega) (by omega) (by omega), Option.bind_some]
  congr 1
  unfold mx
  split <;> omega
end Go.Proofs.YtpjanlpjjemenaaDoor.Q6
