/- The pure statement of StrfBack: what is laid is read, whatever its width; what is parted is joined. For every text and width. -/
import Derived.Test.YtpjanlpjjemenaaDoorF4
import Derived.Test.YtpjanlpjjemenaaDoorQLib
namespace Go.Proofs.YtpjanlpjjemenaaDoor.Pure
open Go.RowKit Go.Proofs.YtpjanlpjjemenaaDoor.P Go.Proofs.YtpjanlpjjemenaaDoor.Hand Go.Proofs.YtpjanlpjjemenaaDoor.Q Go.Proofs.YtpjanlpjjemenaaDoorW.PrintWords Go.Proofs.YtpjanlpjjemenaaDoorW.PrintLast

theorem alive02 : thwartlaw02_alive.f = some true := by decide +kernel

theorem put_get (s : ByteArray) (width : Int) (b : List Int) (e : Int) (h : strf_Put.f s width = some (b, e)) (h0 : e = 0) : strf_Get.f b = some (s, 0) ∧ (b.length : Int) = width := by
  unfold strf_Put.f at h
  split at h
  · cases h; cases h0
  split at h
  · cases h; cases h0
  split at h
  · cases h; cases h0
  split at h
  · cases h; cases h0
  rename_i c1 c2 c3 c4
  simp only [Option.some.injEq, Prod.mk.injEq] at h
  obtain ⟨rfl, -⟩ := h
  obtain ⟨n, rfl⟩ : ∃ n : Nat, width = (s.size : Int) + n := ⟨(width - s.size).toNat, by omega⟩
  have hz : (List.replicate ((s.size : Int) + n).toNat (0 : Int)).drop s.size = List.replicate n 0 := by
    rw [List.drop_replicate]; congr 1; omega
  rw [hz]
  have hbl : (bytesOf s).length = s.size := bytesOf_length s
  have hno : (0 : UInt8) ∉ s.data.toList := (index_none _ _).1 (by omega)
  have hb : Lib.bytesOf (bytesOf s ++ List.replicate n 0) = s.data.toList ++ List.replicate n 0 := by
    have := bytes_bytes s
    unfold Lib.bytesOf at this ⊢
    rw [List.map_append, this]; simp
  have ha : aheadOf (bytesOf s ++ List.replicate n 0) 0 = s.size := by
    unfold aheadOf
    rw [hb]
    cases n with
    | zero =>
      rw [List.replicate_zero, List.append_nil, if_neg (by have := (index_none s.data.toList 0).2 hno; omega)]
      simp [hbl]
    | succ n =>
      rw [List.replicate_succ, index_at _ _ _ hno, if_pos (by omega), szL]; simp
  refine ⟨?_, by rw [List.length_append, List.length_replicate, hbl]; omega⟩
  unfold strf_Get.f
  have hsk : ∀ m, skip 0 (List.replicate m 0) = [] := by
    intro m; induction m with
    | zero => rfl
    | succ m ih => rw [List.replicate_succ]; simp [skip, ih]
  rw [ha, List.drop_left' hbl, List.take_left' hbl, hsk, nums_bytes]
  rfl

theorem join_good (p a b : ByteArray) (hp : p.size ≤ 140737488351232) (h : p.data.toList = a.data.toList ++ 47 :: b.data.toList) (ha : a.data.toList ≠ []) : strf_Join.f a b = some p := by
  have hl := congrArg List.length h
  simp only [List.length_append, List.length_cons] at hl
  rw [← szL, ← szL, ← szL] at hl
  unfold strf_Join.f
  rw [if_neg (by rw [toL]; exact ha), if_pos (by omega), if_pos ?_]
  · congr 1
    apply ext_list
    rw [appL, appL, h, List.append_assoc]; rfl
  · rw [szL, appL, List.length_append, ← szL]; simp; omega

theorem StrfBack : thwartlaw02_StrfBack.Pure := by
  intro s width hs hw
  refine ⟨1, ?_⟩
  unfold thwartlaw02_StrfBack.f
  have hj : thwartlaw02_StrfBack.j0 1 s = some true ∨ 1000 < s.size := by
    by_cases hbig : 1000 < s.size
    · exact .inr hbig
    left
    obtain ⟨r, h1, h2⟩ := split_good s hs
    simp only [thwartlaw02_StrfBack.j0]
    rw [h1]; simp only [Option.bind_some]
    rcases h2 with ⟨rfl, h3, h4⟩ | ⟨h3, h2⟩
    · have hj : strf_Join.f (⟨#[]⟩ : ByteArray) s = some s := by
        unfold strf_Join.f; rw [if_pos (by rw [toL])]
      simp only [if_true, hj, Option.bind_some, alive02]
      rw [if_neg (by rw [toL]; exact h3), if_pos (by omega), if_pos (by decide), if_neg (by omega), if_pos (by rw [toL])]
    · obtain ⟨a, b, t⟩ := r
      rcases h2 with ⟨rfl, rfl, rfl⟩ | ⟨rfl, e1, e2, e3, e4, e5⟩
      · simp only [Bool.false_eq_true, if_false]
        rw [if_pos (by rw [toL]), if_pos (by rw [toL]), alive02]; rfl
      · have e6 : s.data.toList ≠ [] := by rw [e1]; simp
        have e7 : 100 < s.size := h3.elim (fun h => absurd h e6) id
        simp only [if_true] at e2 e3 e4 e5 ⊢
        rw [join_good s a b hs e1 e2]
        simp only [Option.bind_some, if_true, alive02]
        rw [if_neg (by rw [toL]; exact e4), if_pos (by omega), if_pos (by omega), if_pos (by omega)]
  by_cases hbig : (s.size : Int) > 1000
  · rw [if_pos hbig, alive02]; rfl
  rw [if_neg hbig]
  have hj1 : thwartlaw02_StrfBack.j0 1 s = some true := hj.resolve_right (by omega)
  obtain ⟨⟨b, e⟩, hp⟩ : ∃ r, strf_Put.f s width = some r := by
    unfold strf_Put.f; repeat' split
    all_goals exact ⟨_, rfl⟩
  rw [hp]; simp only [Option.bind_some]
  by_cases h0 : e = 0
  · obtain ⟨h1, h2⟩ := put_get s width b e hp h0
    rw [if_pos h0, h1]; simp only [Option.bind_some, if_true]
    rw [if_pos h2]; exact hj1
  · rw [if_neg h0]; exact hj1

end Go.Proofs.YtpjanlpjjemenaaDoor.Pure
