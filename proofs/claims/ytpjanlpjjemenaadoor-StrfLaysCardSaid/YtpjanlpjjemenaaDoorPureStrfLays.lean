/- The pure statement of StrfLays: any text laid in any width, and the text of any field, are the document's, or refused. For every text, width and bytes. -/
import Derived.Test.YtpjanlpjjemenaaDoorF3
import Derived.Test.YtpjanlpjjemenaaDoorQEv
namespace Go.Proofs.YtpjanlpjjemenaaDoor.Pure
open Go.RowKit Go.Proofs.YtpjanlpjjemenaaDoor.P Go.Proofs.YtpjanlpjjemenaaDoor.Hand Go.Proofs.YtpjanlpjjemenaaDoor.Q Go.Proofs.YtpjanlpjjemenaaDoorW.PrintWords Go.Proofs.YtpjanlpjjemenaaDoorW.PrintLast

theorem alive02 : thwartlaw02_alive.f = some true := by decide +kernel

theorem refPut (s : ByteArray) (width : Int) (hs : s.size ≤ 1000) (k : Nat) (hk : 1005 ≤ k) : thwartref02_Put.f k s width = strf_Put.f s width := by
  obtain ⟨k, rfl⟩ : ∃ m, k = m + 1 := ⟨k - 1, by omega⟩
  have hlen := firstAt_le s.data.toList 0
  unfold thwartref02_Put.f strf_Put.f
  by_cases c1 : width < 1
  · rw [if_pos c1, if_pos c1]; simp [thwartref02_Put.j0]
  rw [if_neg c1, if_neg c1]
  by_cases c2 : 512 < width
  · rw [if_pos c2]; simp [thwartref02_Put.j0, c2]
  rw [if_neg c2]
  have hd : decide (width > 512) = false := decide_eq_false c2
  simp only [thwartref02_Put.j0]
  rw [hd, if_neg (by decide), zero_is s (by omega) k (by omega)]
  simp only [Option.bind_some]
  by_cases c3 : 0 ≤ Lib.indexByte s.data.toList 0
  · have := indexByte_lt s.data.toList 0
    have e : firstAt s.data.toList 0 = (Lib.indexByte s.data.toList 0).toNat := by unfold firstAt; rw [if_pos c3]
    rw [if_pos c3, if_pos (by rw [e, szL]; omega)]
  · have e : firstAt s.data.toList 0 = s.data.toList.length := by unfold firstAt; rw [if_neg c3]
    rw [if_neg c3, if_neg (by rw [e, szL]; omega)]
    by_cases c4 : width < (s.size : Int)
    · rw [if_pos c4, if_pos c4]
    · rw [if_neg c4, if_pos (by omega), if_pos (by omega), if_neg c4]
      have := put_loop s hs s.size k 0 (List.replicate width.toNat 0) (Nat.zero_le _) (by omega) (by omega) (by rw [List.length_replicate]; omega) (by simp)
      exact this

theorem refLoose (l : List Int) (hl : l.length ≤ 1000) (k : Nat) (hk : 1005 ≤ k) : thwartref02_Loose.f k l = strf_Loose.f l := by
  unfold thwartref02_Loose.f strf_Loose.f
  have hz : (strOfNums l).size = l.length := strOfNums_size l
  have hd : (strOfNums l).data.toList = Lib.bytesOf l := rfl
  have hle := firstAt_le (Lib.bytesOf l) 0
  rw [Lib.bytesOf_length] at hle
  rw [zero_is _ (by omega) k (by omega), hd]
  simp only [Option.bind_some]
  rw [if_pos (by omega), if_pos (by omega), aheadOf_first, Int.toNat_natCast]
  congr 1
  apply ext_list
  rw [extL, List.drop_zero, Nat.sub_zero, numsL, numsL]
  unfold Lib.bytesOf
  rw [List.map_take]

theorem get_loop (l : List Int) (s : ByteArray) (hl : l.length ≤ 1000) (d : Nat) : ∀ (k i : Nat), i ≤ l.length → l.length - i = d → d < k →
    thwartref02_Get.l0 k l s (i : Int) = if 0 < (skip 0 (l.drop i)).length then some (⟨#[]⟩, 3) else some (s, 0) := by
  induction d with
  | zero =>
    intro k i h1 hd hk
    obtain ⟨k, rfl⟩ : ∃ m, k = m + 1 := ⟨k - 1, by omega⟩
    simp only [thwartref02_Get.l0]
    rw [if_neg (by omega), List.drop_of_length_le (by omega)]; rfl
  | succ d ih =>
    intro k i h1 hd hk
    obtain ⟨k, rfl⟩ : ∃ m, k = m + 1 := ⟨k - 1, by omega⟩
    have hi : i < l.length := by omega
    have hr : rd l (i : Int) = l[i] := by simp [rd, List.getD_eq_getElem?_getD, hi]
    simp only [thwartref02_Get.l0]
    rw [if_pos (by omega), if_pos (by omega), hr, List.drop_eq_getElem_cons hi]
    by_cases e : l[i] = 0
    · rw [if_pos e, show skip 0 (l[i] :: l.drop (i + 1)) = skip 0 (l.drop (i + 1)) by simp [skip, e], Q.wrap_small (by omega) (by omega), show ((i : Int) + 1) = ((i + 1 : Nat) : Int) by omega]
      exact ih k (i + 1) (by omega) (by omega) (by omega)
    · rw [if_neg e, show skip 0 (l[i] :: l.drop (i + 1)) = l[i] :: l.drop (i + 1) by simp [skip, e], if_pos (by simp only [List.length_cons]; omega)]

theorem refGet (l : List Int) (hl : l.length ≤ 1000) (k : Nat) (hk : 1005 ≤ k) : thwartref02_Get.f k l = strf_Get.f l := by
  unfold thwartref02_Get.f
  rw [refLoose l hl k hk]
  have hle := aheadOf_le l 0
  have hz : (strOfNums (l.take (aheadOf l 0))).size = aheadOf l 0 := by rw [Hand.strOfNums_size, List.length_take]; omega
  simp only [strf_Loose.f, Option.bind_some]
  rw [hz, get_loop l _ hl (l.length - aheadOf l 0) k _ hle rfl (by omega)]
  rfl

theorem StrfLays : thwartlaw02_StrfLays.Pure := by
  intro s width l hs hw hm hb hr
  refine ⟨1006, ?_⟩
  unfold thwartlaw02_StrfLays.f
  by_cases c1 : (s.size : Int) > 1000
  · rw [if_pos c1]; simp [thwartlaw02_StrfLays.j0, alive02]
  rw [if_neg c1]
  by_cases c2 : (l.length : Int) > 1000
  · rw [show decide ((l.length : Int) > 1000) = true from decide_eq_true c2]; simp [thwartlaw02_StrfLays.j0, alive02]
  rw [show decide ((l.length : Int) > 1000) = false from decide_eq_false c2]
  simp only [thwartlaw02_StrfLays.j0]
  rw [if_neg (by decide), refPut s width (by omega) 1005 (by omega), refGet l (by omega) 1005 (by omega), refLoose l (by omega) 1005 (by omega)]
  obtain ⟨⟨b, e⟩, hp, hbl⟩ : ∃ r, strf_Put.f s width = some r ∧ r.1.length ≤ 1000 := by
    unfold strf_Put.f
    split
    · exact ⟨_, rfl, by simp⟩
    split
    · exact ⟨_, rfl, by simp⟩
    split
    · exact ⟨_, rfl, by simp⟩
    split
    · exact ⟨_, rfl, by simp⟩
    · refine ⟨_, rfl, ?_⟩
      simp only [List.length_append, List.length_drop, List.length_replicate]
      rw [show (bytesOf s).length = s.size from bytesOf_length s]; omega
  obtain ⟨⟨x, g⟩, hg⟩ : ∃ r, strf_Get.f l = some r := by
    unfold strf_Get.f; split <;> exact ⟨_, rfl⟩
  rw [hp, hg]
  simp only [Option.bind_some, strf_Loose.f]
  rw [same_self b (by simp only at hbl; omega) 1005 (by simp only at hbl; omega)]
  simp only [Option.bind_some, if_true, alive02]

end Go.Proofs.YtpjanlpjjemenaaDoor.Pure
