/- Plain facts on records: all records of bytes, told by both; a list is the same as itself. -/
import Derived.Test.YthjljkdiglpbaaaDoorQRecs4
import Derived.Test.YthjljkdiglpbaaaDoorQRecs0
import Derived.Test.YthjljkdiglpbaaaDoorF11
namespace Go.Proofs.YthjljkdiglpbaaaDoor.Q
open Go.RowKit Go.Proofs.YthjljkdiglpbaaaDoor.P Go.Proofs.YthjljkdiglpbaaaDoorW.PrintWords Go.Proofs.YthjljkdiglpbaaaDoorW.PrintLast Go.Proofs.YthjljkdiglpbaaaDoorW.PrintMore Go.Proofs.YthjljkdiglpbaaaDoor.Hand
set_option linter.unusedVariables false
set_option linter.unusedSimpArgs false

/-- What a record's bytes come to. -/
def Heads (l : List Int) (x : SA) : Prop := ∃ h, Dec l h ∧ (h.length : Int) + 2 ≤ val 0 h ∧ val 0 h ≤ l.length ∧ mayE x.f0 x.f1 = 0 ∧ L (x.f0.size + x.f1.size + 3) = val 0 h ∧ Lib.bytesOf (segOf l (val 0 h).toNat h.length) = x.f0.data.toList ++ 61 :: (x.f1.data.toList ++ [10])
/-- A list of records is what bytes come to. -/
inductive Comes : List Int → List SA → Prop
  | nil : Comes [] []
  | cons (l : List Int) (x : SA) (n : Int) (xs : List SA) : Heads l x → n = L (x.f0.size + x.f1.size + 3) → Comes (l.drop n.toNat) xs → Comes l (x :: xs)
theorem parse_loop (l : List Int) (hb : Bytes l) (hl : l.length ≤ 30000) : ∀ (d at_ : Nat) (acc : List SA), at_ + d = l.length → acc.length ≤ at_ →
    ∃ (xs : List SA) (e : Int), xs.length ≤ 30000 ∧ ((e = 0 ∧ ∃ ys, xs = acc ++ ys ∧ Comes (l.drop at_) ys) ∨ (e ≠ 0 ∧ xs = [])) ∧ ∀ k, 61001 + d ≤ k → recs_Parse.l0 k (l.drop at_) acc = some (xs, e) ∧ thwartref06_Parse.l0 k l (acc.map cv) (at_ : Int) = some (xs.map cv, e) := by
  intro d
  induction d using Nat.strongRecOn with
  | ind d ih =>
    intro at_ acc hd hacc
    by_cases c0 : d = 0
    · refine ⟨acc, 0, by omega, .inl ⟨rfl, [], by simp, by rw [List.drop_of_length_le (by omega)]; exact .nil⟩, fun k hk => ?_⟩
      obtain ⟨k, rfl⟩ : ∃ m, k = m + 1 := ⟨k - 1, by omega⟩
      rw [recs_Parse.l0, thwartref06_Parse.l0, if_neg (by rw [List.length_drop]; omega), if_neg (by omega)]
      exact ⟨rfl, rfl⟩
    have hdl : (l.drop at_).length = d := by rw [List.length_drop]; omega
    obtain ⟨v, hv, hc⟩ := first_same (l.drop at_) (fun x hx => hb x (List.mem_of_mem_drop hx)) (by omega) (by omega)
    have step : ∀ k, 61000 ≤ k → recs_Parse.l0 (k + 1) (l.drop at_) acc = (if v.2.2.2 = 0 then (if acc.length < 4398046511104 then (if 0 ≤ v.2.2.1 then (if v.2.2.1 ≤ ((l.drop at_).length : Int) then recs_Parse.l0 k ((l.drop at_).drop v.2.2.1.toNat) (acc ++ [(⟨v.1, v.2.1⟩ : SA)]) else none) else none) else none) else some ([], v.2.2.2)) ∧
        thwartref06_Parse.l0 (k + 1) l (acc.map cv) (at_ : Int) = (if v.2.2.2 = 0 then (if (acc.map cv).length < 4398046511104 then thwartref06_Parse.l0 k l (acc.map cv ++ [(⟨v.1, v.2.1⟩ : SB)]) (wrap64 ((at_ : Int) + mx v.2.2.1 1)) else none) else some ([], v.2.2.2)) := by
      intro k hk
      obtain ⟨a, b⟩ := hv k hk
      refine ⟨?_, ?_⟩
      · rw [recs_Parse.l0, if_pos (by omega), a, Option.bind_some]
      · rw [thwartref06_Parse.l0, if_pos (by omega), if_pos (by omega), if_pos (by omega), Int.toNat_natCast, b, Option.bind_some]
    rcases hc with ⟨h0, h1, h2, h, hd1, hd2, hd3, hd4, hd5, hd6⟩ | ⟨hne, hn⟩
    · obtain ⟨n, hn⟩ := Int.eq_ofNat_of_zero_le (show 0 ≤ v.2.2.1 by omega)
      have hnd : n ≤ d := by omega
      obtain ⟨xs, e, hx, hcm, hk2⟩ := ih (d - n) (by omega) (at_ + n) (acc ++ [(⟨v.1, v.2.1⟩ : SA)]) (by omega) (by rw [List.length_append]; simp; omega)
      refine ⟨xs, e, hx, ?_, fun k hk => ?_⟩
      · rcases hcm with ⟨he, ys, hys, hcs⟩ | h
        · refine .inl ⟨he, (⟨v.1, v.2.1⟩ : SA) :: ys, by rw [hys]; simp, .cons _ _ v.2.2.1 _ ⟨h, hd1, hd3, by omega, hd4, hd5, hd6⟩ ?_ ?_⟩
          · rw [hd2]; exact hd5.symm
          · rw [hn, Int.toNat_natCast, List.drop_drop]; exact hcs
        · exact .inr h
      · obtain ⟨k, rfl⟩ : ∃ m, k = m + 1 := ⟨k - 1, by omega⟩
        obtain ⟨s1, s2⟩ := step k (by omega)
        obtain ⟨r1, r2⟩ := hk2 k (by omega)
        rw [s1, s2, if_pos h0, if_pos h0, if_pos (show acc.length < 4398046511104 by omega), if_pos (show 0 ≤ v.2.2.1 by omega), if_pos h2, if_pos (show (acc.map cv).length < 4398046511104 by rw [List.length_map]; omega), hn, Int.toNat_natCast, List.drop_drop]
        refine ⟨r1, ?_⟩
        rw [show mx (n : Int) 1 = (n : Int) by unfold mx; split <;> omega, wrap_id (by omega) (by omega), show ((at_ : Int) + (n : Int)) = ((at_ + n : Nat) : Int) by omega]
        rw [List.map_append] at r2
        exact r2
    · refine ⟨[], v.2.2.2, by simp, .inr ⟨hne, rfl⟩, fun k hk => ?_⟩
      obtain ⟨k, rfl⟩ : ∃ m, k = m + 1 := ⟨k - 1, by omega⟩
      obtain ⟨s1, s2⟩ := step k (by omega)
      rw [s1, s2, if_neg hne, if_neg hne]
      exact ⟨rfl, rfl⟩
theorem parse_same (l : List Int) (hb : Bytes l) (hl : l.length ≤ 30000) : ∃ (xs : List SA) (e : Int), xs.length ≤ 30000 ∧ ((e = 0 ∧ Comes l xs) ∨ (e ≠ 0 ∧ xs = [])) ∧ ∀ k, 100000 ≤ k → recs_Parse.f k l = some (xs, e) ∧ thwartref06_Parse.f k l = some (xs.map cv, e) := by
  obtain ⟨xs, e, h1, h2, h3⟩ := parse_loop l hb hl l.length 0 [] (by omega) (by simp)
  refine ⟨xs, e, h1, ?_, fun k hk => h3 k (by omega)⟩
  rcases h2 with ⟨he, ys, hy, hc⟩ | h
  · refine .inl ⟨he, ?_⟩
    rw [hy]; exact hc
  · exact .inr h
theorem same_go (xs : List SA) (hx : xs.length ≤ 100000) : ∀ (d k i : Nat), i + d = xs.length → d < k → thwartlaw06_same.l0 k xs (xs.map cv) (xs.length : Int) (i : Int) = some true := by
  intro d
  induction d with
  | zero =>
    intro k i hi hk
    obtain ⟨k, rfl⟩ : ∃ m, k = m + 1 := ⟨k - 1, by omega⟩
    rw [thwartlaw06_same.l0, if_neg (by omega)]
  | succ d ih =>
    intro k i hi hk
    obtain ⟨k, rfl⟩ : ∃ m, k = m + 1 := ⟨k - 1, by omega⟩
    have hr : rd_T43 (xs.map cv) (i : Int) = cv (rd_T45 xs (i : Int)) := by
      unfold rd_T43 rd_T45
      rw [Int.toNat_natCast, List.getD_eq_getElem?_getD, List.getD_eq_getElem?_getD, List.getElem?_map, List.getElem?_eq_getElem (by omega : i < xs.length)]
      rfl
    rw [thwartlaw06_same.l0, if_pos (by omega), if_pos (by omega), if_pos (by omega), if_pos (by rw [List.length_map]; omega), hr]
    rw [if_neg (by simp [cv]), wrap_small (by omega) (by omega), show ((i : Int) + 1) = ((i + 1 : Nat) : Int) by omega]
    exact ih k (i + 1) (by omega) (by omega)
theorem same_is (xs : List SA) (hx : xs.length ≤ 100000) (k : Nat) (hk : xs.length < k) : thwartlaw06_same.f k xs (xs.map cv) = some true := by
  unfold thwartlaw06_same.f
  rw [if_pos (by rw [List.length_map])]
  exact same_go xs hx xs.length k 0 (by omega) hk
end Go.Proofs.YthjljkdiglpbaaaDoor.Q
