/- The pure statement of HsumAlone: the sum does not hang on the eight bytes that tell it; all else being the same, it grows as a byte does. For every input. -/
import Derived.Test.YtpjanlpjjemenaaDoorF7
import Derived.Test.YtpjanlpjjemenaaDoorPureHsumFinds
namespace Go.Proofs.YtpjanlpjjemenaaDoor.Pure
open Go.RowKit Go.Proofs.YtpjanlpjjemenaaDoor.P Go.Proofs.YtpjanlpjjemenaaDoor.Hand Go.Proofs.YtpjanlpjjemenaaDoor.Q3 Go.Proofs.YtpjanlpjjemenaaDoorW.PrintWords Go.Proofs.YtpjanlpjjemenaaDoorW.PrintLast

theorem S_mid (b c : List Int) (hb : b.length = 512) (hc : c.length = 8) : S (mid8 b c) = S b := by
  unfold S mid8
  have h1 : (b.take 148 ++ c ++ b.drop 156).take 148 = b.take 148 := by
    rw [List.append_assoc, List.take_append_of_le_length (by rw [List.length_take]; omega), List.take_take]; rfl
  have h2 : (b.take 148 ++ c ++ b.drop 156).drop 156 = b.drop 156 := List.drop_left' (by rw [List.length_append, List.length_take, hc]; omega)
  rw [h1, h2]
theorem mid_bytes (b c : List Int) (hb : Bytes b) (hc : Bytes c) : Bytes (mid8 b c) := by
  intro x hx
  unfold mid8 at hx
  rcases List.mem_append.1 hx with hx | hx
  · rcases List.mem_append.1 hx with hx | hx
    · exact hb x (List.mem_of_mem_take hx)
    · exact hc x hx
  · exact hb x (List.mem_of_mem_drop hx)
theorem S_in (l : List Int) (i : Nat) (h1 : 148 ≤ i) (h2 : i < 156) (v : Int) : S (l.set i v) = S l := by
  unfold S
  rw [List.take_set_of_le h1, List.drop_set_of_lt h2]
theorem HsumAlone (s o : List Int) (a by_ : Int) (hws : ∀ x ∈ s, (Lit.int .u8 x).wf = true) (hwo : ∀ x ∈ o, (Lit.int .u8 x).wf = true) (hwa : (Lit.int .u16 a).wf = true) (hwb : (Lit.int .u8 by_).wf = true) :
    ∃ k, thwartlaw03_HsumAlone.f k s o a by_ = some true := by
  have hbs := byte_ok s hws
  have hbo := byte_ok o hwo
  have ha := u16_ok a hwa
  have hb := u8_ok by_ hwb
  refine ⟨704, ?_⟩
  have hal : ∀ k, 600 ≤ k → thwartlaw03_alive.f k = some true := fun k hk => by
    obtain ⟨d, rfl⟩ : ∃ d, k = 600 + d := ⟨k - 600, by omega⟩
    clear hk
    induction d with
    | zero => exact alive_is
    | succ d ih => exact thwartlaw03_alive.mono (600 + d) true ih
  unfold thwartlaw03_HsumAlone.f
  by_cases h1 : (s.length : Int) > 1000
  · rw [if_pos h1, thwartlaw03_HsumAlone.j0, if_pos rfl, hal _ (by omega)]; rfl
  rw [if_neg h1]
  by_cases h2 : (o.length : Int) > 1000
  · rw [decide_eq_true h2, thwartlaw03_HsumAlone.j0, if_pos rfl, hal _ (by omega)]; rfl
  rw [decide_eq_false h2, thwartlaw03_HsumAlone.j0, if_neg (by decide)]
  obtain ⟨b, hB, hB1, hB2⟩ := block_is s hbs 703 (by omega)
  obtain ⟨c, hC, hC1, hC2⟩ := block_is o hbo 703 (by omega)
  have hi : Int.tmod (wrap64 a) 512 = ((a.toNat % 512 : Nat) : Int) := by
    rw [wrap_id (by omega) (by omega)]
    obtain ⟨a, rfl⟩ := Int.eq_ofNat_of_zero_le ha.1
    rfl
  have hi2 : a.toNat % 512 < 512 := Nat.mod_lt _ (by omega)
  rw [hi]
  generalize a.toNat % 512 = i at hi2
  have hd : ((c.take 156).drop 148).length = 8 := by rw [List.length_drop, List.length_take]; omega
  have hdb : Bytes ((c.take 156).drop 148) := fun x hx => hC2 x (List.mem_of_mem_take (List.mem_of_mem_drop hx))
  have hml : (mid8 b ((c.take 156).drop 148)).length = 512 := by rw [mid8_len _ _ (by omega) hd, hB1]
  have hsb : Bytes (b.set i by_) := fun y hy => by
    rcases List.mem_or_eq_of_mem_set hy with h | h
    · exact hB2 y h
    · rw [h]; exact hb
  have hr := S_range b hB1 hB2
  have hbi := hB2.at i (by omega)
  rw [hB, Option.bind_some, Option.bind_some, if_pos (by omega), hC, Option.bind_some, if_pos (by decide), if_pos (by omega), if_pos (by rw [hB1]; decide), Option.bind_some, List.nil_append, if_pos (by omega), if_pos (by omega), Int.toNat_natCast]
  rw [sum_is b hB1 hB2 703 (by omega), sum_is _ hml (mid_bytes _ _ hB2 hdb) 703 (by omega), sum_is _ (by rw [List.length_set]; exact hB1) hsb 703 (by omega), S_mid b _ hB1 hd]
  simp only [Option.bind_some, if_true]
  rw [if_pos (by omega), rd_at _ _ (by omega), hal 703 (by omega)]
  have e1 : wrap64 by_ = by_ := wrap_id (by omega) (by omega)
  have e2 : wrap64 b[i] = b[i] := wrap_id (by omega) (by omega)
  have e3 : wrap64 (S b + by_) = S b + by_ := wrap_id (by omega) (by omega)
  have e4 : wrap64 (S b + by_ - b[i]) = S b + by_ - b[i] := wrap_id (by omega) (by omega)
  rw [e1, e2, e3, e4]
  by_cases c1 : (i : Int) ≥ 148
  · rw [if_pos c1]
    by_cases c2 : (i : Int) < 156
    · rw [if_pos c2, if_pos (S_in b i (by omega) (by omega) by_)]; rfl
    · rw [if_neg c2, if_pos (S_set b hB1 i hi2 (.inr (by omega)) by_).1]; rfl
  · rw [if_neg c1, if_pos (S_set b hB1 i hi2 (.inl (by omega)) by_).1]; rfl
end Go.Proofs.YtpjanlpjjemenaaDoor.Pure
