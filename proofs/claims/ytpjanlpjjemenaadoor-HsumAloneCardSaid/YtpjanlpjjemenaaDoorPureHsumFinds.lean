/- The pure statement of HsumFinds: what is laid is checked; one byte that is another one is found; the sum alone does not turn it. For every input. -/
import Derived.Test.YtpjanlpjjemenaaDoorF6
import Derived.Test.YtpjanlpjjemenaaDoorQHsum
namespace Go.Proofs.YtpjanlpjjemenaaDoor.Pure
open Go.RowKit Go.Proofs.YtpjanlpjjemenaaDoor.P Go.Proofs.YtpjanlpjjemenaaDoor.Hand Go.Proofs.YtpjanlpjjemenaaDoor.Q3 Go.Proofs.YtpjanlpjjemenaaDoorW.PrintWords Go.Proofs.YtpjanlpjjemenaaDoorW.PrintLast

theorem u8_ok (x : Int) (h : (Lit.int .u8 x).wf = true) : 0 ≤ x ∧ x < 256 := by
  simp [Lit.wf] at h
  have h1 : IntKind.u8.min = 0 := by decide +kernel
  have h2 : IntKind.u8.max = 255 := by decide +kernel
  omega
theorem u16_ok (x : Int) (h : (Lit.int .u16 x).wf = true) : 0 ≤ x ∧ x < 65536 := by
  simp [Lit.wf] at h
  have h1 : IntKind.u16.min = 0 := by decide +kernel
  have h2 : IntKind.u16.max = 65535 := by decide +kernel
  omega
theorem byte_ok (l : List Int) (h : ∀ x ∈ l, (Lit.int .u8 x).wf = true) : Bytes l := by
  exact fun x hx => u8_ok x (h x hx)
theorem xor_ne (x y : Int) (h0 : 0 ≤ x) (h1 : x < 256) (h2 : 0 ≤ y) (h3 : y < 256) (hy : y ≠ 0) : 0 ≤ Go.bits .xor .u8 x y ∧ Go.bits .xor .u8 x y < 256 ∧ Go.bits .xor .u8 x y ≠ x := by
  rw [u8_xor x y h0 h1 h2 h3]
  obtain ⟨x, rfl⟩ := Int.eq_ofNat_of_zero_le h0
  obtain ⟨y, rfl⟩ := Int.eq_ofNat_of_zero_le h2
  simp only [Int.toNat_natCast]
  have hlt : x ^^^ y < 2 ^ 8 := Nat.xor_lt_two_pow (by omega) (by omega)
  refine ⟨by omega, by omega, fun e => hy ?_⟩
  have e1 : x ^^^ y = x := by omega
  have e2 : x ^^^ (x ^^^ y) = x ^^^ x := by rw [e1]
  rw [← Nat.xor_assoc, Nat.xor_self, Nat.zero_xor] at e2
  omega
theorem set_sum (l : List Int) (i : Nat) (h : i < l.length) (v : Int) : (l.set i v).sum = l.sum + v - l[i] := by
  induction l generalizing i with
  | nil => simp at h
  | cons x l ih =>
    cases i with
    | zero => simp only [List.set_cons_zero, List.sum_cons, List.getElem_cons_zero]; omega
    | succ i =>
      have := ih i (by simpa using h)
      simp only [List.set_cons_succ, List.sum_cons, List.getElem_cons_succ, this]; omega
theorem S_set (l : List Int) (hl : l.length = 512) (i : Nat) (h : i < 512) (hi : i < 148 ∨ 156 ≤ i) (v : Int) : S (l.set i v) = S l + v - l[i] ∧ ((l.set i v).take 156).drop 148 = (l.take 156).drop 148 := by
  unfold S
  rcases hi with hi | hi
  · constructor
    · rw [List.take_set, List.drop_set_of_lt (by omega), set_sum _ _ (by rw [List.length_take]; omega), List.getElem_take]; omega
    · rw [List.take_set, List.drop_set_of_lt (by omega)]
  · constructor
    · rw [List.take_set_of_le (by omega), List.drop_set, if_neg (by omega), set_sum _ _ (by rw [List.length_drop]; omega), List.getElem_drop]
      simp only [show 156 + (i - 156) = i by omega]; omega
    · rw [List.take_set_of_le (by omega)]

theorem HsumFinds : thwartlaw03_HsumFinds.Pure := by
  intro l a by_ hl hl2 hw hwa hwb
  have hbl := byte_ok l hw
  have ha := u16_ok a hwa
  have hb := u8_ok by_ hwb
  refine ⟨604, ?_⟩
  unfold thwartlaw03_HsumFinds.f
  have hal : ∀ k, 600 ≤ k → thwartlaw03_alive.f k = some true := fun k hk => by
    obtain ⟨d, rfl⟩ : ∃ d, k = 600 + d := ⟨k - 600, by omega⟩
    clear hk
    induction d with
    | zero => exact alive_is
    | succ d ih => exact thwartlaw03_alive.mono (600 + d) true ih
  by_cases hbig : (l.length : Int) > 1000
  · rw [if_pos hbig, hal _ (by omega)]; rfl
  rw [if_neg hbig]
  obtain ⟨b, hB, hB1, hB2⟩ := block_is l hbl 604 (by omega)
  have hr := S_range b hB1 hB2
  have hPl := P_len b hB1
  have hPb := P_bytes b hB2
  rw [hB, Option.bind_some, put_is b hB1 hB2, Option.bind_some]
  simp only [if_true]
  rw [if_pos (by rw [hPl]; rfl), check_is (P b) (S b) hPl hPb (P_field b hB1) (by omega) (by omega) 604 (by omega), S_P b hB1, if_pos rfl, Option.bind_some]
  rw [show ((0 : Int) != 0) = false from rfl, thwartlaw03_HsumFinds.j0, if_neg (by decide), put_is (P b) hPl hPb, P_P b hB1, Option.bind_some]
  simp only [if_true]
  rw [same_self (P b) (by omega) 603 (by omega), Option.bind_some, show (!true) = false from rfl, thwartlaw03_HsumFinds.j1, if_neg (by decide)]
  have hi : Int.tmod (wrap64 a) 512 = ((a.toNat % 512 : Nat) : Int) := by
    rw [wrap_id (by omega) (by omega)]
    obtain ⟨a, rfl⟩ := Int.eq_ofNat_of_zero_le ha.1
    rfl
  have hi2 : a.toNat % 512 < 512 := Nat.mod_lt _ (by omega)
  rw [hi]
  generalize a.toNat % 512 = i at hi2
  have hj2t : thwartlaw03_HsumFinds.j2 602 by_ (P b) i true = some true := by
    rw [thwartlaw03_HsumFinds.j2, if_pos rfl, hal _ (by omega)]; rfl
  by_cases h0 : by_ = 0
  · rw [show (by_ == 0) = true by rw [h0]; rfl]
    split
    · split
      · exact hj2t
      · exact hj2t
    · exact hj2t
  rw [show (by_ == 0) = false from beq_eq_false_iff_ne.2 h0]
  have hj2f : (i < 148 ∨ 156 ≤ i) → thwartlaw03_HsumFinds.j2 602 by_ (P b) i false = some true := by
    intro hi3
    have hx := hPb.at i (by omega)
    obtain ⟨x0, x1, x2⟩ := xor_ne (P b)[i] by_ hx.1 hx.2 hb.1 hb.2 h0
    have hs := S_set (P b) hPl i hi2 hi3 (Go.bits .xor .u8 (P b)[i] by_)
    rw [thwartlaw03_HsumFinds.j2, if_neg (by decide), if_pos (by rw [hPl]; decide), Option.bind_some, List.nil_append, if_pos (by omega), if_pos (by omega), Int.toNat_natCast, rd_at _ _ (by omega)]
    rw [check_is _ (S b) (by rw [List.length_set]; exact hPl) (fun y hy => ?_) (by rw [hs.2]; exact P_field b hB1) (by omega) (by omega) 601 (by omega), if_neg (by rw [hs.1, S_P b hB1]; omega), Option.bind_some, if_pos rfl, hal _ (by omega)]
    · rfl
    · rcases List.mem_or_eq_of_mem_set hy with h | h
      · exact hPb y h
      · rw [h]; exact ⟨x0, x1⟩
  split
  · split
    · exact hj2t
    · exact hj2f (.inr (by omega))
  · exact hj2f (.inl (by omega))
end Go.Proofs.YtpjanlpjjemenaaDoor.Pure
