/- Plain facts on records: the length that bytes begin with, told by both. -/
import Derived.Test.YthjljkdiglpbaaaDoorQRecs2
import Derived.Test.YthjljkdiglpbaaaDoorF9
import Derived.Test.YthjljkdiglpbaaaDoorF10
namespace Go.Proofs.YthjljkdiglpbaaaDoor.Q
open Go.RowKit Go.Proofs.YthjljkdiglpbaaaDoor.P Go.Proofs.YthjljkdiglpbaaaDoorW.PrintWords Go.Proofs.YthjljkdiglpbaaaDoorW.PrintLast Go.Proofs.YthjljkdiglpbaaaDoorW.PrintMore Go.Proofs.YthjljkdiglpbaaaDoor.Hand
set_option linter.unusedVariables false
set_option linter.unusedSimpArgs false

def Dg (x : Int) : Prop := 48 ≤ x ∧ x ≤ 57
instance (x : Int) : Decidable (Dg x) := inferInstanceAs (Decidable (_ ∧ _))
def val : Int → List Int → Int
  | n, [] => n
  | n, x :: l => val (n * 10 + (x - 48)) l
theorem val_app (l m : List Int) : ∀ n, val n (l ++ m) = val (val n l) m := by
  induction l with
  | nil => intro n; rfl
  | cons x l ih => intro n; exact ih _
theorem val_bound (l : List Int) (h : ∀ x ∈ l, Dg x) : ∀ n, 0 ≤ n → 0 ≤ val n l ∧ val n l < (n + 1) * 10 ^ l.length := by
  induction l with
  | nil => intro n hn; exact ⟨hn, by simp [val]; omega⟩
  | cons x l ih =>
    intro n hn
    obtain ⟨a, b⟩ := h x (by simp)
    obtain ⟨c, d⟩ := ih (fun y hy => h y (by simp [hy])) (n * 10 + (x - 48)) (by omega)
    refine ⟨c, Int.lt_of_lt_of_le d ?_⟩
    rw [List.length_cons, Int.pow_succ, Int.mul_comm (10 ^ l.length) 10, ← Int.mul_assoc]
    exact Int.mul_le_mul_of_nonneg_right (by omega) (Int.le_of_lt (Int.pow_pos (by decide)))
theorem val_small (l : List Int) (h : ∀ x ∈ l, Dg x) (hl : l.length ≤ 5) : 0 ≤ val 0 l ∧ val 0 l < 100000 := by
  obtain ⟨a, b⟩ := val_bound l h 0 (by decide)
  refine ⟨a, Int.lt_of_lt_of_le b ?_⟩
  obtain ⟨n, hn⟩ : ∃ n, l.length = n := ⟨_, rfl⟩
  rw [hn] at hl ⊢
  have : n = 0 ∨ n = 1 ∨ n = 2 ∨ n = 3 ∨ n = 4 ∨ n = 5 := by omega
  rcases this with rfl | rfl | rfl | rfl | rfl | rfl <;> decide

/-- A length that bytes begin with. -/
structure Dec (l h : List Int) : Prop where
  cut : ∃ rest, l = h ++ 32 :: rest
  dig : ∀ x ∈ h, Dg x
  pos : 1 ≤ h.length
  few : h.length ≤ 4
  nz : ∀ x t, h = x :: t → x ≠ 48

theorem ofNat_eq {x : Int} (h0 : 0 ≤ x) (h1 : x < 256) (c : UInt8) : UInt8.ofNat x.toNat = c ↔ x = (c.toNat : Int) := by
  constructor
  · rintro rfl
    rw [UInt8.toNat_ofNat']
    omega
  · intro e
    rw [e, Int.toNat_natCast]
    exact UInt8.ofNat_toNat
theorem ix_cases (l : List Int) (hb : Bytes l) : (Lib.indexByte (Lib.bytesOf l) 32 = -1 ∧ (32 : Int) ∉ l) ∨ ∃ h rest, l = h ++ 32 :: rest ∧ (32 : Int) ∉ h ∧ Lib.indexByte (Lib.bytesOf l) 32 = (h.length : Int) := by
  induction l with
  | nil => exact .inl ⟨rfl, by simp⟩
  | cons x l ih =>
    have hx := ofNat_eq (hb x (by simp)).1 (hb x (by simp)).2 32
    have hc : Lib.indexByte (Lib.bytesOf (x :: l)) 32 = if (UInt8.ofNat x.toNat == 32) = true then 0 else if (Lib.indexByte (Lib.bytesOf l) 32 == -1) = true then -1 else Lib.indexByte (Lib.bytesOf l) 32 + 1 := rfl
    rw [hc]
    by_cases e : x = 32
    · subst e
      exact .inr ⟨[], l, rfl, by simp, by rw [if_pos (by decide)]; rfl⟩
    · rw [if_neg (fun h => e (hx.1 (beq_iff_eq.1 h)))]
      rcases ih (fun y hy => hb y (by simp [hy])) with ⟨h1, h2⟩ | ⟨h, rest, h1, h2, h3⟩
      · rw [h1, if_pos (by decide)]
        exact .inl ⟨rfl, by simp only [List.mem_cons, not_or]; exact ⟨fun h => e h.symm, h2⟩⟩
      · rw [h3, if_neg (fun h => by have := beq_iff_eq.1 h; omega)]
        exact .inr ⟨x :: h, rest, by rw [h1]; rfl, by simp only [List.mem_cons, not_or]; exact ⟨fun h => e h.symm, h2⟩, by simp⟩
theorem len_loop (x : List Int) (h : List Int) (hb : Bytes h) (hl : h.length ≤ 4) : ∀ (d k i : Nat), i + d = h.length → d < k → (∀ y ∈ h.take i, Dg y) → recs_length.l0 k x (val 0 (h.take i)) h (h.length : Int) (i : Int) = some (if ∀ y ∈ h, Dg y then (val 0 h, (x.length : Int)) else (0, 0)) := by
  intro d
  induction d with
  | zero =>
    intro k i hi hk ht
    obtain ⟨k, rfl⟩ : ∃ m, k = m + 1 := ⟨k - 1, by omega⟩
    rw [List.take_of_length_le (by omega)] at ht ⊢
    rw [recs_length.l0, if_neg (by omega), if_pos ht]
  | succ d ih =>
    intro k i hi hk ht
    obtain ⟨k, rfl⟩ : ∃ m, k = m + 1 := ⟨k - 1, by omega⟩
    have hl2 : i < h.length := by omega
    have hv := val_small (h.take i) ht (by rw [List.length_take]; omega)
    have hx := hb h[i] (List.getElem_mem hl2)
    rw [recs_length.l0, if_pos (by omega), if_pos (by omega), if_pos (by omega), rd_at h i hl2]
    by_cases c1 : h[i] < 48
    · rw [if_pos c1, if_neg (fun hh => by have := (hh _ (List.getElem_mem hl2)).1; omega)]
    rw [if_neg c1]
    by_cases c2 : h[i] > 57
    · rw [if_pos c2, if_neg (fun hh => by have := (hh _ (List.getElem_mem hl2)).2; omega)]
    rw [if_neg c2, wrap_id (i := val 0 (h.take i) * 10) (by omega) (by omega), wrap_id (i := val 0 (h.take i) * 10 + _) (by omega) (by omega), wrap_small (by omega) (by omega)]
    have hs : h.take (i + 1) = h.take i ++ [h[i]] := List.take_succ_eq_append_getElem hl2
    have := ih k (i + 1) (by omega) (by omega) (by
      intro y hy
      rw [hs, List.mem_append] at hy
      rcases hy with hy | hy
      · exact ht y hy
      · obtain rfl := List.mem_singleton.1 hy
        exact ⟨by omega, by omega⟩)
    rw [hs, val_app] at this
    rw [show val 0 (h.take i) * 10 + (h[i] - 48) % 256 = val (val 0 (h.take i)) [h[i]] by simp [val]; omega, show ((i : Int) + 1) = ((i + 1 : Nat) : Int) by omega]
    exact this
theorem cut1_is (l : List Int) (h0 : 0 < l.length) (h1 : l.length ≤ 30000) : bytes_Cut1.f l = some (if 0 ≤ Lib.indexByte (Lib.bytesOf l) 32 then Lib.indexByte (Lib.bytesOf l) 32 else (l.length : Int), decide (0 ≤ Lib.indexByte (Lib.bytesOf l) 32)) := by
  unfold bytes_Cut1.f
  rw [if_pos ⟨h0, by omega⟩]
theorem length_is (l : List Int) (hb : Bytes l) (h0 : 0 < l.length) (h1 : l.length ≤ 30000) (k : Nat) (hk : 8 ≤ k) :
    (∃ h, Dec l h ∧ recs_length.f k l = some (val 0 h, (h.length : Int))) ∨ ((¬ ∃ h, Dec l h) ∧ recs_length.f k l = some (0, 0)) := by
  obtain ⟨k, rfl⟩ : ∃ m, k = m + 1 := ⟨k - 1, by omega⟩
  have jt : ∀ x, recs_length.j0 (k + 1) x true = some (0, 0) := fun x => by rw [recs_length.j0, if_pos rfl]
  rcases ix_cases l hb with ⟨hi, hn⟩ | ⟨h, rest, hl, hn, hi⟩
  · right
    refine ⟨fun ⟨h, hd⟩ => ?_, ?_⟩
    · obtain ⟨rest, e⟩ := hd.cut
      exact hn (by rw [e]; simp)
    · have cut : bytes_Cut1.f l = some ((l.length : Int), false) := by rw [cut1_is l h0 h1, hi, if_neg (by decide)]; rfl
      unfold recs_length.f
      rw [cut, Option.bind_some]
      dsimp only
      rw [if_pos (by omega), if_pos (by omega), if_neg (by decide), jt]
  · have ht : l.take h.length = h := by rw [hl]; exact List.take_left
    have hlen : l.length = h.length + 1 + rest.length := by rw [hl]; simp; omega
    have uniq : ∀ h', Dec l h' → h' = h := by
      intro h' hd
      obtain ⟨rest', e⟩ := hd.cut
      have hn' : (32 : Int) ∉ h' := fun m => by have := hd.dig _ m; unfold Dg at this; omega
      have e2 : h' ++ 32 :: rest' = h ++ 32 :: rest := by rw [← e, ← hl]
      clear e hl ht hlen hi hd
      induction h' generalizing h with
      | nil =>
        cases h with
        | nil => rfl
        | cons y h => simp at e2; exact absurd (show (32 : Int) ∈ y :: h by rw [← e2.1]; simp) hn
      | cons x h' ih =>
        cases h with
        | nil => simp at e2; exact absurd (show (32 : Int) ∈ x :: h' by rw [e2.1]; simp) hn'
        | cons y h =>
          simp only [List.cons_append, List.cons.injEq] at e2
          rw [e2.1, ih h (fun m => hn (by simp [m])) (fun m => hn' (by simp [m])) e2.2]
    have cut : bytes_Cut1.f l = some ((h.length : Int), true) := by rw [cut1_is l h0 h1, hi, if_pos (by omega), decide_eq_true (by omega)]
    unfold recs_length.f
    rw [cut, Option.bind_some]
    dsimp only
    rw [Int.toNat_natCast, ht, if_pos (by omega), if_pos (by omega), if_pos rfl]
    by_cases c1 : h.length = 0
    · right
      refine ⟨fun ⟨h', hd⟩ => ?_, by rw [if_pos (by omega), jt]⟩
      have := uniq h' hd; subst this
      have := hd.pos; omega
    rw [if_neg (by omega)]
    by_cases c2 : 4 < h.length
    · right
      refine ⟨fun ⟨h', hd⟩ => ?_, by rw [if_pos (by omega), jt]⟩
      have := uniq h' hd; subst this
      have := hd.few; omega
    rw [if_neg (by omega), if_pos (by omega)]
    have hhd : rd h 0 = h[0] := rd_at h 0 (by omega)
    by_cases c3 : h[0]'(by omega) = 48
    · right
      refine ⟨fun ⟨h', hd⟩ => ?_, by rw [hhd, c3, show ((48 : Int) == 48) = true from rfl, jt]⟩
      have := uniq h' hd; subst this
      cases h' with
      | nil => simp at c1
      | cons x t => exact hd.nz x t rfl (by simpa using c3)
    · rw [hhd, beq_eq_false_iff_ne.2 c3, recs_length.j0, if_neg (by decide)]
      have hbh : Bytes h := fun x hx => hb x (by rw [hl]; simp [hx])
      have := len_loop h h hbh (by omega) h.length k 0 (by omega) (by omega) (by simp)
      rw [show ((0 : Nat) : Int) = 0 from rfl, show val 0 (h.take 0) = 0 by simp [val]] at this
      rw [this]
      by_cases c4 : ∀ y ∈ h, Dg y
      · left
        rw [if_pos c4]
        refine ⟨h, ⟨⟨rest, hl⟩, c4, by omega, by omega, ?_⟩, rfl⟩
        rintro x t rfl
        simpa using c3
      · right
        rw [if_neg c4]
        refine ⟨fun ⟨h', hd⟩ => ?_, rfl⟩
        have := uniq h' hd; subst this
        exact c4 hd.dig
end Go.Proofs.YthjljkdiglpbaaaDoor.Q
