/- Plain facts on records: what is laid is read; what is read is laid as the same. -/
import Derived.Test.YthjljkdiglpbaaaDoorQRecs6
import Derived.Test.YthjljkdiglpbaaaDoorQRecs5
namespace Go.Proofs.YthjljkdiglpbaaaDoor.Q
open Go.RowKit Go.Proofs.YthjljkdiglpbaaaDoor.P Go.Proofs.YthjljkdiglpbaaaDoorW.PrintWords Go.Proofs.YthjljkdiglpbaaaDoorW.PrintLast Go.Proofs.YthjljkdiglpbaaaDoorW.PrintMore Go.Proofs.YthjljkdiglpbaaaDoor.Hand
set_option linter.unusedVariables false
set_option linter.unusedSimpArgs false

def dg (u : Nat) : List Int := (Lib.decDigits u).map fun b => (b.toNat : Int)
theorem digL_dg (n : Int) (h : 0 ≤ n) : digL n = dg n.toNat := by
  unfold digL dg Lib.itoa; rw [if_neg (by omega)]
theorem dg_small (u : Nat) (h : u < 10) : dg u = [((48 + u : Nat) : Int)] := by
  unfold dg; rw [dec_small u h]
  show [(((UInt8.ofNat (48 + u)).toNat : Nat) : Int)] = _
  rw [UInt8.toNat_ofNat', show (48 + u) % 2 ^ 8 = 48 + u by omega]
theorem dg_big (u : Nat) (h : ¬ u < 10) : dg u = dg (u / 10) ++ [((48 + u % 10 : Nat) : Int)] := by
  unfold dg; rw [dec_big u h, List.map_append]
  show _ ++ [(((UInt8.ofNat (48 + u % 10)).toNat : Nat) : Int)] = _
  rw [UInt8.toNat_ofNat', show (48 + u % 10) % 2 ^ 8 = 48 + u % 10 by omega]
theorem dg_facts : ∀ (n u : Nat), u ≤ n → (∀ x ∈ dg u, Dg x) ∧ val 0 (dg u) = u ∧ 1 ≤ (dg u).length ∧ (1 ≤ u → ∀ x t, dg u = x :: t → x ≠ 48) := by
  intro n
  induction n with
  | zero =>
    intro u h
    obtain rfl : u = 0 := by omega
    rw [dg_small 0 (by omega)]
    exact ⟨by simp [Dg], by simp [val], by simp, fun h => by omega⟩
  | succ n ih =>
    intro u h
    by_cases h10 : u < 10
    · rw [dg_small u h10]
      refine ⟨fun x hx => by rw [List.mem_singleton.1 hx]; unfold Dg; omega, by simp [val]; omega, by simp, fun h1 x t e => ?_⟩
      simp only [List.cons.injEq] at e
      rw [← e.1]; omega
    · obtain ⟨a, b, c, d⟩ := ih (u / 10) (by omega)
      rw [dg_big u h10]
      refine ⟨fun x hx => ?_, ?_, by simp, fun h1 x t e => ?_⟩
      · rcases List.mem_append.1 hx with hx | hx
        · exact a x hx
        · rw [List.mem_singleton.1 hx]; unfold Dg; omega
      · rw [val_app, b]; simp [val]; omega
      · cases hh : dg (u / 10) with
        | nil => rw [hh] at c; simp at c
        | cons y s =>
          rw [hh] at e
          simp only [List.cons_append, List.cons.injEq] at e
          rw [← e.1]
          exact d (by omega) y s hh
theorem val_nonneg (l : List Int) (h : ∀ x ∈ l, Dg x) : 0 ≤ val 0 l := (val_bound l h 0 (by decide)).1
theorem dg_val : ∀ (n : Nat) (h : List Int), h.length ≤ n → 1 ≤ h.length → (∀ x ∈ h, Dg x) → (∀ x t, h = x :: t → x ≠ 48) → dg (val 0 h).toNat = h ∧ 1 ≤ val 0 h := by
  intro n
  induction n with
  | zero => intro h h1 h2; omega
  | succ n ih =>
    intro h h1 h2 hd hz
    rcases List.eq_nil_or_concat h with e | ⟨s, x, e⟩
    · rw [e] at h2; simp at h2
    rw [List.concat_eq_append] at e
    subst e
    have hx := hd x (by simp)
    unfold Dg at hx
    rw [List.length_append] at h1
    simp only [List.length_cons, List.length_nil] at h1
    by_cases c : s = []
    · subst c
      have : x ≠ 48 := hz x [] rfl
      have hv : val 0 ([] ++ [x]) = x - 48 := by simp [val]
      rw [hv]
      refine ⟨?_, by omega⟩
      rw [dg_small _ (by omega)]
      show [((48 + (x - 48).toNat : Nat) : Int)] = [x]
      congr 1; omega
    · obtain ⟨a, b⟩ := ih s (by omega) (List.length_pos_iff.2 c) (fun y hy => hd y (by simp [hy])) (fun y t e => hz y (t ++ [x]) (by rw [e]; rfl))
      have hv : val 0 (s ++ [x]) = val 0 s * 10 + (x - 48) := by rw [val_app]; simp [val]
      rw [hv]
      refine ⟨?_, by omega⟩
      rw [dg_big _ (by omega), show (val 0 s * 10 + (x - 48)).toNat / 10 = (val 0 s).toNat by omega, a]
      congr 2; omega
theorem Bytes_app {a b : List Int} (ha : Bytes a) (hb : Bytes b) : Bytes (a ++ b) := fun x hx => (List.mem_append.1 hx).elim (ha x) (hb x)
theorem Bytes_of (s : ByteArray) : Bytes (bytesOf s) := by
  intro x hx
  unfold bytesOf at hx
  obtain ⟨b, _, rfl⟩ := List.mem_map.1 hx
  have := b.toNat_lt
  omega
theorem Bytes_B (a0 a1 : ByteArray) : Bytes (B a0 a1) := by
  unfold B
  split
  · refine Bytes_app ?_ (Bytes_of _)
    intro x hx
    unfold digL at hx
    obtain ⟨b, _, rfl⟩ := List.mem_map.1 hx
    have := b.toNat_lt
    omega
  · intro x hx; simp at hx
/-- Bytes, and the numbers that they are. -/
theorem bytes_back (l : List UInt8) : Lib.bytesOf (l.map fun b => (b.toNat : Int)) = l := by
  unfold Lib.bytesOf
  rw [List.map_map]
  conv => rhs; rw [← List.map_id l]
  apply List.map_congr_left
  intro b _
  simp
theorem back_bytes (l : List Int) (hb : Bytes l) : (Lib.bytesOf l).map (fun b => (b.toNat : Int)) = l := by
  unfold Lib.bytesOf
  rw [List.map_map]
  conv => rhs; rw [← List.map_id l]
  apply List.map_congr_left
  intro x hx
  obtain ⟨h1, h2⟩ := hb x hx
  show ((UInt8.ofNat x.toNat).toNat : Int) = x
  rw [UInt8.toNat_ofNat']
  omega
theorem cut_uniq (s a b a' b' : List UInt8) (h : a ++ 61 :: b = a' ++ 61 :: b') (ha : (61 : UInt8) ∉ a) (ha' : (61 : UInt8) ∉ a') : a = a' ∧ b = b' := by
  induction a generalizing a' with
  | nil =>
    cases a' with
    | nil => simpa using h
    | cons y t => simp at h; exact absurd (show (61 : UInt8) ∈ y :: t by rw [← h.1]; simp) ha'
  | cons x a ih =>
    cases a' with
    | nil => simp at h; exact absurd (show (61 : UInt8) ∈ x :: a by rw [h.1]; simp) ha
    | cons y t =>
      simp only [List.cons_append, List.cons.injEq] at h
      obtain ⟨e1, e2⟩ := ih t h.2 (fun m => ha (by simp [m])) (fun m => ha' (by simp [m]))
      exact ⟨by rw [h.1, e1], e2⟩
/-- What stands behind a record's blank. -/
def tl (a0 a1 : ByteArray) : List UInt8 := a0.data.toList ++ 61 :: (a1.data.toList ++ [10])
theorem B_is (a0 a1 : ByteArray) (h : mayE a0 a1 = 0) : B a0 a1 = digL (L (a0.size + a1.size + 3)) ++ 32 :: (tl a0 a1).map fun b => (b.toNat : Int) := by
  unfold B tl
  rw [if_pos h]
  unfold bytesOf
  rw [T_list]
  rfl
theorem first_B (a0 a1 : ByteArray) (rest : List Int) (hm : mayE a0 a1 = 0) (hb : Bytes rest) (hl : (B a0 a1 ++ rest).length ≤ 30000) (k : Nat) (hk : 8 ≤ k) :
    recs_first.f k (B a0 a1 ++ rest) = some (a0, a1, L (a0.size + a1.size + 3), 0) := by
  obtain ⟨hbad, h2, h3, h4⟩ := may_zero a0 a1 hm
  have hL := L_bd ((a0.size : Int) + a1.size + 3) (by omega) (by omega)
  have hlen := B_len a0 a1 hm
  have hB := B_is a0 a1 hm
  have hdl := digL_len (L ((a0.size : Int) + a1.size + 3)) (by omega) (by omega)
  have hBy := Bytes_B a0 a1
  generalize hn : L ((a0.size : Int) + a1.size + 3) = n at *
  have hnd : nd n ≤ 4 := by unfold nd; (repeat' split) <;> omega
  obtain ⟨f1, f2, f3, f4⟩ := dg_facts n.toNat n.toNat (Nat.le_refl _)
  rw [← digL_dg n (by omega)] at f1 f2 f3 f4
  have hval : val 0 (digL n) = n := by omega
  have hd : Dec (B a0 a1 ++ rest) (digL n) := ⟨⟨(tl a0 a1).map (fun b => (b.toNat : Int)) ++ rest, by rw [hB]; simp⟩, f1, f3, by omega, f4 (by omega)⟩
  have hm2 := mine_at (B a0 a1 ++ rest) (digL n) (Bytes_app hBy hb) hl hd k hk
  rw [hval] at hm2
  have hll : (B a0 a1 ++ rest).length = (B a0 a1).length + rest.length := List.length_append
  rw [if_neg (by omega), if_neg (by omega)] at hm2
  have hseg : segOf (B a0 a1 ++ rest) n.toNat (digL n).length = (tl a0 a1).map fun b => (b.toNat : Int) := by
    unfold segOf
    rw [show n.toNat = (B a0 a1).length by omega, List.take_left, hB]
    rw [show ∀ (p q : List Int), (p ++ 32 :: q).drop (p.length + 1) = q from fun p q => by
      rw [show p ++ 32 :: q = (p ++ [32]) ++ q by simp, show p.length + 1 = (p ++ [(32 : Int)]).length by simp, List.drop_left]]
  have hsz : (tl a0 a1).length = a0.size + a1.size + 2 := by
    unfold tl; simp only [List.length_append, List.length_cons, List.length_nil]; rw [← szL, ← szL]; omega
  have hsuf : Lib.hasSuffix (Lib.bytesOf ((tl a0 a1).map fun b => (b.toNat : Int))) [10] = true := by
    rw [bytes_back]
    unfold tl
    rw [show a0.data.toList ++ 61 :: (a1.data.toList ++ [10]) = (a0.data.toList ++ 61 :: a1.data.toList) ++ [10] by simp, suf_is]
    rfl
  have hbody : recs_body ((tl a0 a1).map fun b => (b.toNat : Int)) = (a0.data.toList ++ 61 :: a1.data.toList).map fun b => (b.toNat : Int) := by
    unfold recs_body
    rw [hsuf, if_pos rfl, List.length_map, ← List.map_take]
    congr 1
    unfold tl
    rw [show a0.data.toList ++ 61 :: (a1.data.toList ++ [10]) = (a0.data.toList ++ 61 :: a1.data.toList) ++ [10] by simp, List.length_append, show (a0.data.toList ++ 61 :: a1.data.toList).length + [(10 : UInt8)].length - 1 = (a0.data.toList ++ 61 :: a1.data.toList).length by simp, List.take_left]
  have hno : (61 : UInt8) ∉ a0.data.toList := by
    intro hmem
    have : a0.data.toList.any badB = true := List.any_eq_true.2 ⟨61, hmem, rfl⟩
    rw [this] at hbad; cases hbad
  have hcut : Lib.cut (a0.data.toList ++ 61 :: a1.data.toList) [61] = (a0.data.toList, a1.data.toList, true) := by
    rcases cut_is (a0.data.toList ++ 61 :: a1.data.toList) with ⟨h, _⟩ | ⟨a, b, h, ha, hc⟩
    · exact absurd (by simp) h
    · obtain ⟨e1, e2⟩ := cut_uniq [] _ _ _ _ h hno ha
      rw [hc, ← e1, ← e2]
  rw [hm2, hseg]
  unfold recs_cut.f
  rw [if_pos (by rw [List.length_map, hsz]; omega), hsuf, hbody, bytes_back, hcut, Option.bind_some]
  dsimp only
  rw [if_pos rfl, if_pos rfl, len_mine a0 a1 (by omega), if_pos hm, Option.bind_some]
  show (if L ((a0.size : Int) + a1.size + 3) = n then _ else _) = _
  rw [if_pos hn]
/-- All bytes of records that may be. -/
def flat : List SB → List Int
  | [] => []
  | x :: xs => B x.f0 x.f1 ++ flat xs
theorem layOf_ok : ∀ (l : List SB) (acc : List Int), (layOf acc l).2 = 0 → (∀ x ∈ l, mayE x.f0 x.f1 = 0) ∧ layOf acc l = (acc ++ flat l, 0) := by
  intro l
  induction l with
  | nil => intro acc _; exact ⟨by simp, by simp [layOf, flat]⟩
  | cons x l ih =>
    intro acc h
    unfold layOf at h ⊢
    by_cases c : mayE x.f0 x.f1 = 0
    · rw [if_pos c] at h ⊢
      obtain ⟨a, b⟩ := ih _ h
      refine ⟨fun y hy => ?_, by rw [b, flat, List.append_assoc]⟩
      rcases List.mem_cons.1 hy with rfl | hy
      · exact c
      · exact a y hy
    · rw [if_neg c] at h
      exact absurd h c
theorem layOf_all : ∀ (l : List SB) (acc : List Int), (∀ x ∈ l, mayE x.f0 x.f1 = 0) → layOf acc l = (acc ++ flat l, 0) := by
  intro l
  induction l with
  | nil => intro acc _; simp [layOf, flat]
  | cons x l ih =>
    intro acc h
    unfold layOf
    rw [if_pos (h x (by simp)), ih _ (fun y hy => h y (by simp [hy])), flat, List.append_assoc]
theorem flat_bytes : ∀ l : List SB, Bytes (flat l)
  | [] => fun x hx => by simp [flat] at hx
  | x :: l => Bytes_app (Bytes_B _ _) (flat_bytes l)
theorem flat_len : ∀ l : List SB, (flat l).length ≤ 2070 * l.length
  | [] => by simp [flat]
  | x :: l => by have := flat_len l; have := B_max x.f0 x.f1; rw [flat, List.length_append, List.length_cons]; omega
theorem parse_flat : ∀ (l : List SB) (k : Nat) (acc : List SA), (∀ x ∈ l, mayE x.f0 x.f1 = 0) → (flat l).length ≤ 30000 → acc.length + l.length ≤ 1000000 → l.length + 10 ≤ k → recs_Parse.l0 k (flat l) acc = some (acc ++ l.map vc, 0) := by
  intro l
  induction l with
  | nil =>
    intro k acc _ _ _ hk
    obtain ⟨k, rfl⟩ : ∃ q, k = q + 1 := ⟨k - 1, by omega⟩
    rw [recs_Parse.l0, if_neg (by simp [flat])]; simp
  | cons x l ih =>
    intro k acc hm hl ha hk
    obtain ⟨k, rfl⟩ : ∃ q, k = q + 1 := ⟨k - 1, by omega⟩
    have hx := hm x (by simp)
    obtain ⟨_, h2, h3, h4⟩ := may_zero _ _ hx
    have hL := L_bd ((x.f0.size : Int) + x.f1.size + 3) (by omega) (by omega)
    have hlen := B_len x.f0 x.f1 hx
    have hfl : (flat (x :: l)).length = (B x.f0 x.f1).length + (flat l).length := by rw [flat, List.length_append]
    rw [List.length_cons] at hk ha
    have hf := first_B x.f0 x.f1 (flat l) hx (flat_bytes l) (by rw [← flat]; exact hl) k (by omega)
    rw [recs_Parse.l0, if_pos (by omega)]
    rw [show flat (x :: l) = B x.f0 x.f1 ++ flat l from rfl, hf, Option.bind_some]
    dsimp only
    rw [if_pos rfl, if_pos (by omega), if_pos (by omega), if_pos (by rw [List.length_append]; omega), show (L ((x.f0.size : Int) + x.f1.size + 3)).toNat = (B x.f0 x.f1).length by omega, List.drop_left]
    rw [ih k _ (fun y hy => hm y (by simp [hy])) (by omega) (by rw [List.length_append]; simp; omega) (by omega)]
    simp [vc]
theorem cv_vc (l : List SB) : (l.map vc).map cv = l := by
  rw [List.map_map]
  conv => rhs; rw [← List.map_id l]
  rfl
theorem vc_cv (l : List SA) : (l.map cv).map vc = l := by
  rw [List.map_map]
  conv => rhs; rw [← List.map_id l]
  rfl
theorem Heads_B (l : List Int) (hb : Bytes l) (x : SA) (h : Heads l x) : mayE x.f0 x.f1 = 0 ∧ l = B x.f0 x.f1 ++ l.drop (L (x.f0.size + x.f1.size + 3)).toNat := by
  obtain ⟨h, hd, h1, h2, h3, h4, h5⟩ := h
  refine ⟨h3, ?_⟩
  obtain ⟨rest, e⟩ := hd.cut
  obtain ⟨d1, d2⟩ := dg_val h.length h (Nat.le_refl _) hd.pos hd.dig hd.nz
  rw [B_is _ _ h3, h4, digL_dg _ (by omega), d1]
  have hseg : segOf l (val 0 h).toNat h.length = (tl x.f0 x.f1).map fun b => (b.toNat : Int) := by
    rw [← back_bytes (segOf l (val 0 h).toNat h.length) (fun y hy => hb y (by unfold segOf at hy; exact List.mem_of_mem_take (List.mem_of_mem_drop hy))), h5]
    rfl
  rw [← hseg]
  unfold segOf
  have hlen : l.length = h.length + 1 + rest.length := by rw [e]; simp; omega
  have ht : l.take (val 0 h).toNat = h ++ 32 :: (l.take (val 0 h).toNat).drop (h.length + 1) := by
    have : l.take (h.length + 1) = h ++ [32] := by
      rw [e, show h ++ 32 :: rest = (h ++ [32]) ++ rest by simp, show h.length + 1 = (h ++ [(32 : Int)]).length by simp, List.take_left]
    calc l.take (val 0 h).toNat = (l.take (val 0 h).toNat).take (h.length + 1) ++ (l.take (val 0 h).toNat).drop (h.length + 1) := (List.take_append_drop _ _).symm
      _ = l.take (h.length + 1) ++ _ := by rw [List.take_take, show min (h.length + 1) (val 0 h).toNat = h.length + 1 by omega]
      _ = _ := by rw [this]; simp
  rw [← ht, List.take_append_drop]
theorem Comes_lay (l : List Int) (xs : List SA) (h : Comes l xs) (hb : Bytes l) : (∀ x ∈ xs.map cv, mayE x.f0 x.f1 = 0) ∧ flat (xs.map cv) = l := by
  induction h with
  | nil => exact ⟨by simp, rfl⟩
  | cons l x n xs hh hn hc ih =>
    obtain ⟨h1, h2⟩ := Heads_B l hb x hh
    obtain ⟨i1, i2⟩ := ih (fun y hy => hb y (List.mem_of_mem_drop hy))
    refine ⟨fun y hy => ?_, ?_⟩
    · rw [List.map_cons] at hy
      rcases List.mem_cons.1 hy with rfl | hy
      · exact h1
      · exact i1 y hy
    · rw [List.map_cons, flat, i2, hn]
      exact h2.symm
end Go.Proofs.YthjljkdiglpbaaaDoor.Q
