/- Plain facts on records: the first record of bytes, told by both. -/
import Derived.Test.YthjljkdiglpbaaaDoorQRecs3
namespace Go.Proofs.YthjljkdiglpbaaaDoor.Q
open Go.RowKit Go.Proofs.YthjljkdiglpbaaaDoor.P Go.Proofs.YthjljkdiglpbaaaDoorW.PrintWords Go.Proofs.YthjljkdiglpbaaaDoorW.PrintLast Go.Proofs.YthjljkdiglpbaaaDoorW.PrintMore Go.Proofs.YthjljkdiglpbaaaDoor.Hand
set_option linter.unusedVariables false
set_option linter.unusedSimpArgs false

theorem ref_loop (l ds tl : List Int) (e : l = ds ++ tl) (hb : Bytes l) (hd : ∀ x ∈ ds, Dg x) (h5 : ds.length ≤ 5) (hs : ds.length = 5 ∨ tl = [] ∨ ∃ y t, tl = y :: t ∧ ¬ Dg y) :
    ∀ (d k i : Nat), i + d = ds.length → d < k → thwartref06_first.l0 k l (val 0 (ds.take i)) (i : Int) = thwartref06_first.j1 (k - d - 1) l (val 0 ds) (ds.length : Int) := by
  have hlen : l.length = ds.length + tl.length := by rw [e]; simp
  intro d
  induction d with
  | zero =>
    intro k i hi hk
    obtain ⟨k, rfl⟩ : ∃ m, k = m + 1 := ⟨k - 1, by omega⟩
    obtain rfl : i = ds.length := by omega
    rw [List.take_of_length_le (Nat.le_refl _), thwartref06_first.l0, show k + 1 - 0 - 1 = k by omega]
    by_cases c1 : ds.length < l.length
    · rw [if_pos (by omega)]
      by_cases c2 : ds.length = 5
      · rw [if_neg (by omega)]
      · rw [if_pos (by omega), if_pos (by omega)]
        rcases hs with h | h | ⟨y, t, h, hy⟩
        · exact absurd h c2
        · rw [h] at hlen; simp at hlen; omega
        · have hr : rd l (ds.length : Int) = y := by rw [rd_at l ds.length c1]; simp [e, h]
          rw [hr]
          unfold Dg at hy
          by_cases c3 : y ≥ 48
          · rw [if_pos c3, if_neg (by omega)]
          · rw [if_neg c3]
    · rw [if_neg (by omega)]
  | succ d ih =>
    intro k i hi hk
    obtain ⟨k, rfl⟩ : ∃ m, k = m + 1 := ⟨k - 1, by omega⟩
    have hl2 : i < ds.length := by omega
    have hr : rd l (i : Int) = ds[i] := by rw [rd_at l i (by omega)]; simp [e, hl2]
    have hx := hd ds[i] (List.getElem_mem hl2)
    have hv := val_small (ds.take i) (fun y hy => hd y (List.mem_of_mem_take hy)) (by rw [List.length_take]; omega)
    unfold Dg at hx
    rw [thwartref06_first.l0, if_pos (by omega), if_pos (by omega), if_pos (by omega), hr, if_pos (by omega), if_pos (by omega), wrap_id (i := 10 * val 0 (ds.take i)) (by omega) (by omega), wrap_id (i := 10 * val 0 (ds.take i) + _) (by omega) (by omega), wrap_small (by omega) (by omega)]
    have hs' : ds.take (i + 1) = ds.take i ++ [ds[i]] := List.take_succ_eq_append_getElem hl2
    have := ih k (i + 1) (by omega) (by omega)
    rw [hs', val_app] at this
    rw [show 10 * val 0 (ds.take i) + (ds[i] - 48) % 256 = val (val 0 (ds.take i)) [ds[i]] by simp [val]; omega, show ((i : Int) + 1) = ((i + 1 : Nat) : Int) by omega, this]
    congr 1; omega
theorem lead_split (l : List Int) : ∃ ds tl, l = ds ++ tl ∧ (∀ x ∈ ds, Dg x) ∧ ds.length ≤ 5 ∧ (ds.length = 5 ∨ tl = [] ∨ ∃ y t, tl = y :: t ∧ ¬ Dg y) := by
  have gen : ∀ (n : Nat) (l : List Int), ∃ ds tl, l = ds ++ tl ∧ (∀ x ∈ ds, Dg x) ∧ ds.length ≤ n ∧ (ds.length = n ∨ tl = [] ∨ ∃ y t, tl = y :: t ∧ ¬ Dg y) := by
    intro n
    induction n with
    | zero => intro l; exact ⟨[], l, rfl, by simp, by simp, .inl rfl⟩
    | succ n ih =>
      intro l
      cases l with
      | nil => exact ⟨[], [], rfl, by simp, by simp, .inr (.inl rfl)⟩
      | cons x l =>
        by_cases hx : Dg x
        · obtain ⟨ds, tl, h1, h2, h3, h4⟩ := ih l
          refine ⟨x :: ds, tl, by rw [h1]; rfl, ?_, by simp; omega, ?_⟩
          · intro y hy
            rcases List.mem_cons.1 hy with rfl | hy
            · exact hx
            · exact h2 y hy
          · rcases h4 with h4 | h4
            · exact .inl (by simp [h4])
            · exact .inr h4
        · exact ⟨[], x :: l, rfl, by simp, by simp, .inr (.inr ⟨x, l, rfl, hx⟩)⟩
  exact gen 5 l
theorem ref_is (l : List Int) (hb : Bytes l) (h0 : 0 < l.length) (h1 : l.length ≤ 30000) (k : Nat) (hk : 10 ≤ k) :
    (∀ h, Dec l h → ∃ m, k ≤ m + 8 ∧ thwartref06_first.f k l = thwartref06_first.j2 m l (val 0 h) (h.length : Int) false) ∧ ((¬ ∃ h, Dec l h) → thwartref06_first.f k l = some ((⟨#[]⟩ : ByteArray), (⟨#[]⟩ : ByteArray), 0, 3)) := by
  have start : ∀ ds tl, l = ds ++ tl → (∀ x ∈ ds, Dg x) → ds.length ≤ 5 → (ds.length = 5 ∨ tl = [] ∨ ∃ y t, tl = y :: t ∧ ¬ Dg y) → ∃ m, k ≤ m + 8 ∧ 1 ≤ m ∧ thwartref06_first.f k l = thwartref06_first.j1 (m + 1) l (val 0 ds) (ds.length : Int) := by
    intro ds tl e hd h5 hs
    have := ref_loop l ds tl e hb hd h5 hs ds.length k 0 (by omega) (by omega)
    refine ⟨k - ds.length - 2, by omega, by omega, ?_⟩
    rw [show k - ds.length - 2 + 1 = k - ds.length - 1 by omega, ← this]
    rfl
  have j2t : ∀ m x n i, thwartref06_first.j2 (m + 1) x n i true = some ((⟨#[]⟩ : ByteArray), (⟨#[]⟩ : ByteArray), 0, 3) := fun m x n i => by rw [thwartref06_first.j2, if_pos rfl]
  constructor
  · intro h hd
    obtain ⟨rest, e⟩ := hd.cut
    have hlen : l.length = h.length + 1 + rest.length := by rw [e]; simp; omega
    obtain ⟨m, hm, hm1, hf⟩ := start h (32 :: rest) e hd.dig (by have := hd.few; omega) (.inr (.inr ⟨32, rest, rfl, by unfold Dg; omega⟩))
    refine ⟨m, hm, ?_⟩
    have hp := hd.pos
    have hw := hd.few
    rw [hf, thwartref06_first.j1, if_neg (by omega), if_neg (by omega), if_pos (by omega)]
    have hr0 : rd l 0 ≠ 48 := by
      rw [show (0 : Int) = ((0 : Nat) : Int) from rfl, rd_at l 0 h0]
      cases h with
      | nil => simp at hp
      | cons x t => simp only [e, List.cons_append, List.getElem_cons_zero]; exact hd.nz x t rfl
    have hr1 : rd l (h.length : Int) = 32 := by rw [rd_at l h.length (by omega)]; simp [e]
    rw [if_neg hr0, if_neg (by omega), if_pos (by omega), if_pos (by omega), hr1]
    rfl
  · intro hno
    obtain ⟨ds, tl, e, hd, h5, hs⟩ := lead_split l
    obtain ⟨m, hm, hm1, hf⟩ := start ds tl e hd h5 hs
    obtain ⟨m, rfl⟩ : ∃ q, m = q + 1 := ⟨m - 1, by omega⟩
    have hlen : l.length = ds.length + tl.length := by rw [e]; simp
    rw [hf, thwartref06_first.j1]
    by_cases c1 : ds.length < 1
    · rw [if_pos (by omega), j2t]
    rw [if_neg (by omega)]
    by_cases c2 : 4 < ds.length
    · rw [if_pos (by omega), j2t]
    rw [if_neg (by omega), if_pos (by omega)]
    by_cases c3 : rd l 0 = 48
    · rw [if_pos c3, j2t]
    rw [if_neg c3]
    by_cases c4 : ds.length = l.length
    · rw [if_pos (by omega), j2t]
    rw [if_neg (by omega), if_pos (by omega), if_pos (by omega)]
    by_cases c5 : rd l (ds.length : Int) = 32
    · exfalso
      rw [rd_at l ds.length (by omega)] at c5
      cases tl with
      | nil => simp at hlen; omega
      | cons y t =>
        have hy : y = 32 := by simpa [e] using c5
        subst hy
        refine hno ⟨ds, ⟨⟨t, e⟩, hd, by omega, by omega, ?_⟩⟩
        rintro x u rfl rfl
        apply c3
        rw [show (0 : Int) = ((0 : Nat) : Int) from rfl, rd_at l 0 h0]
        simp [e]
    · rw [bne_iff_ne.2 c5, j2t]

theorem cut_is (s : List UInt8) : ((61 : UInt8) ∉ s ∧ (Lib.cut s [61]).2.2 = false) ∨ ∃ a b, s = a ++ 61 :: b ∧ (61 : UInt8) ∉ a ∧ Lib.cut s [61] = (a, b, true) := by
  induction s with
  | nil => exact .inl ⟨by simp, rfl⟩
  | cons x s ih =>
    have hg := Lib.indexByte_ge s 61
    have hc : Lib.index (x :: s) [61] = if (x == 61) = true then 0 else if (Lib.indexByte s 61 == -1) = true then -1 else Lib.indexByte s 61 + 1 := Lib.index_one (x :: s) 61
    unfold Lib.cut at ih ⊢
    rw [Lib.index_one s 61] at ih
    by_cases e : x = 61
    · subst e
      refine .inr ⟨[], s, rfl, by simp, ?_⟩
      rw [show Lib.index (61 :: s) [61] = 0 from hc, if_pos (by decide)]
      rfl
    · have e1 : ¬ (x == 61) = true := fun h => e (beq_iff_eq.1 h)
      rw [if_neg e1] at hc
      have mem : ∀ a : List UInt8, (61 : UInt8) ∉ a → (61 : UInt8) ∉ x :: a := fun a ha => by simp only [List.mem_cons, not_or]; exact ⟨fun h => e h.symm, ha⟩
      by_cases e2 : Lib.indexByte s 61 = -1
      · rw [e2, if_pos (by decide)] at hc
        rw [hc]
        rw [e2] at ih
        rcases ih with ⟨h1, _⟩ | ⟨a, b, _, _, h3⟩
        · exact .inl ⟨mem s h1, by rw [if_neg (by decide)]⟩
        · rw [if_neg (by decide)] at h3; cases h3
      · rw [if_neg (by simpa using e2)] at hc
        rw [hc]
        rw [if_pos (by omega)] at ih ⊢
        rcases ih with ⟨_, h2⟩ | ⟨a, b, h1, h2, h3⟩
        · cases h2
        · refine .inr ⟨x :: a, b, by rw [h1]; rfl, mem a h2, ?_⟩
          obtain ⟨i, hi⟩ := Int.eq_ofNat_of_zero_le (show 0 ≤ Lib.indexByte s 61 by omega)
          rw [hi] at h3 ⊢
          have hn : ((i : Int) + 1).toNat = i + 1 := by omega
          rw [hn, show [(61 : UInt8)].length = 1 from rfl, show i + 1 + 1 = (i + 1) + 1 from rfl]
          rw [Int.toNat_natCast, show [(61 : UInt8)].length = 1 from rfl] at h3
          simp only [Prod.mk.injEq, and_true] at h3 ⊢
          refine ⟨?_, ?_⟩
          · rw [List.take_succ_cons, h3.1]
          · rw [List.drop_succ_cons]; exact h3.2
theorem eq_loop (s : ByteArray) (n : Int) (hs : s.size ≤ 100000) (a : List UInt8) (tl : List UInt8) (e : s.data.toList = a ++ tl) (ha : (61 : UInt8) ∉ a) :
    ∀ (d k i : Nat), i + d = a.length → d ≤ k → thwartref06_first.l1 k n s (i : Int) = thwartref06_first.l1 (k - d) n s (a.length : Int) := by
  intro d
  induction d with
  | zero => intro k i hi hk; obtain rfl : i = a.length := by omega
            rfl
  | succ d ih =>
    intro k i hi hk
    obtain ⟨k, rfl⟩ : ∃ m, k = m + 1 := ⟨k - 1, by omega⟩
    have hsz : s.size = a.length + tl.length := by rw [szL, e]; simp
    have hl : i < s.data.toList.length := by rw [← szL]; omega
    have hne : ¬ bt s (i : Int) = 61 := by
      intro h
      have h1 := (bt_eq s i hl 61).1 h
      have h2 : s.data.toList[i] = a[i]'(by omega) := by simp only [e]; rw [List.getElem_append_left]
      exact ha (by rw [← h1, h2]; exact List.getElem_mem _)
    rw [thwartref06_first.l1, if_pos (by omega), if_pos (by omega), if_neg hne, wrap_small (by omega) (by omega), show ((i : Int) + 1) = ((i + 1 : Nat) : Int) by omega, ih k (i + 1) (by omega) (by omega)]
    congr 1; omega

abbrev none4 (e : Int) : ByteArray × ByteArray × Int × Int := ((⟨#[]⟩ : ByteArray), (⟨#[]⟩ : ByteArray), 0, e)
theorem dec_uniq (l h h' : List Int) (a : Dec l h) (b : Dec l h') : h' = h := by
  obtain ⟨r, e⟩ := a.cut
  obtain ⟨r', e'⟩ := b.cut
  have hn : (32 : Int) ∉ h := fun m => by have := a.dig _ m; unfold Dg at this; omega
  have hn' : (32 : Int) ∉ h' := fun m => by have := b.dig _ m; unfold Dg at this; omega
  have e2 : h' ++ 32 :: r' = h ++ 32 :: r := by rw [← e, ← e']
  clear e e' a b
  induction h' generalizing h with
  | nil =>
    cases h with
    | nil => rfl
    | cons y h => simp at e2; exact absurd (show (32 : Int) ∈ y :: h by rw [← e2.1]; simp) hn
  | cons x h' ih =>
    cases h with
    | nil => simp at e2; exact absurd (show (32 : Int) ∈ x :: h' by rw [e2.1]; simp) hn'
    | cons y h =>
      simp only [List.cons_append, List.cons.injEq] at e2
      rw [e2.1, ih h (fun m => hn (by simp [m])) (fun m => hn' (by simp [m])) e2.2]
def segOf (l : List Int) (n t : Nat) : List Int := (l.take n).drop (t + 1)
theorem seg_split (l : List Int) (n t : Nat) (h1 : t + 1 ≤ n - 1) (h2 : n ≤ l.length) : segOf l n t = segOf l (n - 1) t ++ [rd l ((n - 1 : Nat) : Int)] := by
  unfold segOf
  have hl : n - 1 < l.length := by omega
  rw [rd_at l (n - 1) hl]
  have : l.take n = l.take (n - 1) ++ [l[n - 1]] := by rw [← List.take_succ_eq_append_getElem hl, show n - 1 + 1 = n by omega]
  rw [this, List.drop_append_of_le_length (by rw [List.length_take]; omega)]
theorem suf_is (s : List UInt8) (c : UInt8) : Lib.hasSuffix (s ++ [c]) [10] = (c == 10) := by
  unfold Lib.hasSuffix
  simp [List.isSuffixOf, List.isPrefixOf]
  by_cases h : c = 10
  · subst h; rfl
  · rw [beq_eq_false_iff_ne.2 h, beq_eq_false_iff_ne.2 (fun e => h e.symm)]
theorem mine_at (l h : List Int) (hb : Bytes l) (h1 : l.length ≤ 30000) (hd : Dec l h) (k : Nat) (hk : 8 ≤ k) :
    recs_first.f k l = if (l.length : Int) < val 0 h then some (none4 4) else if val 0 h < (h.length : Int) + 2 then some (none4 3) else
      (recs_cut.f (segOf l (val 0 h).toNat h.length)).bind fun b => if b.1 = true then (if b.2.2.2 = true then (recs_Len.f b.2.1 b.2.2.1).bind fun t => (if t = val 0 h then some (b.2.1, b.2.2.1, val 0 h, 0) else some (none4 3)) else some (none4 3)) else some (none4 3) := by
  have hv := val_small h hd.dig (by have := hd.few; omega)
  have hp := hd.pos
  have hf := hd.few
  have h0 : 0 < l.length := by obtain ⟨r, e⟩ := hd.cut; rw [e]; simp; omega
  have hlen : recs_length.f k l = some (val 0 h, (h.length : Int)) := by
    rcases length_is l hb h0 h1 k hk with ⟨h', a, b⟩ | ⟨a, _⟩
    · have := dec_uniq l h h' hd a; subst this; exact b
    · exact absurd ⟨h, hd⟩ a
  unfold recs_first.f
  rw [hlen, Option.bind_some]
  dsimp only
  rw [if_neg (by omega), wrap_id (i := (h.length : Int) + 2) (by omega) (by omega), wrap_id (i := (h.length : Int) + 1) (by omega) (by omega)]
  by_cases c1 : (l.length : Int) < val 0 h
  · rw [if_pos c1, if_pos c1]
  rw [if_neg c1, if_neg c1]
  by_cases c2 : val 0 h < (h.length : Int) + 2
  · rw [if_pos c2, if_pos c2]
  rw [if_neg c2, if_neg c2, if_pos (by omega), if_pos (by omega), if_pos (by omega)]
  rw [show ((h.length : Int) + 1).toNat = h.length + 1 by omega]
  rfl
theorem ref_at (l h : List Int) (hb : Bytes l) (h1 : l.length ≤ 30000) (hd : Dec l h) (k : Nat) (hk : 20 ≤ k) : ∃ m, k ≤ m + 10 ∧
    thwartref06_first.f k l = if (l.length : Int) < val 0 h then some (none4 4) else if val 0 h < (h.length : Int) + 2 then some (none4 3) else
      if rd l (((val 0 h).toNat - 1 : Nat) : Int) = 10 then thwartref06_first.l1 m (val 0 h) (strOfNums (segOf l ((val 0 h).toNat - 1) h.length)) 0 else some (none4 3) := by
  have hv := val_small h hd.dig (by have := hd.few; omega)
  have hp := hd.pos
  have hf := hd.few
  have h0 : 0 < l.length := by obtain ⟨r, e⟩ := hd.cut; rw [e]; simp; omega
  obtain ⟨m, hm, he⟩ := (ref_is l hb h0 h1 k (by omega)).1 h hd
  obtain ⟨m, rfl⟩ : ∃ q, m = q + 1 + 1 := ⟨m - 2, by omega⟩
  refine ⟨m, by omega, ?_⟩
  rw [he, thwartref06_first.j2, if_neg (by decide), wrap_id (i := (h.length : Int) + 2) (by omega) (by omega), wrap_id (i := val 0 h - 1) (by omega) (by omega)]
  have j3t : thwartref06_first.j3 (m + 1) l (val 0 h) (h.length : Int) true = some (none4 3) := by rw [thwartref06_first.j3, if_pos rfl]
  by_cases c1 : (l.length : Int) < val 0 h
  · rw [if_pos c1, if_pos c1]
  rw [if_neg c1, if_neg c1]
  by_cases c2 : val 0 h < (h.length : Int) + 2
  · rw [if_pos c2, if_pos c2, j3t]
  rw [if_neg c2, if_neg c2, if_pos (by omega), if_pos (by omega), show val 0 h - 1 = (((val 0 h).toNat - 1 : Nat) : Int) by omega]
  by_cases c3 : rd l (((val 0 h).toNat - 1 : Nat) : Int) = 10
  · rw [if_pos c3, c3, show ((10 : Int) != 10) = false from rfl, thwartref06_first.j3, if_neg (by decide), wrap_id (i := (h.length : Int) + 1) (by omega) (by omega), wrap_id (i := val 0 h - 1) (by omega) (by omega), if_pos (by omega), if_pos (by omega), if_pos (by omega)]
    rw [show ((h.length : Int) + 1).toNat = h.length + 1 by omega, show (val 0 h - 1).toNat = (val 0 h).toNat - 1 by omega]
    rfl
  · rw [if_neg c3, bne_iff_ne.2 c3, j3t]
/-- What the first record of bytes is. -/
theorem first_same (l : List Int) (hb : Bytes l) (h0 : 0 < l.length) (h1 : l.length ≤ 30000) :
    ∃ v : ByteArray × ByteArray × Int × Int, (∀ k, 61000 ≤ k → recs_first.f k l = some v ∧ thwartref06_first.f k l = some v) ∧ ((v.2.2.2 = 0 ∧ 1 ≤ v.2.2.1 ∧ v.2.2.1 ≤ l.length ∧ ∃ h, Dec l h ∧ v.2.2.1 = val 0 h ∧ (h.length : Int) + 2 ≤ val 0 h ∧ mayE v.1 v.2.1 = 0 ∧ L (v.1.size + v.2.1.size + 3) = val 0 h ∧ Lib.bytesOf (segOf l (val 0 h).toNat h.length) = v.1.data.toList ++ 61 :: (v.2.1.data.toList ++ [10])) ∨ (v.2.2.2 ≠ 0 ∧ v = none4 v.2.2.2)) := by
  by_cases hx : ∃ h, Dec l h
  case neg =>
    refine ⟨none4 3, fun k hk => ⟨?_, (ref_is l hb h0 h1 k (by omega)).2 hx⟩, .inr ⟨by decide, rfl⟩⟩
    rcases length_is l hb h0 h1 k (by omega) with ⟨h, a, _⟩ | ⟨_, b⟩
    · exact absurd ⟨h, a⟩ hx
    · unfold recs_first.f
      rw [b, Option.bind_some, if_pos rfl]
  obtain ⟨h, hd⟩ := hx
  have hv := val_small h hd.dig (by have := hd.few; omega)
  have hp := hd.pos
  have hf := hd.few
  have both : ∀ v, (∀ k m, 61000 ≤ k → k ≤ m + 10 → (if (l.length : Int) < val 0 h then some (none4 4) else if val 0 h < (h.length : Int) + 2 then some (none4 3) else
      (recs_cut.f (segOf l (val 0 h).toNat h.length)).bind fun b => if b.1 = true then (if b.2.2.2 = true then (recs_Len.f b.2.1 b.2.2.1).bind fun t => (if t = val 0 h then some (b.2.1, b.2.2.1, val 0 h, 0) else some (none4 3)) else some (none4 3)) else some (none4 3)) = some v ∧
      (if (l.length : Int) < val 0 h then some (none4 4) else if val 0 h < (h.length : Int) + 2 then some (none4 3) else
      if rd l (((val 0 h).toNat - 1 : Nat) : Int) = 10 then thwartref06_first.l1 m (val 0 h) (strOfNums (segOf l ((val 0 h).toNat - 1) h.length)) 0 else some (none4 3)) = some v) →
      ∀ k, 61000 ≤ k → recs_first.f k l = some v ∧ thwartref06_first.f k l = some v := by
    intro v hall k hk
    obtain ⟨m, hm, he⟩ := ref_at l h hb h1 hd k (by omega)
    rw [mine_at l h hb h1 hd k (by omega), he]
    exact hall k m hk hm
  by_cases c1 : (l.length : Int) < val 0 h
  · exact ⟨none4 4, both _ fun k m hk hm => by rw [if_pos c1, if_pos c1]; exact ⟨rfl, rfl⟩, .inr ⟨by decide, rfl⟩⟩
  by_cases c2 : val 0 h < (h.length : Int) + 2
  · exact ⟨none4 3, both _ fun k m hk hm => by rw [if_neg c1, if_neg c1, if_pos c2, if_pos c2]; exact ⟨rfl, rfl⟩, .inr ⟨by decide, rfl⟩⟩
  simp only [if_neg c1, if_neg c2] at both
  have hseg := seg_split l (val 0 h).toNat h.length (by omega) (by omega)
  have hsl : (segOf l ((val 0 h).toNat - 1) h.length).length ≤ 30000 := by unfold segOf; rw [List.length_drop, List.length_take]; omega
  generalize hB : segOf l ((val 0 h).toNat - 1) h.length = body at *
  have hrd : rd l (((val 0 h).toNat - 1 : Nat) : Int) = l[(val 0 h).toNat - 1]'(by omega) := rd_at l _ _
  have hlb := hb (l[(val 0 h).toNat - 1]'(by omega)) (List.getElem_mem _)
  rw [← hrd] at hlb
  generalize hLst : rd l (((val 0 h).toNat - 1 : Nat) : Int) = last at *
  have hsuf : Lib.hasSuffix (Lib.bytesOf (body ++ [last])) [10] = decide (last = 10) := by
    rw [show Lib.bytesOf (body ++ [last]) = Lib.bytesOf body ++ [UInt8.ofNat last.toNat] by simp [Lib.bytesOf], suf_is]
    have := ofNat_eq hlb.1 hlb.2 10
    by_cases e : last = 10
    · rw [decide_eq_true e]; exact beq_iff_eq.2 (this.2 e)
    · rw [decide_eq_false e]; exact beq_eq_false_iff_ne.2 (fun h => e (this.1 h))
  have hcut : ∀ c : Bool, decide (last = 10) = c → recs_cut.f (body ++ [last]) = some (c, ⟨(Lib.cut (Lib.bytesOf (recs_body (body ++ [last]))) [61]).1.toArray⟩, ⟨(Lib.cut (Lib.bytesOf (recs_body (body ++ [last]))) [61]).2.1.toArray⟩, (Lib.cut (Lib.bytesOf (recs_body (body ++ [last]))) [61]).2.2) := by
    intro c hc
    unfold recs_cut.f
    rw [if_pos (by rw [List.length_append]; simp; omega), hsuf, hc]
  rw [hseg] at both
  by_cases c3 : last = 10
  case neg =>
    refine ⟨none4 3, both _ fun k m hk hm => ?_, .inr ⟨by decide, rfl⟩⟩
    rw [hcut false (decide_eq_false c3), Option.bind_some, if_neg c3]
    exact ⟨rfl, rfl⟩
  have hbody : recs_body (body ++ [last]) = body := by
    unfold recs_body
    rw [hsuf, if_pos (decide_eq_true c3), List.length_append, show body.length + [last].length - 1 = body.length by simp, List.take_left]
  rw [hcut true (decide_eq_true c3), hbody, Option.bind_some] at both
  simp only [if_pos c3, if_true] at both
  have hsz : (strOfNums body).size = (Lib.bytesOf body).length := by rw [szL, numsL]
  have hbl : (Lib.bytesOf body).length = body.length := Lib.bytesOf_length body
  rcases cut_is (Lib.bytesOf body) with ⟨hn, hc⟩ | ⟨a, b, hab, ha, hc⟩
  · refine ⟨none4 3, both _ fun k m hk hm => ?_, .inr ⟨by decide, rfl⟩⟩
    rw [hc, if_neg (by decide)]
    refine ⟨rfl, ?_⟩
    have := eq_loop (strOfNums body) (val 0 h) (by omega) (Lib.bytesOf body) [] (by rw [numsL, List.append_nil]) hn (Lib.bytesOf body).length m 0 (by omega) (by omega)
    rw [show ((0 : Nat) : Int) = 0 from rfl] at this
    obtain ⟨q, hq⟩ : ∃ q, m - (Lib.bytesOf body).length = q + 1 := ⟨m - (Lib.bytesOf body).length - 1, by omega⟩
    rw [this, hq, thwartref06_first.l1, if_neg (by omega)]
  · have hal : (Lib.bytesOf body).length = a.length + 1 + b.length := by rw [hab]; simp; omega
    have hka : (⟨a.toArray⟩ : ByteArray).size = a.length := by rw [szL]
    have hkb : (⟨b.toArray⟩ : ByteArray).size = b.length := by rw [szL]
    have hex : (strOfNums body).extract 0 a.length = ⟨a.toArray⟩ := ext_list _ _ (by rw [extL, numsL, hab]; simp)
    have hex2 : (strOfNums body).extract (a.length + 1) (strOfNums body).size = ⟨b.toArray⟩ := ext_list _ _ (by
      rw [extL, numsL, hsz, hal, hab]
      have : (a ++ 61 :: b).drop (a.length + 1) = b := by
        rw [show a ++ 61 :: b = (a ++ [61]) ++ b by simp, show a.length + 1 = (a ++ [(61 : UInt8)]).length by simp, List.drop_left]
      rw [this, List.take_of_length_le (by omega)])
    have hloop : ∀ m, 60990 ≤ m → ∃ q, m ≤ q + 30001 ∧ thwartref06_first.l1 m (val 0 h) (strOfNums body) 0 = (thwartref06_One.f q ⟨a.toArray⟩ ⟨b.toArray⟩).bind fun x => (if x.2 = 0 then (if (x.1.length : Int) = val 0 h then some ((⟨a.toArray⟩ : ByteArray), (⟨b.toArray⟩ : ByteArray), val 0 h, 0) else some (none4 3)) else some (none4 3)) := by
      intro m hm
      have := eq_loop (strOfNums body) (val 0 h) (by omega) a (61 :: b) (by rw [numsL, hab]) ha a.length m 0 (by omega) (by omega)
      rw [show ((0 : Nat) : Int) = 0 from rfl] at this
      obtain ⟨q, hq⟩ : ∃ q, m - a.length = q + 1 := ⟨m - a.length - 1, by omega⟩
      refine ⟨q, by omega, ?_⟩
      have hbt : bt (strOfNums body) (a.length : Int) = 61 := (bt_eq (strOfNums body) a.length (by rw [numsL]; omega) 61).2 (by simp [numsL, hab])
      rw [this, hq, thwartref06_first.l1, if_pos (by omega), if_pos (by omega), if_pos hbt, if_pos (by omega), wrap_small (by omega) (by omega), if_pos (by omega), if_pos (by omega), Int.toNat_natCast, hex, show ((a.length : Int) + 1).toNat = a.length + 1 by omega, hex2]
    have hlm := len_mine ⟨a.toArray⟩ ⟨b.toArray⟩ (by rw [hka]; omega)
    simp only [hc, if_true] at both
    rw [hlm, Option.bind_some] at both
    by_cases c4 : mayE ⟨a.toArray⟩ ⟨b.toArray⟩ = 0
    · rw [if_pos c4] at both
      by_cases c5 : L (((⟨a.toArray⟩ : ByteArray).size : Int) + ((⟨b.toArray⟩ : ByteArray).size : Int) + 3) = val 0 h
      · refine ⟨(⟨a.toArray⟩, ⟨b.toArray⟩, val 0 h, 0), both _ fun k m hk hm => ?_, .inl ⟨rfl, by dsimp only; omega, by dsimp only; omega, h, hd, rfl, by omega, c4, c5, ?_⟩⟩
        · rw [if_pos c5]
          refine ⟨rfl, ?_⟩
          obtain ⟨q, hq, he⟩ := hloop m (by omega)
          obtain ⟨x, h5, h6⟩ := one_ref ⟨a.toArray⟩ ⟨b.toArray⟩ (by rw [hka]; omega) q (by rw [hka]; omega)
          rw [he, h5, Option.bind_some]
          dsimp only
          rw [if_pos c4, if_pos ((h6 c4).trans c5)]
        · rw [hseg, show Lib.bytesOf (body ++ [last]) = Lib.bytesOf body ++ [UInt8.ofNat last.toNat] by simp [Lib.bytesOf], hab, c3]
          simp
      · refine ⟨none4 3, both _ fun k m hk hm => ?_, .inr ⟨by decide, rfl⟩⟩
        rw [if_neg c5]
        refine ⟨rfl, ?_⟩
        obtain ⟨q, hq, he⟩ := hloop m (by omega)
        obtain ⟨x, h5, h6⟩ := one_ref ⟨a.toArray⟩ ⟨b.toArray⟩ (by rw [hka]; omega) q (by rw [hka]; omega)
        rw [he, h5, Option.bind_some]
        dsimp only
        rw [if_pos c4, if_neg (fun e => c5 ((h6 c4).symm.trans e))]
    · rw [if_neg c4] at both
      refine ⟨none4 3, both _ fun k m hk hm => ?_, .inr ⟨by decide, rfl⟩⟩
      rw [if_neg (by omega)]
      refine ⟨rfl, ?_⟩
      obtain ⟨q, hq, he⟩ := hloop m (by omega)
      obtain ⟨x, h5, h6⟩ := one_ref ⟨a.toArray⟩ ⟨b.toArray⟩ (by rw [hka]; omega) q (by rw [hka]; omega)
      rw [he, h5, Option.bind_some]
      dsimp only
      rw [if_neg c4]
end Go.Proofs.YthjljkdiglpbaaaDoor.Q
