import Derived.Test.YthjljkdiglpbaaaDoorZB5
import Derived.Laws.BitsAllLaws
-- F75
-- Written by xprint.py (a program of this session's, over the kit's printer) out of the translation. Not trusted: Lean checks it.
namespace Go.Proofs.YthjljkdiglpbaaaDoor.P
open Go.RowKit Go.Proofs.YthjljkdiglpbaaaDoorW.PrintWords Go.Proofs.YthjljkdiglpbaaaDoorW.PrintLast Go.Proofs.YthjljkdiglpbaaaDoorW.PrintMore Go.Proofs.YthjljkdiglpbaaaDoor.Hand
attribute [local go_sem] max2_int min2_int max_two min_two max_three min_three max_four min_four   -- for this text's walks alone
set_option linter.unusedVariables false
set_option linter.unusedSimpArgs false

/-! ### thwartref01_base: function 75 -/
mutual
def thwartref01_base.l0 : Nat → List Int → Bool → Option (Int × Bool)
  | 0, _, _ => none
  | k + 1, x0, x1 => if (x0.length : Int) > 8 then (if x1 = true then (if 0 < (x0.length : Int) then (if (rd x0 0) = 255 then (if 1 ≤ (x0.length : Int) then (thwartref01_base.l0 k (x0.drop 1) x1) else (none)) else (some (0, false))) else (none)) else (if 0 < (x0.length : Int) then (if (rd x0 0) = 0 then (if 1 ≤ (x0.length : Int) then (thwartref01_base.l0 k (x0.drop 1) x1) else (none)) else (some (0, false))) else (none))) else (if (x0.length : Int) = 8 then (if 0 < (x0.length : Int) then (thwartref01_base.j1 k x0 x1 (x1 != (decide ((rd x0 0) ≥ 128)))) else (none)) else (thwartref01_base.j1 k x0 x1 false))
def thwartref01_base.j1 : Nat → List Int → Bool → Bool → Option (Int × Bool)
  | 0, _, _, _ => none
  | k + 1, x0, x1, x40 => if x40 = true then (some (0, false)) else (if x1 = true then (thwartref01_base.j2 k x0 (-1)) else (thwartref01_base.j2 k x0 0))
def thwartref01_base.j2 : Nat → List Int → Int → Option (Int × Bool)
  | 0, _, _ => none
  | k + 1, x0, x6 => thwartref01_base.l1 k x0 x6 0
def thwartref01_base.l1 : Nat → List Int → Int → Int → Option (Int × Bool)
  | 0, _, _, _ => none
  | k + 1, x0, x6, x7 => if x7 < (x0.length : Int) then (if 0 ≤ x7 then (thwartref01_base.l1 k x0 (wrap64 ((wrap64 (x6 * 256)) + (wrap64 (rd x0 x7)))) (wrap64 (x7 + 1))) else (none)) else (some (x6, true))
end
def thwartref01_base.f (k : Nat) (l0 : List Int) (a1 : Bool) : Option (Int × Bool) := thwartref01_base.l0 k l0 a1
theorem thwartref01_base.mono_l : ∀ k, (∀ y0 y1, LeO (thwartref01_base.l0 k y0 y1) (thwartref01_base.l0 (k + 1) y0 y1)) ∧ (∀ y0 y1 y2, LeO (thwartref01_base.j1 k y0 y1 y2) (thwartref01_base.j1 (k + 1) y0 y1 y2)) ∧ (∀ y0 y1, LeO (thwartref01_base.j2 k y0 y1) (thwartref01_base.j2 (k + 1) y0 y1)) ∧ (∀ y0 y1 y2, LeO (thwartref01_base.l1 k y0 y1 y2) (thwartref01_base.l1 (k + 1) y0 y1 y2))
  | 0 => ⟨fun _ _ r h => by simp [thwartref01_base.l0] at h, fun _ _ _ r h => by simp [thwartref01_base.j1] at h, fun _ _ r h => by simp [thwartref01_base.j2] at h, fun _ _ _ r h => by simp [thwartref01_base.l1] at h⟩
  | k + 1 => by
    obtain ⟨ih0, ih1, ih2, ih3⟩ := thwartref01_base.mono_l k
    refine ⟨?_, ?_, ?_, ?_⟩
    · intro y0 y1
      unfold thwartref01_base.l0
      repeat' first
      | (with_reducible exact ih0 _ _)
      | (with_reducible exact ih1 _ _ _)
      | (with_reducible exact ih2 _ _)
      | (with_reducible exact ih3 _ _ _)
      | (with_reducible exact LeO.refl _)
      | (with_reducible exact LeO.none _)
      | (with_reducible refine LeO.ite ?_ ?_)
      | (with_reducible refine LeO.bind ?_ (fun _ => ?_))
      | exact ih0 _ _
      | exact ih1 _ _ _
      | exact ih2 _ _
      | exact ih3 _ _ _
      | exact LeO.none _
      | refine LeO.ite ?_ ?_
      | refine LeO.bind ?_ (fun _ => ?_)
    · intro y0 y1 y2
      unfold thwartref01_base.j1
      repeat' first
      | (with_reducible exact ih0 _ _)
      | (with_reducible exact ih1 _ _ _)
      | (with_reducible exact ih2 _ _)
      | (with_reducible exact ih3 _ _ _)
      | (with_reducible exact LeO.refl _)
      | (with_reducible exact LeO.none _)
      | (with_reducible refine LeO.ite ?_ ?_)
      | (with_reducible refine LeO.bind ?_ (fun _ => ?_))
      | exact ih0 _ _
      | exact ih1 _ _ _
      | exact ih2 _ _
      | exact ih3 _ _ _
      | exact LeO.none _
      | refine LeO.ite ?_ ?_
      | refine LeO.bind ?_ (fun _ => ?_)
    · intro y0 y1
      unfold thwartref01_base.j2
      repeat' first
      | (with_reducible exact ih0 _ _)
      | (with_reducible exact ih1 _ _ _)
      | (with_reducible exact ih2 _ _)
      | (with_reducible exact ih3 _ _ _)
      | (with_reducible exact LeO.refl _)
      | (with_reducible exact LeO.none _)
      | (with_reducible refine LeO.ite ?_ ?_)
      | (with_reducible refine LeO.bind ?_ (fun _ => ?_))
      | exact ih0 _ _
      | exact ih1 _ _ _
      | exact ih2 _ _
      | exact ih3 _ _ _
      | exact LeO.none _
      | refine LeO.ite ?_ ?_
      | refine LeO.bind ?_ (fun _ => ?_)
    · intro y0 y1 y2
      unfold thwartref01_base.l1
      repeat' first
      | (with_reducible exact ih0 _ _)
      | (with_reducible exact ih1 _ _ _)
      | (with_reducible exact ih2 _ _)
      | (with_reducible exact ih3 _ _ _)
      | (with_reducible exact LeO.refl _)
      | (with_reducible exact LeO.none _)
      | (with_reducible refine LeO.ite ?_ ?_)
      | (with_reducible refine LeO.bind ?_ (fun _ => ?_))
      | exact ih0 _ _
      | exact ih1 _ _ _
      | exact ih2 _ _
      | exact ih3 _ _ _
      | exact LeO.none _
      | refine LeO.ite ?_ ?_
      | refine LeO.bind ?_ (fun _ => ?_)
theorem thwartref01_base.mono : ∀ a0 a1 k, LeO (thwartref01_base.f k a0 a1) (thwartref01_base.f (k + 1) a0 a1) := by
  intro a0 a1 k
  obtain ⟨ih0, ih1, ih2, ih3⟩ := thwartref01_base.mono_l k
  unfold thwartref01_base.f
  repeat' first
      | (with_reducible exact ih0 _ _)
      | (with_reducible exact ih1 _ _ _)
      | (with_reducible exact ih2 _ _)
      | (with_reducible exact ih3 _ _ _)
      | (with_reducible exact LeO.refl _)
      | (with_reducible exact LeO.none _)
      | (with_reducible refine LeO.ite ?_ ?_)
      | (with_reducible refine LeO.bind ?_ (fun _ => ?_))
      | exact ih0 _ _
      | exact ih1 _ _ _
      | exact ih2 _ _
      | exact ih3 _ _ _
      | exact LeO.none _
      | refine LeO.ite ?_ ?_
      | refine LeO.bind ?_ (fun _ => ?_)
set_option maxHeartbeats 8000000 in
set_option maxRecDepth 100000 in
theorem thwartref01_base.calls (k : Nat) (P0_ : Nat → Prop) (A0 : Option Addr) (c0 : Nat) (l0 : List Int) (a1 : Bool) (r1 : Int) (r2 : Bool) (w : World) (hs0 : Kd.V (Kd.int .u8) 5 w w.heap.size (fun k_ => P0_ k_) (.slice A0 l0.length c0) l0) (h : thwartref01_base.f k l0 a1 = some (r1, r2)) :
    Calls Tryd.prog 75 #[.slice A0 l0.length c0, .bool a1] w fun e w' => e = .returned (.tuple #[.int .i64 r1, .bool r2]) ∧ Below w.heap.size w w' := by
  have HO0 := Aside0.mk (show Kd.V (Kd.int .u8) 5 w w.heap.size (fun k_ => (P0_ k_ ∨ w.heap.size ≤ k_)) (.slice A0 l0.length c0) l0 from Kd.V_mono hs0 (fun k_ hk => .inl hk))
  have HB := Aside0.mk (Below.refl w.heap.size w)
  have H : (thwartref01_base.l0 k l0 a1) = some (r1, r2) := h
  clear h
  have H' := Aside0.mk H
  clear H
  go_enter Tryd.func75, Tryd.ntmps75
  go_wp2
  go_loopg [0] k (fun kq v0 w' => ∃ (x0_1 : List Int), Aside0 (thwartref01_base.l0 kq x0_1 a1 = some (r1, r2)) ∧ Aside0 (kq ≤ k) ∧ Aside0 (Kd.V (Kd.int .u8) 5 w' w.heap.size (fun k_ => (P0_ k_ ∨ w.heap.size ≤ k_)) v0 x0_1) ∧ Aside0 (Below w.heap.size w w'))
  case atStart => exact ⟨(l0), H', ⟨Nat.le_refl _⟩, ⟨by (with_reducible repeat (first | apply Kd.V_alloc | apply Kd.V_drewN | apply Kd.V_drew)); exact HO0.out⟩, ⟨by repeat (first | (with_reducible first | exact HB.out | apply below_alloc | apply pw_below_drewN | apply below_drew1) | exact HB.out)⟩⟩
  case round =>
    clear H'
    try clear p2
    obtain ⟨x0_1, HA, HK1, HO_0, HB⟩ := hrel
    cases gk with
    | zero => exact absurd HA.out (by simp [thwartref01_base.l0])
    | succ k1 =>
      have H := HA.out
      clear HA
      simp only [thwartref01_base.l0] at H
      by_cases c3 : (x0_1.length : Int) > 8
      · rw [if_pos c3] at H
        have c3b0 : decide (8 < (x0_1.length : Int)) = true := decide_eq_true c3
        have c3b1 : decide (8 < x0_1.length) = true := decide_eq_true (by omega)
        clear c3
        by_cases c4 : a1 = true
        · subst c4
          have H1 : (if 0 < (x0_1.length : Int) then (if (rd x0_1 0) = 255 then (if 1 ≤ (x0_1.length : Int) then (thwartref01_base.l0 k1 (x0_1.drop 1) true) else (none)) else (some (0, false))) else (none)) = some (r1, r2) := by rw [if_pos rfl] at H; exact H
          clear H
          have H := H1
          clear H1
          by_cases c5 : 0 < (x0_1.length : Int)
          · rw [if_pos c5] at H
            have c5b0 : decide (0 < (x0_1.length : Int)) = true := decide_eq_true c5
            have c5b1 : decide (0 < x0_1.length) = true := decide_eq_true (by omega)
            clear c5
            by_cases c6 : (rd x0_1 0) = 255
            · rw [if_pos c6] at H
              have c6b0 : ((rd x0_1 0) == 255) = true := beq_iff_eq.mpr c6
              have c6b1 : ((rd x0_1 0) != 255) = false := bne_eq_false_iff_eq.mpr c6
              clear c6
              by_cases c7 : 1 ≤ (x0_1.length : Int)
              · rw [if_pos c7] at H
                have c7b0 := eq_true c7
                have c7b1 : decide (1 ≤ (x0_1.length : Int)) = true := decide_eq_true c7
                clear c7
                obtain ⟨y199, hy199⟩ : ∃ y_ : List Int, y_ = (x0_1.drop 1) := ⟨_, rfl⟩
                replace H : (thwartref01_base.l0 k1 y199 true) = some (r1, r2) := by first | (rw [hy199]; with_reducible exact H) | (have H2_ := (Option.bind_some _ _).symm.trans H; rw [hy199]; with_reducible exact H2_) | (have H2_ := (Option.bind_some _ _).symm.trans H; with_reducible exact H2_) | with_reducible exact H | (rw [hy199]; exact H) | exact H
                have Ny199 := Aside0.mk hy199
                clear hy199
                have H' := Aside0.mk H
                clear H
                obtain ⟨Ao8, co8, eo8⟩ := Kd.V_slice HO_0.out
                subst eo8
                have p198 : 0 ≤ (0 : Int) := (by omega)
                have q198 : 0 < (x0_1.length : Int) := of_decide_eq_true (by first | (with_reducible assumption) | assumption)
                obtain ⟨ad198, e198, hx198_0⟩ := Kd.at_int (Kd.V_reads' HO_0.out).2.2 0 p198 q198
                cases e198
                have qi198 : (0 < x0_1.length) = True := eq_true (by omega)
                (try rw [show ((0 : Int)).toNat = 0 from rfl] at hx198_0)
                (try rw [Addr.add_zero'] at hx198_0)
                replace p198 := eq_true p198
                replace q198 := eq_true q198
                have q9 : (1 : Int) ≤ ((x0_1.length : Int) : Int) := of_decide_eq_true (by first | (with_reducible assumption) | assumption)
                obtain ⟨i09, hi09, _, hsz9, _⟩ := info_parts info5
                have hroom9 : x0_1.length ≤ co8 := (Kd.V_reads' HO_0.out).2.1
                have hC9 : Kd.F (Kd.int .u8) _ _ (some ad198) x0_1.length x0_1 := (Kd.V_at (base := w.heap.size) HO_0.out).2.2
                have hcut9 := cut_from (P := Tryd.prog) 22 5 .i64 Tryd.underlying22 hi09 1 hsz9 (some ad198) x0_1.length co8 1 (by omega) q9
                have hr9 := Kd.F_cut (m := (1 : Int).toNat) (c := co8) hC9 (by omega) hroom9
                obtain ⟨A9, hA9⟩ : ∃ A1, A1 = (if co8 = (1 : Int).toNat then (some ad198) else ((some ad198) : Option Addr).map (·.add ((1 : Int).toNat * 1))) := ⟨_, rfl⟩
                obtain ⟨c9, hc9⟩ : ∃ c1, c1 = co8 - (1 : Int).toNat := ⟨_, rfl⟩
                have hy9 : y199.length = x0_1.length - (1 : Int).toNat := (by rw [Ny199.out, List.length_drop] <;> omega)
                rw [show (x0_1).drop (1 : Int).toNat = y199 from Ny199.out.symm] at hr9
                replace hr9 : Kd.F (Kd.int .u8) _ _ A9 y199.length y199 := (by rw [hA9]; exact hr9)
                rw [← hy9, ← hA9, ← hc9] at hcut9
                have HO203 := Aside0.mk (show Kd.V (Kd.int .u8) 5 _ w.heap.size _ (.slice A9 y199.length c9) y199 from Kd.V_mk (by rw [hy9, hc9]; exact Nat.sub_le_sub_right hroom9 _) hr9)
                have HC203 := Aside0.mk (show y199.length ≤ c9 from by rw [hy9, hc9]; exact Nat.sub_le_sub_right hroom9 _)
                clear hr9 hC9 hroom9 hi09 hsz9 hc9
                have KY9 := Aside0.mk hy9
                have KA9 := Aside0.mk hA9
                clear hy9 hA9
                replace q9 := eq_true q9
                go_wp2
                go_roundg k1
                case measure => have := HK1.out; omega
                case rel => exact ⟨(y199), H', ⟨by have := HK1.out; omega⟩, ⟨by (with_reducible repeat (first | apply Kd.V_alloc | apply Kd.V_drewN | apply Kd.V_drew)); exact HO203.out⟩, ⟨by repeat (first | (with_reducible first | exact HB.out | apply below_alloc | apply pw_below_drewN | apply below_drew1) | exact HB.out)⟩⟩
              · rw [if_neg c7] at H
                exact absurd H (by simp)
            · rw [if_neg c6] at H
              have c6b0 : ((rd x0_1 0) == 255) = false := beq_eq_false_iff_ne.mpr c6
              have c6b1 : ((rd x0_1 0) != 255) = true := bne_iff_ne.mpr c6
              simp only [Option.some.injEq, Prod.mk.injEq] at H
              obtain ⟨rfl, rfl⟩ := H
              obtain ⟨Ao10, co10, eo10⟩ := Kd.V_slice HO_0.out
              subst eo10
              have p198 : 0 ≤ (0 : Int) := (by omega)
              have q198 : 0 < (x0_1.length : Int) := of_decide_eq_true (by first | (with_reducible assumption) | assumption)
              obtain ⟨ad198, e198, hx198_0⟩ := Kd.at_int (Kd.V_reads' HO_0.out).2.2 0 p198 q198
              cases e198
              have qi198 : (0 < x0_1.length) = True := eq_true (by omega)
              (try rw [show ((0 : Int)).toNat = 0 from rfl] at hx198_0)
              (try rw [Addr.add_zero'] at hx198_0)
              replace p198 := eq_true p198
              replace q198 := eq_true q198
              go_wp2
              go_ret2
              exact ⟨by first | rfl | (simp [errW_none, errW_some] <;> rfl) | (simp [*, errW_none, errW_some] <;> rfl), by repeat (first | (with_reducible first | exact HB.out | apply below_alloc | apply pw_below_drewN | apply below_drew1) | exact HB.out)⟩
          · rw [if_neg c5] at H
            exact absurd H (by simp)
        · replace c4 := Bool.eq_false_iff.mpr c4
          subst c4
          have H1 : (if 0 < (x0_1.length : Int) then (if (rd x0_1 0) = 0 then (if 1 ≤ (x0_1.length : Int) then (thwartref01_base.l0 k1 (x0_1.drop 1) false) else (none)) else (some (0, false))) else (none)) = some (r1, r2) := by rw [if_neg (show ¬ (false = true) by decide)] at H; exact H
          clear H
          have H := H1
          clear H1
          by_cases c11 : 0 < (x0_1.length : Int)
          · rw [if_pos c11] at H
            have c11b0 : decide (0 < (x0_1.length : Int)) = true := decide_eq_true c11
            have c11b1 : decide (0 < x0_1.length) = true := decide_eq_true (by omega)
            clear c11
            by_cases c12 : (rd x0_1 0) = 0
            · rw [if_pos c12] at H
              have c12b0 : ((rd x0_1 0) == 0) = true := beq_iff_eq.mpr c12
              have c12b1 : ((rd x0_1 0) != 0) = false := bne_eq_false_iff_eq.mpr c12
              clear c12
              by_cases c13 : 1 ≤ (x0_1.length : Int)
              · rw [if_pos c13] at H
                have c13b0 := eq_true c13
                have c13b1 : decide (1 ≤ (x0_1.length : Int)) = true := decide_eq_true c13
                clear c13
                obtain ⟨y205, hy205⟩ : ∃ y_ : List Int, y_ = (x0_1.drop 1) := ⟨_, rfl⟩
                replace H : (thwartref01_base.l0 k1 y205 false) = some (r1, r2) := by first | (rw [hy205]; with_reducible exact H) | (have H2_ := (Option.bind_some _ _).symm.trans H; rw [hy205]; with_reducible exact H2_) | (have H2_ := (Option.bind_some _ _).symm.trans H; with_reducible exact H2_) | with_reducible exact H | (rw [hy205]; exact H) | exact H
                have Ny205 := Aside0.mk hy205
                clear hy205
                have H' := Aside0.mk H
                clear H
                obtain ⟨Ao14, co14, eo14⟩ := Kd.V_slice HO_0.out
                subst eo14
                have p204 : 0 ≤ (0 : Int) := (by omega)
                have q204 : 0 < (x0_1.length : Int) := of_decide_eq_true (by first | (with_reducible assumption) | assumption)
                obtain ⟨ad204, e204, hx204_0⟩ := Kd.at_int (Kd.V_reads' HO_0.out).2.2 0 p204 q204
                cases e204
                have qi204 : (0 < x0_1.length) = True := eq_true (by omega)
                (try rw [show ((0 : Int)).toNat = 0 from rfl] at hx204_0)
                (try rw [Addr.add_zero'] at hx204_0)
                replace p204 := eq_true p204
                replace q204 := eq_true q204
                have q15 : (1 : Int) ≤ ((x0_1.length : Int) : Int) := of_decide_eq_true (by first | (with_reducible assumption) | assumption)
                obtain ⟨i015, hi015, _, hsz15, _⟩ := info_parts info5
                have hroom15 : x0_1.length ≤ co14 := (Kd.V_reads' HO_0.out).2.1
                have hC15 : Kd.F (Kd.int .u8) _ _ (some ad204) x0_1.length x0_1 := (Kd.V_at (base := w.heap.size) HO_0.out).2.2
                have hcut15 := cut_from (P := Tryd.prog) 22 5 .i64 Tryd.underlying22 hi015 1 hsz15 (some ad204) x0_1.length co14 1 (by omega) q15
                have hr15 := Kd.F_cut (m := (1 : Int).toNat) (c := co14) hC15 (by omega) hroom15
                obtain ⟨A15, hA15⟩ : ∃ A1, A1 = (if co14 = (1 : Int).toNat then (some ad204) else ((some ad204) : Option Addr).map (·.add ((1 : Int).toNat * 1))) := ⟨_, rfl⟩
                obtain ⟨c15, hc15⟩ : ∃ c1, c1 = co14 - (1 : Int).toNat := ⟨_, rfl⟩
                have hy15 : y205.length = x0_1.length - (1 : Int).toNat := (by rw [Ny205.out, List.length_drop] <;> omega)
                rw [show (x0_1).drop (1 : Int).toNat = y205 from Ny205.out.symm] at hr15
                replace hr15 : Kd.F (Kd.int .u8) _ _ A15 y205.length y205 := (by rw [hA15]; exact hr15)
                rw [← hy15, ← hA15, ← hc15] at hcut15
                have HO209 := Aside0.mk (show Kd.V (Kd.int .u8) 5 _ w.heap.size _ (.slice A15 y205.length c15) y205 from Kd.V_mk (by rw [hy15, hc15]; exact Nat.sub_le_sub_right hroom15 _) hr15)
                have HC209 := Aside0.mk (show y205.length ≤ c15 from by rw [hy15, hc15]; exact Nat.sub_le_sub_right hroom15 _)
                clear hr15 hC15 hroom15 hi015 hsz15 hc15
                have KY15 := Aside0.mk hy15
                have KA15 := Aside0.mk hA15
                clear hy15 hA15
                replace q15 := eq_true q15
                go_wp2
                go_roundg k1
                case measure => have := HK1.out; omega
                case rel => exact ⟨(y205), H', ⟨by have := HK1.out; omega⟩, ⟨by (with_reducible repeat (first | apply Kd.V_alloc | apply Kd.V_drewN | apply Kd.V_drew)); exact HO209.out⟩, ⟨by repeat (first | (with_reducible first | exact HB.out | apply below_alloc | apply pw_below_drewN | apply below_drew1) | exact HB.out)⟩⟩
              · rw [if_neg c13] at H
                exact absurd H (by simp)
            · rw [if_neg c12] at H
              have c12b0 : ((rd x0_1 0) == 0) = false := beq_eq_false_iff_ne.mpr c12
              have c12b1 : ((rd x0_1 0) != 0) = true := bne_iff_ne.mpr c12
              simp only [Option.some.injEq, Prod.mk.injEq] at H
              obtain ⟨rfl, rfl⟩ := H
              obtain ⟨Ao16, co16, eo16⟩ := Kd.V_slice HO_0.out
              subst eo16
              have p204 : 0 ≤ (0 : Int) := (by omega)
              have q204 : 0 < (x0_1.length : Int) := of_decide_eq_true (by first | (with_reducible assumption) | assumption)
              obtain ⟨ad204, e204, hx204_0⟩ := Kd.at_int (Kd.V_reads' HO_0.out).2.2 0 p204 q204
              cases e204
              have qi204 : (0 < x0_1.length) = True := eq_true (by omega)
              (try rw [show ((0 : Int)).toNat = 0 from rfl] at hx204_0)
              (try rw [Addr.add_zero'] at hx204_0)
              replace p204 := eq_true p204
              replace q204 := eq_true q204
              go_wp2
              go_ret2
              exact ⟨by first | rfl | (simp [errW_none, errW_some] <;> rfl) | (simp [*, errW_none, errW_some] <;> rfl), by repeat (first | (with_reducible first | exact HB.out | apply below_alloc | apply pw_below_drewN | apply below_drew1) | exact HB.out)⟩
          · rw [if_neg c11] at H
            exact absurd H (by simp)
      · rw [if_neg c3] at H
        have c3b0 : decide (8 < (x0_1.length : Int)) = false := decide_eq_false c3
        have c3b1 : decide (8 < x0_1.length) = false := decide_eq_false (by omega)
        clear c3
        have HC17 := Aside0.mk H
        clear H
        obtain ⟨Ao18, co18, eo18⟩ := Kd.V_slice HO_0.out
        subst eo18
        go_upto_region 5 with (fail)
        go_cut [40] (fun v40 wc => ∃ (kq : Nat) (x40_16 : Bool), v40 = .bool x40_16 ∧ Aside0 (thwartref01_base.j1 kq x0_1 a1 x40_16 = some (r1, r2)) ∧ Aside0 (kq ≤ k1) ∧ Aside0 (Kd.V (Kd.int .u8) 5 wc w.heap.size (fun k_ => (P0_ k_ ∨ w.heap.size ≤ k_)) (.slice Ao18 x0_1.length co18) x0_1) ∧ Aside0 (Below w.heap.size w wc))
        case first =>
          have H := HC17.out
          clear HC17
          by_cases c19 : (x0_1.length : Int) = 8
          · rw [if_pos c19] at H
            have c19b0 : ((x0_1.length : Int) == 8) = true := beq_iff_eq.mpr c19
            have c19b1 : ((x0_1.length : Int) != 8) = false := bne_eq_false_iff_eq.mpr c19
            clear c19
            (first | rw [c19b0] | (simp only [i64_w, i32_w]; rw [c19b0]) | skip)
            by_cases c20 : 0 < (x0_1.length : Int)
            · rw [if_pos c20] at H
              have c20b0 : decide (0 < (x0_1.length : Int)) = true := decide_eq_true c20
              have c20b1 : decide (0 < x0_1.length) = true := decide_eq_true (by omega)
              clear c20
              have H' := Aside0.mk H
              clear H
              have p210 : 0 ≤ (0 : Int) := (by omega)
              have q210 : 0 < (x0_1.length : Int) := of_decide_eq_true (by first | (with_reducible assumption) | assumption)
              obtain ⟨ad210, e210, hx210_0⟩ := Kd.at_int (Kd.V_reads' HO_0.out).2.2 0 p210 q210
              cases e210
              have qi210 : (0 < x0_1.length) = True := eq_true (by omega)
              (try rw [show ((0 : Int)).toNat = 0 from rfl] at hx210_0)
              (try rw [Addr.add_zero'] at hx210_0)
              replace p210 := eq_true p210
              replace q210 := eq_true q210
              go_wp2
              go_meet
              case rel => exact ⟨_, ((a1 != (decide ((rd x0_1 0) ≥ 128)))), (by first | rfl | (simp; done) | (simp [*]; done)), H', ⟨by have := HK1.out; first | omega | exact Nat.le_refl _⟩, ⟨by (with_reducible repeat (first | apply Kd.V_alloc | apply Kd.V_drewN | apply Kd.V_drew)); exact HO_0.out⟩, ⟨by repeat (first | (with_reducible first | exact HB.out | apply below_alloc | apply pw_below_drewN | apply below_drew1) | exact HB.out)⟩⟩
            · rw [if_neg c20] at H
              exact absurd H (by simp)
          · rw [if_neg c19] at H
            have c19b0 : ((x0_1.length : Int) == 8) = false := beq_eq_false_iff_ne.mpr c19
            have c19b1 : ((x0_1.length : Int) != 8) = true := bne_iff_ne.mpr c19
            (first | rw [c19b0] | (simp only [i64_w, i32_w]; rw [c19b0]) | skip)
            have H' := Aside0.mk H
            clear H
            go_wp2
            go_meet
            case rel => exact ⟨_, (false), (by first | rfl | (simp; done) | (simp [*]; done)), H', ⟨by have := HK1.out; first | omega | exact Nat.le_refl _⟩, ⟨by (with_reducible repeat (first | apply Kd.V_alloc | apply Kd.V_drewN | apply Kd.V_drew)); exact HO_0.out⟩, ⟨by repeat (first | (with_reducible first | exact HB.out | apply below_alloc | apply pw_below_drewN | apply below_drew1) | exact HB.out)⟩⟩
        case rest =>
          clear HC17
          try clear c1
          try clear p1
          try clear q1
          try clear hx1
          try clear qi1
          try clear c2
          try clear p2
          try clear q2
          try clear hx2
          try clear qi2
          try clear c3
          try clear c3b0
          try clear c3b1
          try clear c4
          try clear c5
          try clear c5b0
          try clear c5b1
          try clear c6
          try clear c6b0
          try clear c6b1
          try clear c7
          try clear c7b0
          try clear c7b1
          try clear c9
          try clear q9
          try clear c11
          try clear c11b0
          try clear c11b1
          try clear c12
          try clear c12b0
          try clear c12b1
          try clear c13
          try clear c13b0
          try clear c13b1
          try clear c15
          try clear q15
          try clear c19
          try clear c19b0
          try clear c19b1
          try clear p19
          try clear q19
          try clear hx19
          try clear qi19
          try clear c20
          try clear c20b0
          try clear c20b1
          try clear p20
          try clear q20
          try clear hx20
          try clear qi20
          try clear hx198_0
          try clear hx204_0
          try clear hx210_0
          try clear p198
          try clear p2
          try clear p204
          try clear p210
          try clear q15
          try clear q198
          try clear q204
          try clear q210
          try clear q9
          obtain ⟨kq, x40_16, rfl, HA, HJ16, HO_0, HB⟩ := hcut
          cases kq with
          | zero => exact absurd HA.out (by simp [thwartref01_base.j1])
          | succ kj16 =>
            have H := HA.out
            clear HA
            simp only [thwartref01_base.j1] at H
            by_cases c21 : x40_16 = true
            · subst c21
              have H1 : (some (0, false)) = some (r1, r2) := by rw [if_pos rfl] at H; exact H
              clear H
              have H := H1
              clear H1
              simp only [Option.some.injEq, Prod.mk.injEq] at H
              obtain ⟨rfl, rfl⟩ := H
              go_wp2
              go_ret2
              exact ⟨by first | rfl | (simp [errW_none, errW_some] <;> rfl) | (simp [*, errW_none, errW_some] <;> rfl), by repeat (first | (with_reducible first | exact HB.out | apply below_alloc | apply pw_below_drewN | apply below_drew1) | exact HB.out)⟩
            · replace c21 := Bool.eq_false_iff.mpr c21
              subst c21
              have H1 : (if a1 = true then (thwartref01_base.j2 kj16 x0_1 (-1)) else (thwartref01_base.j2 kj16 x0_1 0)) = some (r1, r2) := by rw [if_neg (show ¬ (false = true) by decide)] at H; exact H
              clear H
              have H := H1
              clear H1
              have HC22 := Aside0.mk H
              clear H
              go_upto_if 41 with (fail)
              go_cut [6] (fun v6 wc => ∃ (kq : Nat) (x6_21 : Int), v6 = .int .i64 x6_21 ∧ Aside0 (thwartref01_base.j2 kq x0_1 x6_21 = some (r1, r2)) ∧ Aside0 (kq ≤ kj16) ∧ Aside0 (Kd.V (Kd.int .u8) 5 wc w.heap.size (fun k_ => (P0_ k_ ∨ w.heap.size ≤ k_)) (.slice Ao18 x0_1.length co18) x0_1) ∧ Aside0 (Below w.heap.size w wc))
              case first =>
                have H := HC22.out
                clear HC22
                by_cases c23 : a1 = true
                · subst c23
                  have H1 : (thwartref01_base.j2 kj16 x0_1 (-1)) = some (r1, r2) := by rw [if_pos rfl] at H; exact H
                  clear H
                  have H := H1
                  clear H1
                  have H' := Aside0.mk H
                  clear H
                  go_wp2
                  go_meet
                  case rel => exact ⟨_, ((-1)), (by first | rfl | (simp; done) | (simp [*]; done)), H', ⟨by have := HK1.out; have := HJ16.out; first | omega | exact Nat.le_refl _⟩, ⟨by (with_reducible repeat (first | apply Kd.V_alloc | apply Kd.V_drewN | apply Kd.V_drew)); exact HO_0.out⟩, ⟨by repeat (first | (with_reducible first | exact HB.out | apply below_alloc | apply pw_below_drewN | apply below_drew1) | exact HB.out)⟩⟩
                · replace c23 := Bool.eq_false_iff.mpr c23
                  subst c23
                  have H1 : (thwartref01_base.j2 kj16 x0_1 0) = some (r1, r2) := by rw [if_neg (show ¬ (false = true) by decide)] at H; exact H
                  clear H
                  have H := H1
                  clear H1
                  have H' := Aside0.mk H
                  clear H
                  go_wp2
                  go_meet
                  case rel => exact ⟨_, (0), (by first | rfl | (simp; done) | (simp [*]; done)), H', ⟨by have := HK1.out; have := HJ16.out; first | omega | exact Nat.le_refl _⟩, ⟨by (with_reducible repeat (first | apply Kd.V_alloc | apply Kd.V_drewN | apply Kd.V_drew)); exact HO_0.out⟩, ⟨by repeat (first | (with_reducible first | exact HB.out | apply below_alloc | apply pw_below_drewN | apply below_drew1) | exact HB.out)⟩⟩
              case rest =>
                clear HC22
                try clear c1
                try clear p1
                try clear q1
                try clear hx1
                try clear qi1
                try clear c2
                try clear p2
                try clear q2
                try clear hx2
                try clear qi2
                try clear c3
                try clear c3b0
                try clear c3b1
                try clear c4
                try clear c5
                try clear c5b0
                try clear c5b1
                try clear c6
                try clear c6b0
                try clear c6b1
                try clear c7
                try clear c7b0
                try clear c7b1
                try clear c9
                try clear q9
                try clear c11
                try clear c11b0
                try clear c11b1
                try clear c12
                try clear c12b0
                try clear c12b1
                try clear c13
                try clear c13b0
                try clear c13b1
                try clear c15
                try clear q15
                try clear c19
                try clear c19b0
                try clear c19b1
                try clear p19
                try clear q19
                try clear hx19
                try clear qi19
                try clear c20
                try clear c20b0
                try clear c20b1
                try clear p20
                try clear q20
                try clear hx20
                try clear qi20
                try clear c21
                try clear p21
                try clear q21
                try clear hx21
                try clear qi21
                try clear c23
                try clear hx198_0
                try clear hx204_0
                try clear hx210_0
                try clear p1
                try clear p19
                try clear p198
                try clear p2
                try clear p20
                try clear p204
                try clear p210
                try clear q1
                try clear q15
                try clear q19
                try clear q198
                try clear q2
                try clear q20
                try clear q204
                try clear q210
                try clear q9
                obtain ⟨kq, x6_21, rfl, HA, HJ21, HO_0, HB⟩ := hcut
                cases kq with
                | zero => exact absurd HA.out (by simp [thwartref01_base.j2])
                | succ kj21 =>
                  have H := HA.out
                  clear HA
                  simp only [thwartref01_base.j2] at H
                  have H' := Aside0.mk H
                  clear H
                  go_wp2
                  go_loopg [6, 7] kj21 (fun kq v6 v7 w' => ∃ (x6_4 : Int) (x7_4 : Int), v6 = .int .i64 x6_4 ∧ v7 = .int .i64 x7_4 ∧ Aside0 (thwartref01_base.l1 kq x0_1 x6_4 x7_4 = some (r1, r2)) ∧ Aside0 (kq ≤ kj21) ∧ Aside0 (Kd.V (Kd.int .u8) 5 w' w.heap.size (fun k_ => (P0_ k_ ∨ w.heap.size ≤ k_)) (.slice Ao18 x0_1.length co18) x0_1) ∧ Aside0 (Below w.heap.size w w'))
                  case atStart => exact ⟨(x6_21), (0), (by first | rfl | (simp; done) | (simp [*]; done)), (by first | rfl | (simp; done) | (simp [*]; done)), H', ⟨Nat.le_refl _⟩, ⟨by (with_reducible repeat (first | apply Kd.V_alloc | apply Kd.V_drewN | apply Kd.V_drew)); exact HO_0.out⟩, ⟨by repeat (first | (with_reducible first | exact HB.out | apply below_alloc | apply pw_below_drewN | apply below_drew1) | exact HB.out)⟩⟩
                  case round =>
                    clear H'
                    try clear c1
                    try clear p1
                    try clear q1
                    try clear hx1
                    try clear qi1
                    try clear c2
                    try clear p2
                    try clear q2
                    try clear hx2
                    try clear qi2
                    try clear c3
                    try clear c3b0
                    try clear c3b1
                    try clear c4
                    try clear c5
                    try clear c5b0
                    try clear c5b1
                    try clear c6
                    try clear c6b0
                    try clear c6b1
                    try clear c7
                    try clear c7b0
                    try clear c7b1
                    try clear c9
                    try clear q9
                    try clear c11
                    try clear c11b0
                    try clear c11b1
                    try clear c12
                    try clear c12b0
                    try clear c12b1
                    try clear c13
                    try clear c13b0
                    try clear c13b1
                    try clear c15
                    try clear q15
                    try clear c19
                    try clear c19b0
                    try clear c19b1
                    try clear p19
                    try clear q19
                    try clear hx19
                    try clear qi19
                    try clear c20
                    try clear c20b0
                    try clear c20b1
                    try clear p20
                    try clear q20
                    try clear hx20
                    try clear qi20
                    try clear c21
                    try clear p21
                    try clear q21
                    try clear hx21
                    try clear qi21
                    try clear c23
                    try clear hx198_0
                    try clear hx204_0
                    try clear hx210_0
                    try clear p1
                    try clear p19
                    try clear p198
                    try clear p2
                    try clear p20
                    try clear p204
                    try clear p21
                    try clear p210
                    try clear q1
                    try clear q15
                    try clear q19
                    try clear q198
                    try clear q2
                    try clear q20
                    try clear q204
                    try clear q21
                    try clear q210
                    try clear q9
                    obtain ⟨x6_4, x7_4, rfl, rfl, HA, HK4, HO_0, HB⟩ := hrel
                    cases gk with
                    | zero => exact absurd HA.out (by simp [thwartref01_base.l1])
                    | succ k4 =>
                      have H := HA.out
                      clear HA
                      simp only [thwartref01_base.l1] at H
                      by_cases c24 : x7_4 < (x0_1.length : Int)
                      · rw [if_pos c24] at H
                        have c24b0 : decide (x7_4 < (x0_1.length : Int)) = true := decide_eq_true c24
                        clear c24
                        by_cases c25 : 0 ≤ x7_4
                        · rw [if_pos c25] at H
                          have c25b0 : decide (0 ≤ x7_4) = true := decide_eq_true c25
                          clear c25
                          have H' := Aside0.mk H
                          clear H
                          have p211 : 0 ≤ (x7_4 : Int) := of_decide_eq_true (by first | (with_reducible assumption) | assumption)
                          have q211 : x7_4 < (x0_1.length : Int) := of_decide_eq_true (by first | (with_reducible assumption) | assumption)
                          obtain ⟨ad211, e211, hx211_0⟩ := Kd.at_int (Kd.V_reads' HO_0.out).2.2 x7_4 p211 q211
                          cases e211
                          replace p211 := eq_true p211
                          replace q211 := eq_true q211
                          go_wp2
                          go_roundg k4
                          case measure => have := HK1.out; have := HJ16.out; have := HJ21.out; have := HK4.out; omega
                          case rel => exact ⟨(wrap64 ((wrap64 (x6_4 * 256)) + (wrap64 (rd x0_1 x7_4)))), (wrap64 (x7_4 + 1)), (by first | rfl | (simp; done) | (simp [*]; done)), (by first | rfl | (simp; done) | (simp [*]; done)), H', ⟨by have := HK1.out; have := HJ16.out; have := HJ21.out; have := HK4.out; omega⟩, ⟨by (with_reducible repeat (first | apply Kd.V_alloc | apply Kd.V_drewN | apply Kd.V_drew)); exact HO_0.out⟩, ⟨by repeat (first | (with_reducible first | exact HB.out | apply below_alloc | apply pw_below_drewN | apply below_drew1) | exact HB.out)⟩⟩
                        · rw [if_neg c25] at H
                          exact absurd H (by simp)
                      · rw [if_neg c24] at H
                        have c24b0 : decide (x7_4 < (x0_1.length : Int)) = false := decide_eq_false c24
                        clear c24
                        simp only [Option.some.injEq, Prod.mk.injEq] at H
                        obtain ⟨rfl, rfl⟩ := H
                        go_wp2
                        go_ret2
                        exact ⟨by first | rfl | (simp [errW_none, errW_some] <;> rfl) | (simp [*, errW_none, errW_some] <;> rfl), by repeat (first | (with_reducible first | exact HB.out | apply below_alloc | apply pw_below_drewN | apply below_drew1) | exact HB.out)⟩

end Go.Proofs.YthjljkdiglpbaaaDoor.P

-- F52
-- Written by xprint.py (a program of this session's, over the kit's printer) out of the translation. Not trusted: Lean checks it.
namespace Go.Proofs.YthjljkdiglpbaaaDoor.P
open Go.RowKit Go.Proofs.YthjljkdiglpbaaaDoorW.PrintWords Go.Proofs.YthjljkdiglpbaaaDoorW.PrintLast Go.Proofs.YthjljkdiglpbaaaDoorW.PrintMore Go.Proofs.YthjljkdiglpbaaaDoor.Hand
attribute [local go_sem] max2_int min2_int max_two min_two max_three min_three max_four min_four   -- for this text's walks alone
set_option linter.unusedVariables false
set_option linter.unusedSimpArgs false

/-! ### thwartref01_Get: function 52 -/
mutual
def thwartref01_Get.j0 : Nat → List Int → Bool → Option (Int × Int)
  | 0, _, _ => none
  | k + 1, x0, x22 => if x22 = true then (if 1 ≤ (x0.length : Int) then (if 0 < (x0.length : Int) then ((thwartref01_base.f k (x0.drop 1) ((rd x0 0) == 255)).bind fun bt217 => (if bt217.2 = true then (some (bt217.1, 0)) else (some (0, 10)))) else (none)) else (none)) else (thwartref01_Get.l0 k x0 0)
def thwartref01_Get.j2 : Nat → List Int → Int → Option (Int × Int)
  | 0, _, _ => none
  | k + 1, x0, x6 => thwartref01_Get.l1 k x0 x6 0 0
def thwartref01_Get.j4 : Nat → List Int → Int → Int → Int → Option (Int × Int)
  | 0, _, _, _, _ => none
  | k + 1, x0, x6, x7, x8 => thwartref01_Get.l2 k x0 x6 x7 x8
def thwartref01_Get.l2 : Nat → List Int → Int → Int → Int → Option (Int × Int)
  | 0, _, _, _, _ => none
  | k + 1, x0, x6, x7, x8 => if x6 < (x0.length : Int) then (if 0 ≤ x6 then (if (rd x0 x6) = 0 then (thwartref01_Get.l2 k x0 (wrap64 (x6 + 1)) x7 x8) else (if (rd x0 x6) = 32 then (thwartref01_Get.l2 k x0 (wrap64 (x6 + 1)) x7 x8) else (if x8 = 0 then (some (0, 3)) else (some (0, 3))))) else (none)) else (if x8 = 0 then (some (0, 3)) else (some (x7, 0)))
def thwartref01_Get.l1 : Nat → List Int → Int → Int → Int → Option (Int × Int)
  | 0, _, _, _, _ => none
  | k + 1, x0, x6, x7, x8 => if x6 < (x0.length : Int) then (if 0 ≤ x6 then (if (rd x0 x6) ≥ 48 then (if (rd x0 x6) ≤ 55 then (thwartref01_Get.l1 k x0 (wrap64 (x6 + 1)) (wrap64 ((wrap64 (8 * x7)) + (((rd x0 x6) - 48) % 256))) (wrap64 (x8 + 1))) else (thwartref01_Get.j4 k x0 x6 x7 x8)) else (thwartref01_Get.j4 k x0 x6 x7 x8)) else (none)) else (thwartref01_Get.j4 k x0 x6 x7 x8)
def thwartref01_Get.l0 : Nat → List Int → Int → Option (Int × Int)
  | 0, _, _ => none
  | k + 1, x0, x6 => if x6 < (x0.length : Int) then (if 0 ≤ x6 then (if (rd x0 x6) = 32 then (thwartref01_Get.l0 k x0 (wrap64 (x6 + 1))) else (thwartref01_Get.j2 k x0 x6)) else (none)) else (thwartref01_Get.j2 k x0 x6)
end
def thwartref01_Get.f (k : Nat) (l0 : List Int) : Option (Int × Int) := (thwartref01_wide.f (l0.length : Int)).bind fun t212 => (if t212 = true then (if 0 < (l0.length : Int) then (if (rd l0 0) = 128 then (thwartref01_Get.j0 k l0 true) else (thwartref01_Get.j0 k l0 ((rd l0 0) == 255))) else (none)) else (some (0, 1)))
theorem thwartref01_Get.mono_l : ∀ k, (∀ y0 y1, LeO (thwartref01_Get.j0 k y0 y1) (thwartref01_Get.j0 (k + 1) y0 y1)) ∧ (∀ y0 y1, LeO (thwartref01_Get.j2 k y0 y1) (thwartref01_Get.j2 (k + 1) y0 y1)) ∧ (∀ y0 y1 y2 y3, LeO (thwartref01_Get.j4 k y0 y1 y2 y3) (thwartref01_Get.j4 (k + 1) y0 y1 y2 y3)) ∧ (∀ y0 y1 y2 y3, LeO (thwartref01_Get.l2 k y0 y1 y2 y3) (thwartref01_Get.l2 (k + 1) y0 y1 y2 y3)) ∧ (∀ y0 y1 y2 y3, LeO (thwartref01_Get.l1 k y0 y1 y2 y3) (thwartref01_Get.l1 (k + 1) y0 y1 y2 y3)) ∧ (∀ y0 y1, LeO (thwartref01_Get.l0 k y0 y1) (thwartref01_Get.l0 (k + 1) y0 y1))
  | 0 => ⟨fun _ _ r h => by simp [thwartref01_Get.j0] at h, fun _ _ r h => by simp [thwartref01_Get.j2] at h, fun _ _ _ _ r h => by simp [thwartref01_Get.j4] at h, fun _ _ _ _ r h => by simp [thwartref01_Get.l2] at h, fun _ _ _ _ r h => by simp [thwartref01_Get.l1] at h, fun _ _ r h => by simp [thwartref01_Get.l0] at h⟩
  | k + 1 => by
    obtain ⟨ih0, ih1, ih2, ih3, ih4, ih5⟩ := thwartref01_Get.mono_l k
    refine ⟨?_, ?_, ?_, ?_, ?_, ?_⟩
    · intro y0 y1
      unfold thwartref01_Get.j0
      repeat' first
      | (with_reducible exact ih0 _ _)
      | (with_reducible exact ih1 _ _)
      | (with_reducible exact ih2 _ _ _ _)
      | (with_reducible exact ih3 _ _ _ _)
      | (with_reducible exact ih4 _ _ _ _)
      | (with_reducible exact ih5 _ _)
      | (with_reducible exact thwartref01_base.mono _ _ _)
      | (with_reducible exact LeO.refl _)
      | (with_reducible exact LeO.none _)
      | (with_reducible refine LeO.ite ?_ ?_)
      | (with_reducible refine LeO.bind ?_ (fun _ => ?_))
      | exact ih0 _ _
      | exact ih1 _ _
      | exact ih2 _ _ _ _
      | exact ih3 _ _ _ _
      | exact ih4 _ _ _ _
      | exact ih5 _ _
      | exact thwartref01_base.mono _ _ _
      | exact LeO.none _
      | refine LeO.ite ?_ ?_
      | refine LeO.bind ?_ (fun _ => ?_)
    · intro y0 y1
      unfold thwartref01_Get.j2
      repeat' first
      | (with_reducible exact ih0 _ _)
      | (with_reducible exact ih1 _ _)
      | (with_reducible exact ih2 _ _ _ _)
      | (with_reducible exact ih3 _ _ _ _)
      | (with_reducible exact ih4 _ _ _ _)
      | (with_reducible exact ih5 _ _)
      | (with_reducible exact thwartref01_base.mono _ _ _)
      | (with_reducible exact LeO.refl _)
      | (with_reducible exact LeO.none _)
      | (with_reducible refine LeO.ite ?_ ?_)
      | (with_reducible refine LeO.bind ?_ (fun _ => ?_))
      | exact ih0 _ _
      | exact ih1 _ _
      | exact ih2 _ _ _ _
      | exact ih3 _ _ _ _
      | exact ih4 _ _ _ _
      | exact ih5 _ _
      | exact thwartref01_base.mono _ _ _
      | exact LeO.none _
      | refine LeO.ite ?_ ?_
      | refine LeO.bind ?_ (fun _ => ?_)
    · intro y0 y1 y2 y3
      unfold thwartref01_Get.j4
      repeat' first
      | (with_reducible exact ih0 _ _)
      | (with_reducible exact ih1 _ _)
      | (with_reducible exact ih2 _ _ _ _)
      | (with_reducible exact ih3 _ _ _ _)
      | (with_reducible exact ih4 _ _ _ _)
      | (with_reducible exact ih5 _ _)
      | (with_reducible exact thwartref01_base.mono _ _ _)
      | (with_reducible exact LeO.refl _)
      | (with_reducible exact LeO.none _)
      | (with_reducible refine LeO.ite ?_ ?_)
      | (with_reducible refine LeO.bind ?_ (fun _ => ?_))
      | exact ih0 _ _
      | exact ih1 _ _
      | exact ih2 _ _ _ _
      | exact ih3 _ _ _ _
      | exact ih4 _ _ _ _
      | exact ih5 _ _
      | exact thwartref01_base.mono _ _ _
      | exact LeO.none _
      | refine LeO.ite ?_ ?_
      | refine LeO.bind ?_ (fun _ => ?_)
    · intro y0 y1 y2 y3
      unfold thwartref01_Get.l2
      repeat' first
      | (with_reducible exact ih0 _ _)
      | (with_reducible exact ih1 _ _)
      | (with_reducible exact ih2 _ _ _ _)
      | (with_reducible exact ih3 _ _ _ _)
      | (with_reducible exact ih4 _ _ _ _)
      | (with_reducible exact ih5 _ _)
      | (with_reducible exact thwartref01_base.mono _ _ _)
      | (with_reducible exact LeO.refl _)
      | (with_reducible exact LeO.none _)
      | (with_reducible refine LeO.ite ?_ ?_)
      | (with_reducible refine LeO.bind ?_ (fun _ => ?_))
      | exact ih0 _ _
      | exact ih1 _ _
      | exact ih2 _ _ _ _
      | exact ih3 _ _ _ _
      | exact ih4 _ _ _ _
      | exact ih5 _ _
      | exact thwartref01_base.mono _ _ _
      | exact LeO.none _
      | refine LeO.ite ?_ ?_
      | refine LeO.bind ?_ (fun _ => ?_)
    · intro y0 y1 y2 y3
      unfold thwartref01_Get.l1
      repeat' first
      | (with_reducible exact ih0 _ _)
      | (with_reducible exact ih1 _ _)
      | (with_reducible exact ih2 _ _ _ _)
      | (with_reducible exact ih3 _ _ _ _)
      | (with_reducible exact ih4 _ _ _ _)
      | (with_reducible exact ih5 _ _)
      | (with_reducible exact thwartref01_base.mono _ _ _)
      | (with_reducible exact LeO.refl _)
      | (with_reducible exact LeO.none _)
      | (with_reducible refine LeO.ite ?_ ?_)
      | (with_reducible refine LeO.bind ?_ (fun _ => ?_))
      | exact ih0 _ _
      | exact ih1 _ _
      | exact ih2 _ _ _ _
      | exact ih3 _ _ _ _
      | exact ih4 _ _ _ _
      | exact ih5 _ _
      | exact thwartref01_base.mono _ _ _
      | exact LeO.none _
      | refine LeO.ite ?_ ?_
      | refine LeO.bind ?_ (fun _ => ?_)
    · intro y0 y1
      unfold thwartref01_Get.l0
      repeat' first
      | (with_reducible exact ih0 _ _)
      | (with_reducible exact ih1 _ _)
      | (with_reducible exact ih2 _ _ _ _)
      | (with_reducible exact ih3 _ _ _ _)
      | (with_reducible exact ih4 _ _ _ _)
      | (with_reducible exact ih5 _ _)
      | (with_reducible exact thwartref01_base.mono _ _ _)
      | (with_reducible exact LeO.refl _)
      | (with_reducible exact LeO.none _)
      | (with_reducible refine LeO.ite ?_ ?_)
      | (with_reducible refine LeO.bind ?_ (fun _ => ?_))
      | exact ih0 _ _
      | exact ih1 _ _
      | exact ih2 _ _ _ _
      | exact ih3 _ _ _ _
      | exact ih4 _ _ _ _
      | exact ih5 _ _
      | exact thwartref01_base.mono _ _ _
      | exact LeO.none _
      | refine LeO.ite ?_ ?_
      | refine LeO.bind ?_ (fun _ => ?_)
theorem thwartref01_Get.mono : ∀ a0 k, LeO (thwartref01_Get.f k a0) (thwartref01_Get.f (k + 1) a0) := by
  intro a0 k
  obtain ⟨ih0, ih1, ih2, ih3, ih4, ih5⟩ := thwartref01_Get.mono_l k
  unfold thwartref01_Get.f
  repeat' first
      | (with_reducible exact ih0 _ _)
      | (with_reducible exact ih1 _ _)
      | (with_reducible exact ih2 _ _ _ _)
      | (with_reducible exact ih3 _ _ _ _)
      | (with_reducible exact ih4 _ _ _ _)
      | (with_reducible exact ih5 _ _)
      | (with_reducible exact thwartref01_base.mono _ _ _)
      | (with_reducible exact LeO.refl _)
      | (with_reducible exact LeO.none _)
      | (with_reducible refine LeO.ite ?_ ?_)
      | (with_reducible refine LeO.bind ?_ (fun _ => ?_))
      | exact ih0 _ _
      | exact ih1 _ _
      | exact ih2 _ _ _ _
      | exact ih3 _ _ _ _
      | exact ih4 _ _ _ _
      | exact ih5 _ _
      | exact thwartref01_base.mono _ _ _
      | exact LeO.none _
      | refine LeO.ite ?_ ?_
      | refine LeO.bind ?_ (fun _ => ?_)
def thwartref01_Get.T4 : Bool × List (List Nat × List Nat) := (true, [([], []), ([0], [0]), ([], []), ([2], [2]), ([3], [3]), ([4], [4]), ([1, 5], [1, 5]), ([6], [6]), ([7], [7]), ([7], [7]), ([8, 6, 0, 1, 2, 3, 4, 5, 6, 7, 8], [8]), ([9, 10, 0, 1, 2, 3, 4, 5, 6, 7, 8, 9, 10], [9])])
def thwartref01_Get.B4 : List Nat := [0, 1, 0, 4, 12, 28, 63, 127, 255, 255, 511, 2047]
theorem thwartref01_Get.tab4 : rtab .any (opsOf Tryd.f52 4) = thwartref01_Get.T4 := by kernel_rfl
theorem thwartref01_Get.bits4 : waitsOk thwartref01_Get.T4.2 thwartref01_Get.B4 = true := by kernel_rfl
set_option maxHeartbeats 8000000 in
set_option maxRecDepth 100000 in
theorem thwartref01_Get.calls (k : Nat) (A0 : Option Addr) (c0 : Nat) (l0 : List Int) (r1 : Int) (r2 : Int) (w : World) (hr0 : Kd.C (Kd.int .u8) w A0 l0.length l0) (hc0 : l0.length ≤ c0) (h : thwartref01_Get.f k l0 = some (r1, r2)) :
    Calls Tryd.prog 52 #[.slice A0 l0.length c0] w fun e w' => e = .returned (.tuple #[.int .i64 r1, .int .i64 r2]) ∧ Below w.heap.size w w' := by
  have HR0 := Aside0.mk hr0
  have HC0 := Aside0.mk hc0
  clear hr0 hc0
  have HB := Aside0.mk (Below.refl w.heap.size w)
  have H : ((thwartref01_wide.f (l0.length : Int)).bind fun t212 => (if t212 = true then (if 0 < (l0.length : Int) then (if (rd l0 0) = 128 then (thwartref01_Get.j0 k l0 true) else (thwartref01_Get.j0 k l0 ((rd l0 0) == 255))) else (none)) else (some (0, 1)))) = some (r1, r2) := h
  clear h
  replace H := Option.bind_eq_some_iff.mp H
  obtain ⟨t212, A20, H⟩ := H
  replace H : (if t212 = true then (if 0 < (l0.length : Int) then (if (rd l0 0) = 128 then (thwartref01_Get.j0 k l0 true) else (thwartref01_Get.j0 k l0 ((rd l0 0) == 255))) else (none)) else (some (0, 1))) = some (r1, r2) := H
  have A2 := Aside0.mk A20
  clear A20
  by_cases c3 : t212 = true
  · subst c3
    have H1 : (if 0 < (l0.length : Int) then (if (rd l0 0) = 128 then (thwartref01_Get.j0 k l0 true) else (thwartref01_Get.j0 k l0 ((rd l0 0) == 255))) else (none)) = some (r1, r2) := by rw [if_pos rfl] at H; exact H
    clear H
    have H := H1
    clear H1
    have HC4 := Aside0.mk H
    clear H
    go_enter Tryd.func52, Tryd.ntmps52
    go_upto_region 3 with (first | ((with_reducible refine gate_callee (f := 74) rfl ?_); refine goesL_ (some 11) rfl rfl Tryd.func74 (by kernel_rfl) rfl #[.int .i64 (l0.length : Int)] rfl (by (try simp only [List.map_toArray, List.map_cons, List.map_nil]); first | done | rfl | (simp only [List.length_drop, List.length_take]; rfl)) ?_; (with_reducible refine (thwartref01_wide.calls (l0.length : Int) true _ A2.out).mono ?_); rintro e w' ⟨rfl, ⟨nd, rfl⟩⟩; refine ⟨_, rfl, ?_⟩))
    (try simp only [Act.put, List.setIfInBounds_toArray, List.set_cons_zero, List.set_cons_succ])
    go_cut [22] (fun v22 wc => ∃ (kq : Nat) (x22_3 : Bool), v22 = .bool x22_3 ∧ Aside0 (thwartref01_Get.j0 kq l0 x22_3 = some (r1, r2)) ∧ Aside0 (kq ≤ k) ∧ Aside0 (Below w.heap.size w wc))
    case first =>
      have H := HC4.out
      clear HC4
      by_cases c5 : 0 < (l0.length : Int)
      · rw [if_pos c5] at H
        have c5b0 : decide (0 < (l0.length : Int)) = true := decide_eq_true c5
        have c5b1 : decide (0 < l0.length) = true := decide_eq_true (by omega)
        clear c5
        (first | rw [c5b0] | (simp only [i64_w, i32_w]; rw [c5b0]) | skip)
        by_cases c6 : (rd l0 0) = 128
        · rw [if_pos c6] at H
          have c6b0 : ((rd l0 0) == 128) = true := beq_iff_eq.mpr c6
          have c6b1 : ((rd l0 0) != 128) = false := bne_eq_false_iff_eq.mpr c6
          clear c6
          have H' := Aside0.mk H
          clear H
          have p213 : 0 ≤ (0 : Int) := (by omega)
          have q213 : 0 < (l0.length : Int) := of_decide_eq_true (by first | (with_reducible assumption) | assumption)
          obtain ⟨ad213, e213, hx213_0⟩ := Kd.at_int HR0.out 0 p213 q213
          cases e213
          have qi213 : (0 < l0.length) = True := eq_true (by omega)
          (try rw [show ((0 : Int)).toNat = 0 from rfl] at hx213_0)
          (try rw [Addr.add_zero'] at hx213_0)
          replace hx213_0 := (HB.out.cell (World.block_lt_of_cell? w _ hx213_0)).trans hx213_0
          replace p213 := eq_true p213
          replace q213 := eq_true q213
          go_wp2
          go_meet
          case rel => exact ⟨_, (true), (by first | rfl | (simp; done) | (simp [*]; done)), H', ⟨by first | omega | exact Nat.le_refl _⟩, ⟨by repeat (first | (with_reducible first | exact HB.out | apply below_alloc | apply pw_below_drewN | apply below_drew1) | exact HB.out)⟩⟩
        · rw [if_neg c6] at H
          have c6b0 : ((rd l0 0) == 128) = false := beq_eq_false_iff_ne.mpr c6
          have c6b1 : ((rd l0 0) != 128) = true := bne_iff_ne.mpr c6
          have H' := Aside0.mk H
          clear H
          have p213 : 0 ≤ (0 : Int) := (by omega)
          have q213 : 0 < (l0.length : Int) := of_decide_eq_true (by first | (with_reducible assumption) | assumption)
          obtain ⟨ad213, e213, hx213_0⟩ := Kd.at_int HR0.out 0 p213 q213
          cases e213
          have qi213 : (0 < l0.length) = True := eq_true (by omega)
          (try rw [show ((0 : Int)).toNat = 0 from rfl] at hx213_0)
          (try rw [Addr.add_zero'] at hx213_0)
          replace hx213_0 := (HB.out.cell (World.block_lt_of_cell? w _ hx213_0)).trans hx213_0
          replace p213 := eq_true p213
          replace q213 := eq_true q213
          have p214 : 0 ≤ (0 : Int) := (by omega)
          have q214 : 0 < (l0.length : Int) := of_decide_eq_true (by first | (with_reducible assumption) | assumption)
          obtain ⟨ad214, e214, hx214_0⟩ := Kd.at_int HR0.out 0 p214 q214
          obtain rfl : ad213 = ad214 := (by injection e214)
          have qi214 : (0 < l0.length) = True := eq_true (by omega)
          (try rw [show ((0 : Int)).toNat = 0 from rfl] at hx214_0)
          (try rw [Addr.add_zero'] at hx214_0)
          replace hx214_0 := (HB.out.cell (World.block_lt_of_cell? w _ hx214_0)).trans hx214_0
          replace p214 := eq_true p214
          replace q214 := eq_true q214
          go_wp2
          go_meet
          case rel => exact ⟨_, (((rd l0 0) == 255)), (by first | rfl | (simp; done) | (simp [*]; done)), H', ⟨by first | omega | exact Nat.le_refl _⟩, ⟨by repeat (first | (with_reducible first | exact HB.out | apply below_alloc | apply pw_below_drewN | apply below_drew1) | exact HB.out)⟩⟩
      · rw [if_neg c5] at H
        exact absurd H (by simp)
    case rest =>
      clear HC4
      try clear p2
      try clear q2
      try clear hx2
      try clear qi2
      try clear c3
      try clear c5
      try clear c5b0
      try clear c5b1
      try clear c6
      try clear c6b0
      try clear c6b1
      try clear hx213_0
      try clear hx214_0
      try clear p213
      try clear p214
      try clear q213
      try clear q214
      obtain ⟨kq, x22_3, rfl, HA, HJ3, HB⟩ := hcut
      cases kq with
      | zero => exact absurd HA.out (by simp [thwartref01_Get.j0])
      | succ kj3 =>
        have H := HA.out
        clear HA
        simp only [thwartref01_Get.j0] at H
        by_cases c7 : x22_3 = true
        · subst c7
          have H1 : (if 1 ≤ (l0.length : Int) then (if 0 < (l0.length : Int) then ((thwartref01_base.f kj3 (l0.drop 1) ((rd l0 0) == 255)).bind fun bt217 => (if bt217.2 = true then (some (bt217.1, 0)) else (some (0, 10)))) else (none)) else (none)) = some (r1, r2) := by rw [if_pos rfl] at H; exact H
          clear H
          have H := H1
          clear H1
          by_cases c8 : 1 ≤ (l0.length : Int)
          · rw [if_pos c8] at H
            have c8b0 := eq_true c8
            have c8b1 : decide (1 ≤ (l0.length : Int)) = true := decide_eq_true c8
            clear c8
            by_cases c9 : 0 < (l0.length : Int)
            · rw [if_pos c9] at H
              have c9b0 : decide (0 < (l0.length : Int)) = true := decide_eq_true c9
              have c9b1 : decide (0 < l0.length) = true := decide_eq_true (by omega)
              clear c9
              replace H := Option.bind_eq_some_iff.mp H
              obtain ⟨⟨t217, t218⟩, A100, H⟩ := H
              replace H : (if t218 = true then (some (t217, 0)) else (some (0, 10))) = some (r1, r2) := H
              have A10 := Aside0.mk A100
              clear A100
              by_cases c11 : t218 = true
              · subst c11
                have H1 : (some (t217, 0)) = some (r1, r2) := by rw [if_pos rfl] at H; exact H
                clear H
                have H := H1
                clear H1
                simp only [Option.some.injEq, Prod.mk.injEq] at H
                obtain ⟨rfl, rfl⟩ := H
                try go_wp2
                have n0_ := Aside0.mk (below_drew1 HB.out)
                clear HB
                have HB := n0_
                clear n0_
                obtain ⟨i013, hi013, _, hsz13, _⟩ := info_parts info5
                obtain ⟨A13, hcut13, hA13, hC13⟩ := print_drop_of (P := Tryd.prog) (Value.int .u8) 0 22 5 .i64 Tryd.underlying22 hi013 hsz13 A0 c0 l0 1 (by omega) (of_decide_eq_true (by first | (with_reducible assumption) | assumption)) HC0.out
                have HR215 := Aside0.mk (Kd.C_of_reads (h1 := fun _ => rfl) (hA13 _ (Kd.reads_of_C HR0.out)))
                have HC215 := Aside0.mk hC13
                clear hA13 hC13 hi013 hsz13
                have p216 : 0 ≤ (0 : Int) := (by omega)
                have q216 : 0 < (l0.length : Int) := of_decide_eq_true (by first | (with_reducible assumption) | assumption)
                obtain ⟨ad216, e216, hx216_0⟩ := Kd.at_int HR0.out 0 p216 q216
                have hw216_0 := hx216_0
                (try rw [show ((0 : Int)).toNat = 0 from rfl] at hw216_0)
                (try rw [show 0 * 1 = 0 from rfl] at hw216_0)
                (try rw [Addr.add_zero'] at hw216_0)
                cases e216
                have qi216 : (0 < l0.length) = True := eq_true (by omega)
                (try rw [show ((0 : Int)).toNat = 0 from rfl] at hx216_0)
                (try rw [Addr.add_zero'] at hx216_0)
                replace hx216_0 := (HB.out.cell (World.block_lt_of_cell? w _ hx216_0)).trans hx216_0
                replace p216 := eq_true p216
                replace q216 := eq_true q216
                refine start_ (n := 12) (S := fun w' => w'.cell? ad216 = some (.int .u8 (rd l0 0))) (ds := []) #[false, false, false, false, false, false, false, false, false, false, false, false] (by kernel_rfl) rfl rfl (((HB.out.cell (World.block_lt_of_cell? w _ hw216_0)).trans hw216_0)) (fun hHeld => ?_); refine with_tabW thwartref01_Get.tab4 thwartref01_Get.bits4 (fun HT_ HW_ => ?_)
                generalize wc.drew = w12 at HB HR215 hx216_0 hHeld ⊢
                refine pure_ (i := 0) (N := some 24) (v := ?_) (a' := ?_) #[true, false, false, false, false, false, false, false, false, false, false, false] rfl rfl (any_of HT_.out (by kernel_rfl)) (fun _ _ _ h => h) (Or.inl ⟨by rfl, ?_⟩) ?_ ?_
                rotate_left
                · intro w'
                  go_simp
                  with_reducible rfl
                rotate_left
                · simp only [Act.put, List.setIfInBounds_toArray, List.set_cons_zero, List.set_cons_succ, i64_w, i32_w]
                  rfl
                refine pure_ (i := 1) (N := some 25) (v := ?_) (a' := ?_) #[true, true, false, false, false, false, false, false, false, false, false, false] rfl rfl (any_of HT_.out (by kernel_rfl)) (fun _ _ _ h => h) (Or.inl ⟨by rfl, ?_⟩) ?_ ?_
                rotate_left
                · intro w'
                  go_simp
                  with_reducible rfl
                rotate_left
                · simp only [Act.put, List.setIfInBounds_toArray, List.set_cons_zero, List.set_cons_succ, i64_w, i32_w]
                  rfl
                refine pure_ (i := 2) (N := some 26) (v := ?_) (a' := ?_) #[true, true, true, false, false, false, false, false, false, false, false, false] rfl rfl (any_of HT_.out (by kernel_rfl)) (fun _ _ _ h => h) (Or.inl ⟨by rfl, ?_⟩) ?_ ?_
                rotate_left
                · intro w'
                  go_simp
                  with_reducible rfl
                rotate_left
                · simp only [Act.put, List.setIfInBounds_toArray, List.set_cons_zero, List.set_cons_succ, i64_w, i32_w]
                  rfl
                refine pure_ (i := 3) (N := some 27) (v := ?_) (a' := ?_) #[true, true, true, true, false, false, false, false, false, false, false, false] rfl rfl (any_of HT_.out (by kernel_rfl)) (fun _ _ _ h => h) (Or.inl ⟨by rfl, ?_⟩) ?_ ?_
                rotate_left
                · intro w'
                  go_simp
                  with_reducible rfl
                rotate_left
                · simp only [Act.put, List.setIfInBounds_toArray, List.set_cons_zero, List.set_cons_succ, i64_w, i32_w]
                  rfl
                refine take_ (i := 4) (N := some 28) (v := ?_) (a' := ?_) #[true, true, true, true, true, false, false, false, false, false, false, false] rfl rfl (take_ofW HT_.out HW_.out (by kernel_rfl)) (fun _ _ _ h => h) (Or.inl ⟨by rfl, ?_⟩) hHeld ?_ ?_
                rotate_left
                · intro w' s0
                  go_simp
                  with_reducible rfl
                rotate_left
                · simp only [Act.put, List.setIfInBounds_toArray, List.set_cons_zero, List.set_cons_succ, i64_w, i32_w]
                  rfl
                refine pure_ (i := 5) (N := some 29) (v := ?_) (a' := ?_) #[true, true, true, true, true, true, false, false, false, false, false, false] rfl rfl (any_of HT_.out (by kernel_rfl)) (fun _ _ _ h => h) (Or.inl ⟨by rfl, ?_⟩) ?_ ?_
                rotate_left
                · intro w'
                  go_simp
                  with_reducible rfl
                rotate_left
                · simp only [Act.put, List.setIfInBounds_toArray, List.set_cons_zero, List.set_cons_succ, i64_w, i32_w]
                  rfl
                refine one_ (i := 6) (N := some 30) #[true, true, true, true, true, true, true, false, false, false, false, false] rfl rfl (one_of HT_.out (by kernel_rfl)) (by decide) (fun K hK => ?_)
                refine goes_ Tryd.func75 (by kernel_rfl) rfl #[.slice A13 (l0.drop 1).length (c0 - 1), .bool ((rd l0 0) == 255)] (by rfl) rfl rfl (by (try simp only [List.map_toArray, List.map_cons, List.map_nil]); first | done | (rw [show (l0.drop 1).length = (l0.length - 1) from List.length_drop] <;> rfl) | rfl | (simp only [List.length_drop, List.length_take]; rfl)) ?_
                with_reducible refine (thwartref01_base.calls kj3 (fun k_ => k_ < w.heap.size) _ _ (l0.drop 1) ((rd l0 0) == 255) t217 true _ ?side1 A10.out).mono ?_
                (case side1 => exact Kd.V_mk HC215.out (Kd.F_below (Kd.C_F (Kd.heap_int .u8) HR215.out) (by repeat (first | (with_reducible first | exact HB.out | apply below_alloc | apply pw_below_drewN | apply below_drew1) | exact HB.out))))
                rintro e w14 ⟨rfl, hb⟩
                refine ⟨_, rfl, ?_⟩
                have n0_ := Aside0.mk (below_step (by repeat (first | (with_reducible first | exact HB.out | apply below_alloc | apply pw_below_drewN | apply below_drew1) | exact HB.out)) hb)
                clear HB
                have HB := n0_
                clear n0_
                (try clear hb)
                (try clear hb2)
                (try clear hk)
                (try clear hi)
                refine hK.out _ _ (((HB.out.cell (World.block_lt_of_cell? w _ hw216_0)).trans hw216_0)) (fun hHeld => ?_)
                clear hK K
                refine norm_ (a' := ?_) ?_ ?_
                rotate_left
                · show Act.put _ (some 30) _ = _
                  simp only [Act.put, List.setIfInBounds_toArray, List.set_cons_zero, List.set_cons_succ, i64_w, i32_w]
                  rfl
                refine pure_ (i := 7) (N := some 23) (v := ?_) (a' := ?_) #[true, true, true, true, true, true, true, true, false, false, false, false] rfl rfl (any_of HT_.out (by kernel_rfl)) (fun _ _ _ h => h) (Or.inl ⟨by rfl, ?_⟩) ?_ ?_
                rotate_left
                · intro w'
                  go_simp
                  with_reducible rfl
                rotate_left
                · simp only [Act.put, List.setIfInBounds_toArray, List.set_cons_zero, List.set_cons_succ, i64_w, i32_w]
                  rfl
                refine pure_ (i := 8) (N := some 31) (v := ?_) (a' := ?_) #[true, true, true, true, true, true, true, true, true, false, false, false] rfl rfl (any_of HT_.out (by kernel_rfl)) (fun _ _ _ h => h) (Or.inl ⟨by rfl, ?_⟩) ?_ ?_
                rotate_left
                · intro w'
                  go_simp
                  with_reducible rfl
                rotate_left
                · simp only [Act.put, List.setIfInBounds_toArray, List.set_cons_zero, List.set_cons_succ, i64_w, i32_w]
                  rfl
                refine pure_ (i := 9) (N := some 32) (v := ?_) (a' := ?_) #[true, true, true, true, true, true, true, true, true, true, false, false] rfl rfl (any_of HT_.out (by kernel_rfl)) (fun _ _ _ h => h) (Or.inl ⟨by rfl, ?_⟩) ?_ ?_
                rotate_left
                · intro w'
                  go_simp
                  with_reducible rfl
                rotate_left
                · simp only [Act.put, List.setIfInBounds_toArray, List.set_cons_zero, List.set_cons_succ, i64_w, i32_w]
                  rfl
                refine pure_ (i := 10) (N := some 4) (v := ?_) (a' := ?_) #[true, true, true, true, true, true, true, true, true, true, true, false] rfl rfl (any_of HT_.out (by kernel_rfl)) (fun _ _ _ h => h) (Or.inl ⟨by rfl, ?_⟩) ?_ ?_
                rotate_left
                · intro w'
                  go_simp
                  with_reducible rfl
                rotate_left
                · simp only [Act.put, List.setIfInBounds_toArray, List.set_cons_zero, List.set_cons_succ, i64_w, i32_w]
                  rfl
                refine pure_ (i := 11) (N := some 5) (v := ?_) (a' := ?_) #[true, true, true, true, true, true, true, true, true, true, true, true] rfl rfl (any_of HT_.out (by kernel_rfl)) (fun _ _ _ h => h) (Or.inl ⟨by rfl, ?_⟩) ?_ ?_
                rotate_left
                · intro w'
                  go_simp
                  with_reducible rfl
                rotate_left
                · simp only [Act.put, List.setIfInBounds_toArray, List.set_cons_zero, List.set_cons_succ, i64_w, i32_w]
                  rfl
                refine done_ (done_of HT_.out (by kernel_rfl)) ?_
                try go_wp2
                go_ret2
                exact ⟨by first | rfl | (simp [errW_none, errW_some] <;> rfl) | (simp [*, errW_none, errW_some] <;> rfl), by repeat (first | (with_reducible first | exact HB.out | apply below_alloc | apply pw_below_drewN | apply below_drew1) | exact HB.out)⟩
              · replace c11 := Bool.eq_false_iff.mpr c11
                subst c11
                have H1 : (some (0, 10)) = some (r1, r2) := by rw [if_neg (show ¬ (false = true) by decide)] at H; exact H
                clear H
                have H := H1
                clear H1
                simp only [Option.some.injEq, Prod.mk.injEq] at H
                obtain ⟨rfl, rfl⟩ := H
                try go_wp2
                have n0_ := Aside0.mk (below_drew1 HB.out)
                clear HB
                have HB := n0_
                clear n0_
                obtain ⟨i016, hi016, _, hsz16, _⟩ := info_parts info5
                obtain ⟨A16, hcut16, hA16, hC16⟩ := print_drop_of (P := Tryd.prog) (Value.int .u8) 0 22 5 .i64 Tryd.underlying22 hi016 hsz16 A0 c0 l0 1 (by omega) (of_decide_eq_true (by first | (with_reducible assumption) | assumption)) HC0.out
                have HR215 := Aside0.mk (Kd.C_of_reads (h1 := fun _ => rfl) (hA16 _ (Kd.reads_of_C HR0.out)))
                have HC215 := Aside0.mk hC16
                clear hA16 hC16 hi016 hsz16
                have p216 : 0 ≤ (0 : Int) := (by omega)
                have q216 : 0 < (l0.length : Int) := of_decide_eq_true (by first | (with_reducible assumption) | assumption)
                obtain ⟨ad216, e216, hx216_0⟩ := Kd.at_int HR0.out 0 p216 q216
                have hw216_0 := hx216_0
                (try rw [show ((0 : Int)).toNat = 0 from rfl] at hw216_0)
                (try rw [show 0 * 1 = 0 from rfl] at hw216_0)
                (try rw [Addr.add_zero'] at hw216_0)
                cases e216
                have qi216 : (0 < l0.length) = True := eq_true (by omega)
                (try rw [show ((0 : Int)).toNat = 0 from rfl] at hx216_0)
                (try rw [Addr.add_zero'] at hx216_0)
                replace hx216_0 := (HB.out.cell (World.block_lt_of_cell? w _ hx216_0)).trans hx216_0
                replace p216 := eq_true p216
                replace q216 := eq_true q216
                refine start_ (n := 12) (S := fun w' => w'.cell? ad216 = some (.int .u8 (rd l0 0))) (ds := []) #[false, false, false, false, false, false, false, false, false, false, false, false] (by kernel_rfl) rfl rfl (((HB.out.cell (World.block_lt_of_cell? w _ hw216_0)).trans hw216_0)) (fun hHeld => ?_); refine with_tabW thwartref01_Get.tab4 thwartref01_Get.bits4 (fun HT_ HW_ => ?_)
                generalize wc.drew = w15 at HB HR215 hx216_0 hHeld ⊢
                refine pure_ (i := 0) (N := some 24) (v := ?_) (a' := ?_) #[true, false, false, false, false, false, false, false, false, false, false, false] rfl rfl (any_of HT_.out (by kernel_rfl)) (fun _ _ _ h => h) (Or.inl ⟨by rfl, ?_⟩) ?_ ?_
                rotate_left
                · intro w'
                  go_simp
                  with_reducible rfl
                rotate_left
                · simp only [Act.put, List.setIfInBounds_toArray, List.set_cons_zero, List.set_cons_succ, i64_w, i32_w]
                  rfl
                refine pure_ (i := 1) (N := some 25) (v := ?_) (a' := ?_) #[true, true, false, false, false, false, false, false, false, false, false, false] rfl rfl (any_of HT_.out (by kernel_rfl)) (fun _ _ _ h => h) (Or.inl ⟨by rfl, ?_⟩) ?_ ?_
                rotate_left
                · intro w'
                  go_simp
                  with_reducible rfl
                rotate_left
                · simp only [Act.put, List.setIfInBounds_toArray, List.set_cons_zero, List.set_cons_succ, i64_w, i32_w]
                  rfl
                refine pure_ (i := 2) (N := some 26) (v := ?_) (a' := ?_) #[true, true, true, false, false, false, false, false, false, false, false, false] rfl rfl (any_of HT_.out (by kernel_rfl)) (fun _ _ _ h => h) (Or.inl ⟨by rfl, ?_⟩) ?_ ?_
                rotate_left
                · intro w'
                  go_simp
                  with_reducible rfl
                rotate_left
                · simp only [Act.put, List.setIfInBounds_toArray, List.set_cons_zero, List.set_cons_succ, i64_w, i32_w]
                  rfl
                refine pure_ (i := 3) (N := some 27) (v := ?_) (a' := ?_) #[true, true, true, true, false, false, false, false, false, false, false, false] rfl rfl (any_of HT_.out (by kernel_rfl)) (fun _ _ _ h => h) (Or.inl ⟨by rfl, ?_⟩) ?_ ?_
                rotate_left
                · intro w'
                  go_simp
                  with_reducible rfl
                rotate_left
                · simp only [Act.put, List.setIfInBounds_toArray, List.set_cons_zero, List.set_cons_succ, i64_w, i32_w]
                  rfl
                refine take_ (i := 4) (N := some 28) (v := ?_) (a' := ?_) #[true, true, true, true, true, false, false, false, false, false, false, false] rfl rfl (take_ofW HT_.out HW_.out (by kernel_rfl)) (fun _ _ _ h => h) (Or.inl ⟨by rfl, ?_⟩) hHeld ?_ ?_
                rotate_left
                · intro w' s0
                  go_simp
                  with_reducible rfl
                rotate_left
                · simp only [Act.put, List.setIfInBounds_toArray, List.set_cons_zero, List.set_cons_succ, i64_w, i32_w]
                  rfl
                refine pure_ (i := 5) (N := some 29) (v := ?_) (a' := ?_) #[true, true, true, true, true, true, false, false, false, false, false, false] rfl rfl (any_of HT_.out (by kernel_rfl)) (fun _ _ _ h => h) (Or.inl ⟨by rfl, ?_⟩) ?_ ?_
                rotate_left
                · intro w'
                  go_simp
                  with_reducible rfl
                rotate_left
                · simp only [Act.put, List.setIfInBounds_toArray, List.set_cons_zero, List.set_cons_succ, i64_w, i32_w]
                  rfl
                refine one_ (i := 6) (N := some 30) #[true, true, true, true, true, true, true, false, false, false, false, false] rfl rfl (one_of HT_.out (by kernel_rfl)) (by decide) (fun K hK => ?_)
                refine goes_ Tryd.func75 (by kernel_rfl) rfl #[.slice A16 (l0.drop 1).length (c0 - 1), .bool ((rd l0 0) == 255)] (by rfl) rfl rfl (by (try simp only [List.map_toArray, List.map_cons, List.map_nil]); first | done | (rw [show (l0.drop 1).length = (l0.length - 1) from List.length_drop] <;> rfl) | rfl | (simp only [List.length_drop, List.length_take]; rfl)) ?_
                with_reducible refine (thwartref01_base.calls kj3 (fun k_ => k_ < w.heap.size) _ _ (l0.drop 1) ((rd l0 0) == 255) t217 false _ ?side1 A10.out).mono ?_
                (case side1 => exact Kd.V_mk HC215.out (Kd.F_below (Kd.C_F (Kd.heap_int .u8) HR215.out) (by repeat (first | (with_reducible first | exact HB.out | apply below_alloc | apply pw_below_drewN | apply below_drew1) | exact HB.out))))
                rintro e w17 ⟨rfl, hb⟩
                refine ⟨_, rfl, ?_⟩
                have n0_ := Aside0.mk (below_step (by repeat (first | (with_reducible first | exact HB.out | apply below_alloc | apply pw_below_drewN | apply below_drew1) | exact HB.out)) hb)
                clear HB
                have HB := n0_
                clear n0_
                (try clear hb)
                (try clear hb2)
                (try clear hk)
                (try clear hi)
                refine hK.out _ _ (((HB.out.cell (World.block_lt_of_cell? w _ hw216_0)).trans hw216_0)) (fun hHeld => ?_)
                clear hK K
                refine norm_ (a' := ?_) ?_ ?_
                rotate_left
                · show Act.put _ (some 30) _ = _
                  simp only [Act.put, List.setIfInBounds_toArray, List.set_cons_zero, List.set_cons_succ, i64_w, i32_w]
                  rfl
                refine pure_ (i := 7) (N := some 23) (v := ?_) (a' := ?_) #[true, true, true, true, true, true, true, true, false, false, false, false] rfl rfl (any_of HT_.out (by kernel_rfl)) (fun _ _ _ h => h) (Or.inl ⟨by rfl, ?_⟩) ?_ ?_
                rotate_left
                · intro w'
                  go_simp
                  with_reducible rfl
                rotate_left
                · simp only [Act.put, List.setIfInBounds_toArray, List.set_cons_zero, List.set_cons_succ, i64_w, i32_w]
                  rfl
                refine pure_ (i := 8) (N := some 31) (v := ?_) (a' := ?_) #[true, true, true, true, true, true, true, true, true, false, false, false] rfl rfl (any_of HT_.out (by kernel_rfl)) (fun _ _ _ h => h) (Or.inl ⟨by rfl, ?_⟩) ?_ ?_
                rotate_left
                · intro w'
                  go_simp
                  with_reducible rfl
                rotate_left
                · simp only [Act.put, List.setIfInBounds_toArray, List.set_cons_zero, List.set_cons_succ, i64_w, i32_w]
                  rfl
                refine pure_ (i := 9) (N := some 32) (v := ?_) (a' := ?_) #[true, true, true, true, true, true, true, true, true, true, false, false] rfl rfl (any_of HT_.out (by kernel_rfl)) (fun _ _ _ h => h) (Or.inl ⟨by rfl, ?_⟩) ?_ ?_
                rotate_left
                · intro w'
                  go_simp
                  with_reducible rfl
                rotate_left
                · simp only [Act.put, List.setIfInBounds_toArray, List.set_cons_zero, List.set_cons_succ, i64_w, i32_w]
                  rfl
                refine pure_ (i := 10) (N := some 4) (v := ?_) (a' := ?_) #[true, true, true, true, true, true, true, true, true, true, true, false] rfl rfl (any_of HT_.out (by kernel_rfl)) (fun _ _ _ h => h) (Or.inl ⟨by rfl, ?_⟩) ?_ ?_
                rotate_left
                · intro w'
                  go_simp
                  with_reducible rfl
                rotate_left
                · simp only [Act.put, List.setIfInBounds_toArray, List.set_cons_zero, List.set_cons_succ, i64_w, i32_w]
                  rfl
                refine pure_ (i := 11) (N := some 5) (v := ?_) (a' := ?_) #[true, true, true, true, true, true, true, true, true, true, true, true] rfl rfl (any_of HT_.out (by kernel_rfl)) (fun _ _ _ h => h) (Or.inl ⟨by rfl, ?_⟩) ?_ ?_
                rotate_left
                · intro w'
                  go_simp
                  with_reducible rfl
                rotate_left
                · simp only [Act.put, List.setIfInBounds_toArray, List.set_cons_zero, List.set_cons_succ, i64_w, i32_w]
                  rfl
                refine done_ (done_of HT_.out (by kernel_rfl)) ?_
                try go_wp2
                go_ret2
                exact ⟨by first | rfl | (simp [errW_none, errW_some] <;> rfl) | (simp [*, errW_none, errW_some] <;> rfl), by repeat (first | (with_reducible first | exact HB.out | apply below_alloc | apply pw_below_drewN | apply below_drew1) | exact HB.out)⟩
            · rw [if_neg c9] at H
              exact absurd H (by simp)
          · rw [if_neg c8] at H
            exact absurd H (by simp)
        · replace c7 := Bool.eq_false_iff.mpr c7
          subst c7
          have H1 : (thwartref01_Get.l0 kj3 l0 0) = some (r1, r2) := by rw [if_neg (show ¬ (false = true) by decide)] at H; exact H
          clear H
          have H := H1
          clear H1
          have HC18 := Aside0.mk H
          clear H
          go_upto_block 0 with (fail)
          go_cut [6] (fun v6 wc => ∃ (kq : Nat) (x6_17 : Int), v6 = .int .i64 x6_17 ∧ Aside0 (thwartref01_Get.j2 kq l0 x6_17 = some (r1, r2)) ∧ Aside0 (kq ≤ kj3) ∧ Aside0 (Below w.heap.size w wc))
          case first =>
            have H := HC18.out
            clear HC18
            have H' := Aside0.mk H
            clear H
            go_wp2
            go_loopg [6] kj3 (fun kq v6 w' => ∃ (x6_2 : Int), v6 = .int .i64 x6_2 ∧ Aside0 (thwartref01_Get.l0 kq l0 x6_2 = some (r1, r2)) ∧ Aside0 (kq ≤ kj3) ∧ Aside0 (Below w.heap.size w w'))
            case atStart => exact ⟨(0), (by first | rfl | (simp; done) | (simp [*]; done)), H', ⟨Nat.le_refl _⟩, ⟨by repeat (first | (with_reducible first | exact HB.out | apply below_alloc | apply pw_below_drewN | apply below_drew1) | exact HB.out)⟩⟩
            case round =>
              clear H'
              try clear c1
              try clear p2
              try clear q2
              try clear hx2
              try clear qi2
              try clear c3
              try clear c5
              try clear c5b0
              try clear c5b1
              try clear c6
              try clear c6b0
              try clear c6b1
              try clear c7
              try clear c8
              try clear c8b0
              try clear c8b1
              try clear c9
              try clear c9b0
              try clear c9b1
              try clear c11
              try clear hx213_0
              try clear hx214_0
              try clear hx216_0
              try clear p2
              try clear p213
              try clear p214
              try clear p216
              try clear q2
              try clear q213
              try clear q214
              try clear q216
              obtain ⟨x6_2, rfl, HA, HK2, HB⟩ := hrel
              cases gk with
              | zero => exact absurd HA.out (by simp [thwartref01_Get.l0])
              | succ k2 =>
                have H := HA.out
                clear HA
                simp only [thwartref01_Get.l0] at H
                by_cases c19 : x6_2 < (l0.length : Int)
                · rw [if_pos c19] at H
                  have c19b0 : decide (x6_2 < (l0.length : Int)) = true := decide_eq_true c19
                  clear c19
                  (first | rw [c19b0] | (simp only [i64_w, i32_w]; rw [c19b0]) | skip)
                  by_cases c20 : 0 ≤ x6_2
                  · rw [if_pos c20] at H
                    have c20b0 : decide (0 ≤ x6_2) = true := decide_eq_true c20
                    clear c20
                    by_cases c21 : (rd l0 x6_2) = 32
                    · rw [if_pos c21] at H
                      have c21b0 : ((rd l0 x6_2) == 32) = true := beq_iff_eq.mpr c21
                      have c21b1 : ((rd l0 x6_2) != 32) = false := bne_eq_false_iff_eq.mpr c21
                      clear c21
                      have H' := Aside0.mk H
                      clear H
                      have p219 : 0 ≤ (x6_2 : Int) := of_decide_eq_true (by first | (with_reducible assumption) | assumption)
                      have q219 : x6_2 < (l0.length : Int) := of_decide_eq_true (by first | (with_reducible assumption) | assumption)
                      obtain ⟨ad219, e219, hx219_0⟩ := Kd.at_int HR0.out x6_2 p219 q219
                      cases e219
                      replace hx219_0 := (HB.out.cell (World.block_lt_of_cell? w _ hx219_0)).trans hx219_0
                      replace p219 := eq_true p219
                      replace q219 := eq_true q219
                      go_wp2
                      go_roundg k2
                      case measure => have := HJ3.out; have := HK2.out; omega
                      case rel => exact ⟨(wrap64 (x6_2 + 1)), (by first | rfl | (simp; done) | (simp [*]; done)), H', ⟨by have := HJ3.out; have := HK2.out; omega⟩, ⟨by repeat (first | (with_reducible first | exact HB.out | apply below_alloc | apply pw_below_drewN | apply below_drew1) | exact HB.out)⟩⟩
                    · rw [if_neg c21] at H
                      have c21b0 : ((rd l0 x6_2) == 32) = false := beq_eq_false_iff_ne.mpr c21
                      have c21b1 : ((rd l0 x6_2) != 32) = true := bne_iff_ne.mpr c21
                      have H' := Aside0.mk H
                      clear H
                      have p219 : 0 ≤ (x6_2 : Int) := of_decide_eq_true (by first | (with_reducible assumption) | assumption)
                      have q219 : x6_2 < (l0.length : Int) := of_decide_eq_true (by first | (with_reducible assumption) | assumption)
                      obtain ⟨ad219, e219, hx219_0⟩ := Kd.at_int HR0.out x6_2 p219 q219
                      cases e219
                      replace hx219_0 := (HB.out.cell (World.block_lt_of_cell? w _ hx219_0)).trans hx219_0
                      replace p219 := eq_true p219
                      replace q219 := eq_true q219
                      go_wp2
                      go_meet
                      case rel => exact ⟨_, (x6_2), (by first | rfl | (simp; done) | (simp [*]; done)), H', ⟨by have := HJ3.out; have := HK2.out; first | omega | exact Nat.le_refl _⟩, ⟨by repeat (first | (with_reducible first | exact HB.out | apply below_alloc | apply pw_below_drewN | apply below_drew1) | exact HB.out)⟩⟩
                  · rw [if_neg c20] at H
                    exact absurd H (by simp)
                · rw [if_neg c19] at H
                  have c19b0 : decide (x6_2 < (l0.length : Int)) = false := decide_eq_false c19
                  clear c19
                  (first | rw [c19b0] | (simp only [i64_w, i32_w]; rw [c19b0]) | skip)
                  have H' := Aside0.mk H
                  clear H
                  go_wp2
                  go_meet
                  case rel => exact ⟨_, (x6_2), (by first | rfl | (simp; done) | (simp [*]; done)), H', ⟨by have := HJ3.out; have := HK2.out; first | omega | exact Nat.le_refl _⟩, ⟨by repeat (first | (with_reducible first | exact HB.out | apply below_alloc | apply pw_below_drewN | apply below_drew1) | exact HB.out)⟩⟩
          case rest =>
            clear HC18
            try clear c1
            try clear c2
            try clear p2
            try clear q2
            try clear hx2
            try clear qi2
            try clear c3
            try clear c5
            try clear c5b0
            try clear c5b1
            try clear c6
            try clear c6b0
            try clear c6b1
            try clear p6
            try clear c7
            try clear c8
            try clear c8b0
            try clear c8b1
            try clear c9
            try clear c9b0
            try clear c9b1
            try clear c11
            try clear c19
            try clear c19b0
            try clear c20
            try clear c20b0
            try clear c21
            try clear c21b0
            try clear c21b1
            try clear p21
            try clear q21
            try clear hx21
            try clear qi21
            try clear hx213_0
            try clear hx214_0
            try clear hx216_0
            try clear hx219_0
            try clear p2
            try clear p213
            try clear p214
            try clear p216
            try clear p219
            try clear q2
            try clear q213
            try clear q214
            try clear q216
            try clear q219
            obtain ⟨kq, x6_17, rfl, HA, HJ17, HB⟩ := hcut
            cases kq with
            | zero => exact absurd HA.out (by simp [thwartref01_Get.j2])
            | succ kj17 =>
              have H := HA.out
              clear HA
              simp only [thwartref01_Get.j2] at H
              have HC22 := Aside0.mk H
              clear H
              go_upto_block 2 with (fail)
              go_cut [6, 7, 8] (fun v6 v7 v8 wc => ∃ (kq : Nat) (x6_21 : Int) (x7_21 : Int) (x8_21 : Int), v6 = .int .i64 x6_21 ∧ v7 = .int .i64 x7_21 ∧ v8 = .int .i64 x8_21 ∧ Aside0 (thwartref01_Get.j4 kq l0 x6_21 x7_21 x8_21 = some (r1, r2)) ∧ Aside0 (kq ≤ kj17) ∧ Aside0 (Below w.heap.size w wc))
              case first =>
                have H := HC22.out
                clear HC22
                have H' := Aside0.mk H
                clear H
                go_wp2
                go_loopg [6, 7, 8] kj17 (fun kq v6 v7 v8 w' => ∃ (x6_3 : Int) (x7_3 : Int) (x8_3 : Int), v6 = .int .i64 x6_3 ∧ v7 = .int .i64 x7_3 ∧ v8 = .int .i64 x8_3 ∧ Aside0 (thwartref01_Get.l1 kq l0 x6_3 x7_3 x8_3 = some (r1, r2)) ∧ Aside0 (kq ≤ kj17) ∧ Aside0 (Below w.heap.size w w'))
                case atStart => exact ⟨(x6_17), (0), (0), (by first | rfl | (simp; done) | (simp [*]; done)), (by first | rfl | (simp; done) | (simp [*]; done)), (by first | rfl | (simp; done) | (simp [*]; done)), H', ⟨Nat.le_refl _⟩, ⟨by repeat (first | (with_reducible first | exact HB.out | apply below_alloc | apply pw_below_drewN | apply below_drew1) | exact HB.out)⟩⟩
                case round =>
                  clear H'
                  try clear c1
                  try clear c2
                  try clear p2
                  try clear q2
                  try clear hx2
                  try clear qi2
                  try clear c3
                  try clear c5
                  try clear c5b0
                  try clear c5b1
                  try clear c6
                  try clear c6b0
                  try clear c6b1
                  try clear p6
                  try clear c7
                  try clear c8
                  try clear c8b0
                  try clear c8b1
                  try clear c9
                  try clear c9b0
                  try clear c9b1
                  try clear c11
                  try clear c19
                  try clear c19b0
                  try clear c20
                  try clear c20b0
                  try clear c21
                  try clear c21b0
                  try clear c21b1
                  try clear p21
                  try clear q21
                  try clear hx21
                  try clear qi21
                  try clear hx213_0
                  try clear hx214_0
                  try clear hx216_0
                  try clear hx219_0
                  try clear p2
                  try clear p21
                  try clear p213
                  try clear p214
                  try clear p216
                  try clear p219
                  try clear p6
                  try clear q2
                  try clear q21
                  try clear q213
                  try clear q214
                  try clear q216
                  try clear q219
                  obtain ⟨x6_3, x7_3, x8_3, rfl, rfl, rfl, HA, HK3, HB⟩ := hrel
                  cases gk with
                  | zero => exact absurd HA.out (by simp [thwartref01_Get.l1])
                  | succ k3 =>
                    have H := HA.out
                    clear HA
                    simp only [thwartref01_Get.l1] at H
                    by_cases c23 : x6_3 < (l0.length : Int)
                    · rw [if_pos c23] at H
                      have c23b0 : decide (x6_3 < (l0.length : Int)) = true := decide_eq_true c23
                      clear c23
                      (first | rw [c23b0] | (simp only [i64_w, i32_w]; rw [c23b0]) | skip)
                      by_cases c24 : 0 ≤ x6_3
                      · rw [if_pos c24] at H
                        have c24b0 : decide (0 ≤ x6_3) = true := decide_eq_true c24
                        clear c24
                        by_cases c25 : (rd l0 x6_3) ≥ 48
                        · rw [if_pos c25] at H
                          have c25b0 : decide (48 ≤ (rd l0 x6_3)) = true := decide_eq_true c25
                          clear c25
                          by_cases c26 : (rd l0 x6_3) ≤ 55
                          · rw [if_pos c26] at H
                            have c26b0 : decide ((rd l0 x6_3) ≤ 55) = true := decide_eq_true c26
                            clear c26
                            have H' := Aside0.mk H
                            clear H
                            have p220 : 0 ≤ (x6_3 : Int) := of_decide_eq_true (by first | (with_reducible assumption) | assumption)
                            have q220 : x6_3 < (l0.length : Int) := of_decide_eq_true (by first | (with_reducible assumption) | assumption)
                            obtain ⟨ad220, e220, hx220_0⟩ := Kd.at_int HR0.out x6_3 p220 q220
                            cases e220
                            replace hx220_0 := (HB.out.cell (World.block_lt_of_cell? w _ hx220_0)).trans hx220_0
                            replace p220 := eq_true p220
                            replace q220 := eq_true q220
                            have p221 : 0 ≤ (x6_3 : Int) := of_decide_eq_true (by first | (with_reducible assumption) | assumption)
                            have q221 : x6_3 < (l0.length : Int) := of_decide_eq_true (by first | (with_reducible assumption) | assumption)
                            obtain ⟨ad221, e221, hx221_0⟩ := Kd.at_int HR0.out x6_3 p221 q221
                            obtain rfl : ad220 = ad221 := (by injection e221)
                            replace hx221_0 := (HB.out.cell (World.block_lt_of_cell? w _ hx221_0)).trans hx221_0
                            replace p221 := eq_true p221
                            replace q221 := eq_true q221
                            have p222 : 0 ≤ (x6_3 : Int) := of_decide_eq_true (by first | (with_reducible assumption) | assumption)
                            have q222 : x6_3 < (l0.length : Int) := of_decide_eq_true (by first | (with_reducible assumption) | assumption)
                            obtain ⟨ad222, e222, hx222_0⟩ := Kd.at_int HR0.out x6_3 p222 q222
                            obtain rfl : ad220 = ad222 := (by injection e222)
                            replace hx222_0 := (HB.out.cell (World.block_lt_of_cell? w _ hx222_0)).trans hx222_0
                            replace p222 := eq_true p222
                            replace q222 := eq_true q222
                            go_wp2
                            go_roundg k3
                            case measure => have := HJ3.out; have := HJ17.out; have := HK3.out; omega
                            case rel => exact ⟨(wrap64 (x6_3 + 1)), (wrap64 ((wrap64 (8 * x7_3)) + (((rd l0 x6_3) - 48) % 256))), (wrap64 (x8_3 + 1)), (by first | rfl | (simp; done) | (simp [*]; done)), (by first | rfl | (simp; done) | (simp [*]; done)), (by first | rfl | (simp; done) | (simp [*]; done)), H', ⟨by have := HJ3.out; have := HJ17.out; have := HK3.out; omega⟩, ⟨by repeat (first | (with_reducible first | exact HB.out | apply below_alloc | apply pw_below_drewN | apply below_drew1) | exact HB.out)⟩⟩
                          · rw [if_neg c26] at H
                            have c26b0 : decide ((rd l0 x6_3) ≤ 55) = false := decide_eq_false c26
                            clear c26
                            have H' := Aside0.mk H
                            clear H
                            have p220 : 0 ≤ (x6_3 : Int) := of_decide_eq_true (by first | (with_reducible assumption) | assumption)
                            have q220 : x6_3 < (l0.length : Int) := of_decide_eq_true (by first | (with_reducible assumption) | assumption)
                            obtain ⟨ad220, e220, hx220_0⟩ := Kd.at_int HR0.out x6_3 p220 q220
                            cases e220
                            replace hx220_0 := (HB.out.cell (World.block_lt_of_cell? w _ hx220_0)).trans hx220_0
                            replace p220 := eq_true p220
                            replace q220 := eq_true q220
                            have p221 : 0 ≤ (x6_3 : Int) := of_decide_eq_true (by first | (with_reducible assumption) | assumption)
                            have q221 : x6_3 < (l0.length : Int) := of_decide_eq_true (by first | (with_reducible assumption) | assumption)
                            obtain ⟨ad221, e221, hx221_0⟩ := Kd.at_int HR0.out x6_3 p221 q221
                            obtain rfl : ad220 = ad221 := (by injection e221)
                            replace hx221_0 := (HB.out.cell (World.block_lt_of_cell? w _ hx221_0)).trans hx221_0
                            replace p221 := eq_true p221
                            replace q221 := eq_true q221
                            go_wp2
                            go_meet
                            case rel => exact ⟨_, (x6_3), (x7_3), (x8_3), (by first | rfl | (simp; done) | (simp [*]; done)), (by first | rfl | (simp; done) | (simp [*]; done)), (by first | rfl | (simp; done) | (simp [*]; done)), H', ⟨by have := HJ3.out; have := HJ17.out; have := HK3.out; first | omega | exact Nat.le_refl _⟩, ⟨by repeat (first | (with_reducible first | exact HB.out | apply below_alloc | apply pw_below_drewN | apply below_drew1) | exact HB.out)⟩⟩
                        · rw [if_neg c25] at H
                          have c25b0 : decide (48 ≤ (rd l0 x6_3)) = false := decide_eq_false c25
                          clear c25
                          have H' := Aside0.mk H
                          clear H
                          have p220 : 0 ≤ (x6_3 : Int) := of_decide_eq_true (by first | (with_reducible assumption) | assumption)
                          have q220 : x6_3 < (l0.length : Int) := of_decide_eq_true (by first | (with_reducible assumption) | assumption)
                          obtain ⟨ad220, e220, hx220_0⟩ := Kd.at_int HR0.out x6_3 p220 q220
                          cases e220
                          replace hx220_0 := (HB.out.cell (World.block_lt_of_cell? w _ hx220_0)).trans hx220_0
                          replace p220 := eq_true p220
                          replace q220 := eq_true q220
                          go_wp2
                          go_meet
                          case rel => exact ⟨_, (x6_3), (x7_3), (x8_3), (by first | rfl | (simp; done) | (simp [*]; done)), (by first | rfl | (simp; done) | (simp [*]; done)), (by first | rfl | (simp; done) | (simp [*]; done)), H', ⟨by have := HJ3.out; have := HJ17.out; have := HK3.out; first | omega | exact Nat.le_refl _⟩, ⟨by repeat (first | (with_reducible first | exact HB.out | apply below_alloc | apply pw_below_drewN | apply below_drew1) | exact HB.out)⟩⟩
                      · rw [if_neg c24] at H
                        exact absurd H (by simp)
                    · rw [if_neg c23] at H
                      have c23b0 : decide (x6_3 < (l0.length : Int)) = false := decide_eq_false c23
                      clear c23
                      (first | rw [c23b0] | (simp only [i64_w, i32_w]; rw [c23b0]) | skip)
                      have H' := Aside0.mk H
                      clear H
                      go_wp2
                      go_meet
                      case rel => exact ⟨_, (x6_3), (x7_3), (x8_3), (by first | rfl | (simp; done) | (simp [*]; done)), (by first | rfl | (simp; done) | (simp [*]; done)), (by first | rfl | (simp; done) | (simp [*]; done)), H', ⟨by have := HJ3.out; have := HJ17.out; have := HK3.out; first | omega | exact Nat.le_refl _⟩, ⟨by repeat (first | (with_reducible first | exact HB.out | apply below_alloc | apply pw_below_drewN | apply below_drew1) | exact HB.out)⟩⟩
              case rest =>
                clear HC22
                try clear c1
                try clear c2
                try clear p2
                try clear q2
                try clear hx2
                try clear qi2
                try clear c3
                try clear c5
                try clear c5b0
                try clear c5b1
                try clear c6
                try clear c6b0
                try clear c6b1
                try clear p6
                try clear c7
                try clear c8
                try clear c8b0
                try clear c8b1
                try clear c9
                try clear c9b0
                try clear c9b1
                try clear c11
                try clear c19
                try clear c19b0
                try clear c20
                try clear c20b0
                try clear c21
                try clear c21b0
                try clear c21b1
                try clear p21
                try clear q21
                try clear hx21
                try clear qi21
                try clear p22
                try clear q22
                try clear hx22
                try clear c23
                try clear c23b0
                try clear c24
                try clear c24b0
                try clear c25
                try clear c25b0
                try clear c26
                try clear c26b0
                try clear hx213_0
                try clear hx214_0
                try clear hx216_0
                try clear hx219_0
                try clear hx220_0
                try clear hx221_0
                try clear hx222_0
                try clear p2
                try clear p21
                try clear p213
                try clear p214
                try clear p216
                try clear p219
                try clear p220
                try clear p221
                try clear p222
                try clear p6
                try clear q2
                try clear q21
                try clear q213
                try clear q214
                try clear q216
                try clear q219
                try clear q220
                try clear q221
                try clear q222
                obtain ⟨kq, x6_21, x7_21, x8_21, rfl, rfl, rfl, HA, HJ21, HB⟩ := hcut
                cases kq with
                | zero => exact absurd HA.out (by simp [thwartref01_Get.j4])
                | succ kj21 =>
                  have H := HA.out
                  clear HA
                  simp only [thwartref01_Get.j4] at H
                  have H' := Aside0.mk H
                  clear H
                  go_wp2
                  go_loopg [6] kj21 (fun kq v6 w' => ∃ (x6_4 : Int), v6 = .int .i64 x6_4 ∧ Aside0 (thwartref01_Get.l2 kq l0 x6_4 x7_21 x8_21 = some (r1, r2)) ∧ Aside0 (kq ≤ kj21) ∧ Aside0 (Below w.heap.size w w'))
                  case atStart => exact ⟨(x6_21), (by first | rfl | (simp; done) | (simp [*]; done)), H', ⟨Nat.le_refl _⟩, ⟨by repeat (first | (with_reducible first | exact HB.out | apply below_alloc | apply pw_below_drewN | apply below_drew1) | exact HB.out)⟩⟩
                  case round =>
                    clear H'
                    try clear c1
                    try clear c2
                    try clear p2
                    try clear q2
                    try clear hx2
                    try clear qi2
                    try clear c3
                    try clear c5
                    try clear c5b0
                    try clear c5b1
                    try clear c6
                    try clear c6b0
                    try clear c6b1
                    try clear p6
                    try clear c7
                    try clear c8
                    try clear c8b0
                    try clear c8b1
                    try clear c9
                    try clear c9b0
                    try clear c9b1
                    try clear c11
                    try clear c19
                    try clear c19b0
                    try clear c20
                    try clear c20b0
                    try clear c21
                    try clear c21b0
                    try clear c21b1
                    try clear p21
                    try clear q21
                    try clear hx21
                    try clear qi21
                    try clear p22
                    try clear q22
                    try clear hx22
                    try clear c23
                    try clear c23b0
                    try clear c24
                    try clear c24b0
                    try clear c25
                    try clear c25b0
                    try clear c26
                    try clear c26b0
                    try clear hx213_0
                    try clear hx214_0
                    try clear hx216_0
                    try clear hx219_0
                    try clear hx220_0
                    try clear hx221_0
                    try clear hx222_0
                    try clear p2
                    try clear p21
                    try clear p213
                    try clear p214
                    try clear p216
                    try clear p219
                    try clear p22
                    try clear p220
                    try clear p221
                    try clear p222
                    try clear p6
                    try clear q2
                    try clear q21
                    try clear q213
                    try clear q214
                    try clear q216
                    try clear q219
                    try clear q22
                    try clear q220
                    try clear q221
                    try clear q222
                    obtain ⟨x6_4, rfl, HA, HK4, HB⟩ := hrel
                    cases gk with
                    | zero => exact absurd HA.out (by simp [thwartref01_Get.l2])
                    | succ k4 =>
                      have H := HA.out
                      clear HA
                      simp only [thwartref01_Get.l2] at H
                      by_cases c27 : x6_4 < (l0.length : Int)
                      · rw [if_pos c27] at H
                        have c27b0 : decide (x6_4 < (l0.length : Int)) = true := decide_eq_true c27
                        clear c27
                        by_cases c28 : 0 ≤ x6_4
                        · rw [if_pos c28] at H
                          have c28b0 : decide (0 ≤ x6_4) = true := decide_eq_true c28
                          clear c28
                          by_cases c29 : (rd l0 x6_4) = 0
                          · rw [if_pos c29] at H
                            have c29b0 : ((rd l0 x6_4) == 0) = true := beq_iff_eq.mpr c29
                            have c29b1 : ((rd l0 x6_4) != 0) = false := bne_eq_false_iff_eq.mpr c29
                            clear c29
                            have H' := Aside0.mk H
                            clear H
                            have p223 : 0 ≤ (x6_4 : Int) := of_decide_eq_true (by first | (with_reducible assumption) | assumption)
                            have q223 : x6_4 < (l0.length : Int) := of_decide_eq_true (by first | (with_reducible assumption) | assumption)
                            obtain ⟨ad223, e223, hx223_0⟩ := Kd.at_int HR0.out x6_4 p223 q223
                            cases e223
                            replace hx223_0 := (HB.out.cell (World.block_lt_of_cell? w _ hx223_0)).trans hx223_0
                            replace p223 := eq_true p223
                            replace q223 := eq_true q223
                            go_wp2
                            go_roundg k4
                            case measure => have := HJ3.out; have := HJ17.out; have := HJ21.out; have := HK4.out; omega
                            case rel => exact ⟨(wrap64 (x6_4 + 1)), (by first | rfl | (simp; done) | (simp [*]; done)), H', ⟨by have := HJ3.out; have := HJ17.out; have := HJ21.out; have := HK4.out; omega⟩, ⟨by repeat (first | (with_reducible first | exact HB.out | apply below_alloc | apply pw_below_drewN | apply below_drew1) | exact HB.out)⟩⟩
                          · rw [if_neg c29] at H
                            have c29b0 : ((rd l0 x6_4) == 0) = false := beq_eq_false_iff_ne.mpr c29
                            have c29b1 : ((rd l0 x6_4) != 0) = true := bne_iff_ne.mpr c29
                            by_cases c30 : (rd l0 x6_4) = 32
                            · rw [if_pos c30] at H
                              have c30b0 : ((rd l0 x6_4) == 32) = true := beq_iff_eq.mpr c30
                              have c30b1 : ((rd l0 x6_4) != 32) = false := bne_eq_false_iff_eq.mpr c30
                              clear c30
                              have H' := Aside0.mk H
                              clear H
                              have p223 : 0 ≤ (x6_4 : Int) := of_decide_eq_true (by first | (with_reducible assumption) | assumption)
                              have q223 : x6_4 < (l0.length : Int) := of_decide_eq_true (by first | (with_reducible assumption) | assumption)
                              obtain ⟨ad223, e223, hx223_0⟩ := Kd.at_int HR0.out x6_4 p223 q223
                              cases e223
                              replace hx223_0 := (HB.out.cell (World.block_lt_of_cell? w _ hx223_0)).trans hx223_0
                              replace p223 := eq_true p223
                              replace q223 := eq_true q223
                              have p224 : 0 ≤ (x6_4 : Int) := of_decide_eq_true (by first | (with_reducible assumption) | assumption)
                              have q224 : x6_4 < (l0.length : Int) := of_decide_eq_true (by first | (with_reducible assumption) | assumption)
                              obtain ⟨ad224, e224, hx224_0⟩ := Kd.at_int HR0.out x6_4 p224 q224
                              obtain rfl : ad223 = ad224 := (by injection e224)
                              replace hx224_0 := (HB.out.cell (World.block_lt_of_cell? w _ hx224_0)).trans hx224_0
                              replace p224 := eq_true p224
                              replace q224 := eq_true q224
                              go_wp2
                              go_roundg k4
                              case measure => have := HJ3.out; have := HJ17.out; have := HJ21.out; have := HK4.out; omega
                              case rel => exact ⟨(wrap64 (x6_4 + 1)), (by first | rfl | (simp; done) | (simp [*]; done)), H', ⟨by have := HJ3.out; have := HJ17.out; have := HJ21.out; have := HK4.out; omega⟩, ⟨by repeat (first | (with_reducible first | exact HB.out | apply below_alloc | apply pw_below_drewN | apply below_drew1) | exact HB.out)⟩⟩
                            · rw [if_neg c30] at H
                              have c30b0 : ((rd l0 x6_4) == 32) = false := beq_eq_false_iff_ne.mpr c30
                              have c30b1 : ((rd l0 x6_4) != 32) = true := bne_iff_ne.mpr c30
                              by_cases c31 : x8_21 = 0
                              · rw [if_pos c31] at H
                                have c31b0 : (x8_21 == 0) = true := beq_iff_eq.mpr c31
                                have c31b1 : (x8_21 != 0) = false := bne_eq_false_iff_eq.mpr c31
                                clear c31
                                simp only [Option.some.injEq, Prod.mk.injEq] at H
                                obtain ⟨rfl, rfl⟩ := H
                                have p223 : 0 ≤ (x6_4 : Int) := of_decide_eq_true (by first | (with_reducible assumption) | assumption)
                                have q223 : x6_4 < (l0.length : Int) := of_decide_eq_true (by first | (with_reducible assumption) | assumption)
                                obtain ⟨ad223, e223, hx223_0⟩ := Kd.at_int HR0.out x6_4 p223 q223
                                cases e223
                                replace hx223_0 := (HB.out.cell (World.block_lt_of_cell? w _ hx223_0)).trans hx223_0
                                replace p223 := eq_true p223
                                replace q223 := eq_true q223
                                have p224 : 0 ≤ (x6_4 : Int) := of_decide_eq_true (by first | (with_reducible assumption) | assumption)
                                have q224 : x6_4 < (l0.length : Int) := of_decide_eq_true (by first | (with_reducible assumption) | assumption)
                                obtain ⟨ad224, e224, hx224_0⟩ := Kd.at_int HR0.out x6_4 p224 q224
                                obtain rfl : ad223 = ad224 := (by injection e224)
                                replace hx224_0 := (HB.out.cell (World.block_lt_of_cell? w _ hx224_0)).trans hx224_0
                                replace p224 := eq_true p224
                                replace q224 := eq_true q224
                                go_wp2
                                go_ret2
                                exact ⟨by first | rfl | (simp [errW_none, errW_some] <;> rfl) | (simp [*, errW_none, errW_some] <;> rfl), by repeat (first | (with_reducible first | exact HB.out | apply below_alloc | apply pw_below_drewN | apply below_drew1) | exact HB.out)⟩
                              · rw [if_neg c31] at H
                                have c31b0 : (x8_21 == 0) = false := beq_eq_false_iff_ne.mpr c31
                                have c31b1 : (x8_21 != 0) = true := bne_iff_ne.mpr c31
                                simp only [Option.some.injEq, Prod.mk.injEq] at H
                                obtain ⟨rfl, rfl⟩ := H
                                have p223 : 0 ≤ (x6_4 : Int) := of_decide_eq_true (by first | (with_reducible assumption) | assumption)
                                have q223 : x6_4 < (l0.length : Int) := of_decide_eq_true (by first | (with_reducible assumption) | assumption)
                                obtain ⟨ad223, e223, hx223_0⟩ := Kd.at_int HR0.out x6_4 p223 q223
                                cases e223
                                replace hx223_0 := (HB.out.cell (World.block_lt_of_cell? w _ hx223_0)).trans hx223_0
                                replace p223 := eq_true p223
                                replace q223 := eq_true q223
                                have p224 : 0 ≤ (x6_4 : Int) := of_decide_eq_true (by first | (with_reducible assumption) | assumption)
                                have q224 : x6_4 < (l0.length : Int) := of_decide_eq_true (by first | (with_reducible assumption) | assumption)
                                obtain ⟨ad224, e224, hx224_0⟩ := Kd.at_int HR0.out x6_4 p224 q224
                                obtain rfl : ad223 = ad224 := (by injection e224)
                                replace hx224_0 := (HB.out.cell (World.block_lt_of_cell? w _ hx224_0)).trans hx224_0
                                replace p224 := eq_true p224
                                replace q224 := eq_true q224
                                go_wp2
                                go_ret2
                                exact ⟨by first | rfl | (simp [errW_none, errW_some] <;> rfl) | (simp [*, errW_none, errW_some] <;> rfl), by repeat (first | (with_reducible first | exact HB.out | apply below_alloc | apply pw_below_drewN | apply below_drew1) | exact HB.out)⟩
                        · rw [if_neg c28] at H
                          exact absurd H (by simp)
                      · rw [if_neg c27] at H
                        have c27b0 : decide (x6_4 < (l0.length : Int)) = false := decide_eq_false c27
                        clear c27
                        by_cases c32 : x8_21 = 0
                        · rw [if_pos c32] at H
                          have c32b0 : (x8_21 == 0) = true := beq_iff_eq.mpr c32
                          have c32b1 : (x8_21 != 0) = false := bne_eq_false_iff_eq.mpr c32
                          clear c32
                          simp only [Option.some.injEq, Prod.mk.injEq] at H
                          obtain ⟨rfl, rfl⟩ := H
                          go_wp2
                          go_ret2
                          exact ⟨by first | rfl | (simp [errW_none, errW_some] <;> rfl) | (simp [*, errW_none, errW_some] <;> rfl), by repeat (first | (with_reducible first | exact HB.out | apply below_alloc | apply pw_below_drewN | apply below_drew1) | exact HB.out)⟩
                        · rw [if_neg c32] at H
                          have c32b0 : (x8_21 == 0) = false := beq_eq_false_iff_ne.mpr c32
                          have c32b1 : (x8_21 != 0) = true := bne_iff_ne.mpr c32
                          simp only [Option.some.injEq, Prod.mk.injEq] at H
                          obtain ⟨rfl, rfl⟩ := H
                          go_wp2
                          go_ret2
                          exact ⟨by first | rfl | (simp [errW_none, errW_some] <;> rfl) | (simp [*, errW_none, errW_some] <;> rfl), by repeat (first | (with_reducible first | exact HB.out | apply below_alloc | apply pw_below_drewN | apply below_drew1) | exact HB.out)⟩
  · replace c3 := Bool.eq_false_iff.mpr c3
    subst c3
    have H1 : (some (0, 1)) = some (r1, r2) := by rw [if_neg (show ¬ (false = true) by decide)] at H; exact H
    clear H
    have H := H1
    clear H1
    simp only [Option.some.injEq, Prod.mk.injEq] at H
    obtain ⟨rfl, rfl⟩ := H
    go_enter Tryd.func52, Tryd.ntmps52
    go_wp2_with (first | ((with_reducible refine gate_callee (f := 74) rfl ?_); refine goesL_ (some 11) rfl rfl Tryd.func74 (by kernel_rfl) rfl #[.int .i64 (l0.length : Int)] rfl (by (try simp only [List.map_toArray, List.map_cons, List.map_nil]); first | done | rfl | (simp only [List.length_drop, List.length_take]; rfl)) ?_; (with_reducible refine (thwartref01_wide.calls (l0.length : Int) false _ A2.out).mono ?_); rintro e w' ⟨rfl, ⟨nd, rfl⟩⟩; refine ⟨_, rfl, ?_⟩))
    go_ret2
    exact ⟨by first | rfl | (simp [errW_none, errW_some] <;> rfl) | (simp [*, errW_none, errW_some] <;> rfl), by repeat (first | (with_reducible first | exact HB.out | apply below_alloc | apply pw_below_drewN | apply below_drew1) | exact HB.out)⟩

end Go.Proofs.YthjljkdiglpbaaaDoor.P

-- QNum
/- Plain facts on numbers of headers: numf.Get answers as the document's Get, for every field. -/
namespace Go.Proofs.YthjljkdiglpbaaaDoor.Q4
open Go.RowKit Go.Proofs.YthjljkdiglpbaaaDoor.P Go.Proofs.YthjljkdiglpbaaaDoor.Hand Go.Proofs.YthjljkdiglpbaaaDoorW.PrintWords Go.Proofs.YthjljkdiglpbaaaDoorW.PrintLast Go.Proofs.YthjljkdiglpbaaaDoorW.PrintMore
set_option linter.unusedVariables false
set_option linter.unusedSimpArgs false

def Byts (l : List Int) : Prop := ∀ x ∈ l, 0 ≤ x ∧ x < 256
theorem wrap_id {i : Int} (h0 : -9223372036854775808 ≤ i) (h : i < 9223372036854775808) : wrap64 i = i := by unfold wrap64; omega
theorem rd_at (l : List Int) (i : Nat) (h : i < l.length) : rd l (i : Int) = l[i] := by
  unfold rd; rw [Int.toNat_natCast, List.getD_eq_getElem?_getD, List.getElem?_eq_getElem h]; rfl

/-- A number by a power of two, and low bits. -/
theorem or_low (s : Nat) (hs : s < 64) (x d : Int) (q : Nat) (hx : x % 18446744073709551616 = ((2 ^ s * q : Nat) : Int)) (h0 : 0 ≤ d) (hd : d.toNat < 2 ^ s) : Go.bits .or .i64 x d = wrap64 (x + d) := by
  obtain ⟨d, rfl⟩ := Int.eq_ofNat_of_zero_le h0
  rw [Int.toNat_natCast] at hd
  have hp : 2 ^ s ≤ 2 ^ 63 := Nat.pow_le_pow_right (by omega) (by omega)
  have hq : 2 ^ s * q < 18446744073709551616 := by omega
  show IntKind.i64.wrap ((BitVec.ofInt 64 x ||| BitVec.ofInt 64 (d : Int)).toNat : Int) = _
  rw [BitVec.toNat_or, BitVec.toNat_ofInt, BitVec.toNat_ofInt, IntKind.wrap_i64]
  rw [show ((2 ^ 64 : Nat) : Int) = 18446744073709551616 from rfl, hx, Int.toNat_natCast, show (((d : Nat) : Int) % 18446744073709551616).toNat = d by omega]
  rw [← Nat.two_pow_add_eq_or_of_lt hd q]
  unfold wrap64
  omega
theorem or_byte (n d : Int) (h0 : 0 ≤ d) (hd : d < 256) : Go.bits .or .i64 (wrap64 (n * 256)) d = wrap64 (n * 256 + d) := by
  rw [or_low 8 (by omega) (wrap64 (n * 256)) d (n % 72057594037927936).toNat (by unfold wrap64; omega) h0 (by omega)]
  unfold wrap64; omega
theorem or_oct (n d : Int) (h0 : 0 ≤ d) (hd : d < 8) : Go.bits .or .i64 (wrap64 (n * 8)) d = wrap64 (n * 8 + d) := by
  rw [or_low 3 (by omega) (wrap64 (n * 8)) d (n % 2305843009213693952).toNat (by unfold wrap64; omega) h0 (by omega)]
  unfold wrap64; omega

/-- Bytes, the first one's weight the greatest. -/
def acc : Int → List Int → Int
  | n, [] => n
  | n, c :: l => acc (wrap64 (n * 256 + c)) l
theorem base_l1 (l : List Int) (hl : l.length ≤ 100) (hb : Byts l) (d : Nat) : ∀ (k i : Nat) (n : Int), i + d = l.length → d < k → thwartref01_base.l1 k l n i = some (acc n (l.drop i), true) := by
  induction d with
  | zero =>
    intro k i n h1 h2
    obtain ⟨k, rfl⟩ : ∃ m, k = m + 1 := ⟨k - 1, by omega⟩
    rw [thwartref01_base.l1, if_neg (by omega), List.drop_eq_nil_of_le (by omega)]; rfl
  | succ d ih =>
    intro k i n h1 h2
    obtain ⟨k, rfl⟩ : ∃ m, k = m + 1 := ⟨k - 1, by omega⟩
    have hx := hb l[i] (List.getElem_mem (by omega))
    rw [thwartref01_base.l1, if_pos (by omega), if_pos (by omega), rd_at l i (by omega), wrap_id (i := (i : Int) + 1) (by omega) (by omega), show ((i : Int) + 1) = ((i + 1 : Nat) : Int) by omega, ih k (i + 1) _ (by omega) (by omega), List.drop_eq_getElem_cons (i := i) (by omega)]
    rw [show wrap64 (wrap64 (n * 256) + wrap64 l[i]) = wrap64 (n * 256 + l[i]) by unfold wrap64; omega]
    rfl
theorem flag_255 : ∀ x : Int, 0 ≤ x → x < 256 → (Go.bits .and .u8 (Go.bits .xor .u8 x 255) 128 = 0 ↔ 128 ≤ x) := by
  have h : ∀ x : Fin 256, (Go.bits .and .u8 (Go.bits .xor .u8 (x.val : Int) 255) 128 = 0 ↔ 128 ≤ (x.val : Int)) := by decide +kernel
  intro x h0 h1
  obtain ⟨x, rfl⟩ := Int.eq_ofNat_of_zero_le h0
  exact h ⟨x, by omega⟩
theorem flag_0 : ∀ x : Int, 0 ≤ x → x < 256 → (Go.bits .and .u8 (Go.bits .xor .u8 x 0) 128 = 0 ↔ x < 128) := by
  have h : ∀ x : Fin 256, (Go.bits .and .u8 (Go.bits .xor .u8 (x.val : Int) 0) 128 = 0 ↔ (x.val : Int) < 128) := by decide +kernel
  intro x h0 h1
  obtain ⟨x, rfl⟩ := Int.eq_ofNat_of_zero_le h0
  exact h ⟨x, by omega⟩
/-- unbase's loop, where eight are left at most, and the first of eight is right. -/
theorem unbase_tail (l : List Int) (f : Int) (hl : l.length ≤ 100) (hb : Byts l) (d : Nat) : ∀ (k i : Nat) (n : Int), i + d = l.length → d ≤ 8 → d < k → (∀ (h : d = 8) (hi : i < l.length), Go.bits .and .u8 (Go.bits .xor .u8 l[i] f) 128 = 0) → numf_unbase.l0 k l f n l l.length i = some (acc n (l.drop i), 0) := by
  induction d with
  | zero =>
    intro k i n h1 h8 h2 _
    obtain ⟨k, rfl⟩ : ∃ m, k = m + 1 := ⟨k - 1, by omega⟩
    rw [numf_unbase.l0, if_neg (by omega), List.drop_eq_nil_of_le (by omega)]; rfl
  | succ d ih =>
    intro k i n h1 h8 h2 hf
    obtain ⟨k, rfl⟩ : ∃ m, k = m + 1 := ⟨k - 1, by omega⟩
    have hx := hb l[i] (List.getElem_mem (by omega))
    have hw : wrap64 ((l.length : Int) - (i : Int)) = ((d + 1 : Nat) : Int) := by rw [wrap_id (by omega) (by omega)]; omega
    rw [numf_unbase.l0, if_pos (by omega), if_pos (by omega), if_pos (by omega), hw, if_neg (by omega), rd_at l i (by omega), wrap_id (i := (i : Int) + 1) (by omega) (by omega), show ((i : Int) + 1) = ((i + 1 : Nat) : Int) by omega, wrap_id (i := l[i]) (by omega) (by omega), or_byte n _ hx.1 hx.2, ih k (i + 1) _ (by omega) (by omega) (by omega) (fun h => by omega)]
    rw [List.drop_eq_getElem_cons (i := i) (by omega)]
    by_cases h : d = 7
    · rw [if_pos (by omega), if_pos (hf (by omega) (by omega))]; rfl
    · rw [if_neg (by omega)]; rfl

theorem fill_255 : wrap64 (IntKind.i8.wrap 255) = -1 := by decide +kernel
theorem fill_0 : wrap64 (IntKind.i8.wrap 0) = 0 := by decide +kernel
theorem or_fill : Go.bits .or .i64 (wrap64 (-1 * 256)) (wrap64 255) = -1 := by decide +kernel
theorem or_zero : Go.bits .or .i64 (wrap64 (0 * 256)) (wrap64 0) = 0 := by decide +kernel
theorem unbase_skip (l : List Int) (f n : Int) (hl : l.length ≤ 100) (hb : Byts l) (i k : Nat) (hi : i + 8 < l.length) (hn : Go.bits .or .i64 (wrap64 (n * 256)) (wrap64 f) = n) : numf_unbase.l0 (k + 1) l f n l l.length i = if l[i] = f then numf_unbase.l0 k l f n l l.length ((i + 1 : Nat) : Int) else some (0, 10) := by
  have hw : wrap64 ((l.length : Int) - (i : Int)) = ((l.length - i : Nat) : Int) := by rw [wrap_id (by omega) (by omega)]; omega
  rw [numf_unbase.l0, if_pos (by omega), if_pos (by omega), if_pos (by omega), hw, if_pos (by omega), rd_at l i (by omega), wrap_id (i := (i : Int) + 1) (by omega) (by omega), show ((i : Int) + 1) = ((i + 1 : Nat) : Int) by omega]
  by_cases h : l[i] = f
  · rw [if_pos h, if_pos h, if_neg (by omega), h, hn]
  · rw [if_neg h, if_neg h]
theorem unbase_eight (l : List Int) (f n : Int) (hl : l.length ≤ 100) (hb : Byts l) (i k : Nat) (hi : i + 8 = l.length) (hk : 8 < k) : numf_unbase.l0 k l f n l l.length i = if Go.bits .and .u8 (Go.bits .xor .u8 (l[i]'(by omega)) f) 128 = 0 then some (acc n (l.drop i), 0) else some (0, 10) := by
  by_cases h : Go.bits .and .u8 (Go.bits .xor .u8 (l[i]'(by omega)) f) 128 = 0
  · rw [if_pos h]
    exact unbase_tail l f hl hb 8 k i n hi (by omega) hk (fun _ _ => h)
  · obtain ⟨k, rfl⟩ : ∃ m, k = m + 1 := ⟨k - 1, by omega⟩
    have hw : wrap64 ((l.length : Int) - (i : Int)) = 8 := by rw [wrap_id (by omega) (by omega)]; omega
    rw [numf_unbase.l0, if_pos (by omega), if_pos (by omega), if_pos (by omega), hw, if_neg (by decide), if_pos rfl, rd_at l i (by omega), if_neg h, if_neg h]
theorem base_skip (c : Int) (l : List Int) (b : Bool) (hl : 8 ≤ l.length) (hl2 : l.length ≤ 100) (k : Nat) : thwartref01_base.l0 (k + 1) (c :: l) b = if c = (if b = true then 255 else 0) then thwartref01_base.l0 k l b else some (0, false) := by
  have hr : rd (c :: l) 0 = c := rfl
  have hlen : (c :: l).length = l.length + 1 := rfl
  rw [thwartref01_base.l0, if_pos (by rw [hlen]; omega), List.drop_one, List.tail_cons, hr]
  cases b
  · simp only [Bool.false_eq_true, if_false]
    rw [if_pos (by rw [hlen]; omega)]
    by_cases hc : c = 0
    · rw [if_pos hc, if_pos hc, if_pos (by rw [hlen]; omega)]
    · rw [if_neg hc, if_neg hc]
  · simp only [if_true]
    rw [if_pos (by rw [hlen]; omega)]
    by_cases hc : c = 255
    · rw [if_pos hc, if_pos hc, if_pos (by rw [hlen]; omega)]
    · rw [if_neg hc, if_neg hc]
theorem base_end (l : List Int) (b bad : Bool) (hl : l.length ≤ 100) (hb : Byts l) (k : Nat) (hk : l.length + 3 < k) : thwartref01_base.j1 k l b bad = if bad = true then some (0, false) else some (acc (if b = true then -1 else 0) l, true) := by
  obtain ⟨k, rfl⟩ : ∃ m, k = m + 2 := ⟨k - 2, by omega⟩
  have hq : ∀ n, thwartref01_base.j2 (k + 1) l n = some (acc n l, true) := fun n => by
    rw [thwartref01_base.j2]
    have := base_l1 l hl hb l.length k 0 n (by omega) (by omega)
    rw [List.drop_zero] at this
    exact this
  rw [thwartref01_base.j1]
  cases bad
  · simp only [Bool.false_eq_true, if_false, hq]
    split <;> rfl
  · simp only [if_true]
theorem base_eight (l : List Int) (b : Bool) (hl : l.length = 8) (hb : Byts l) (k : Nat) (hk : 20 ≤ k) : thwartref01_base.l0 k l b = if (b != decide ((128 : Int) ≤ l[0]'(by omega))) = true then some (0, false) else some (acc (if b = true then -1 else 0) l, true) := by
  obtain ⟨k, rfl⟩ : ∃ m, k = m + 1 := ⟨k - 1, by omega⟩
  have hr : rd l 0 = l[0] := rd_at l 0 (by omega)
  rw [thwartref01_base.l0, if_neg (by omega), if_pos (by omega), if_pos (by omega), hr, base_end l b _ (by omega) hb k (by omega)]
theorem base_few (l : List Int) (b : Bool) (hl : l.length < 8) (hb : Byts l) (k : Nat) (hk : 20 ≤ k) : thwartref01_base.l0 k l b = some (acc (if b = true then -1 else 0) l, true) := by
  obtain ⟨k, rfl⟩ : ∃ m, k = m + 1 := ⟨k - 1, by omega⟩
  rw [thwartref01_base.l0, if_neg (by omega), if_neg (by omega), base_end l b _ (by omega) hb k (by omega)]
  rfl

theorem base_core (l : List Int) (hl : l.length = 7 ∨ l.length = 11) (hb : Byts l) (b : Bool) (f n : Int) (hf : f = if b = true then 255 else 0) (hn : n = if b = true then -1 else 0) (hor : Go.bits .or .i64 (wrap64 (n * 256)) (wrap64 f) = n)
    (hflag : ∀ x : Int, 0 ≤ x → x < 256 → (Go.bits .and .u8 (Go.bits .xor .u8 x f) 128 = 0 ↔ (b != decide (128 ≤ x)) = false)) (k : Nat) (hk : 30 ≤ k) :
    ∃ m e, numf_unbase.l0 19 l f n l l.length 0 = some (m, e) ∧ ∃ ok, thwartref01_base.f k l b = some (m, ok) ∧ ((ok = true ∧ e = 0) ∨ (ok = false ∧ e = 10 ∧ m = 0)) := by
  unfold thwartref01_base.f
  rcases hl with hl | hl
  · have h := unbase_tail l f (by omega) hb 7 19 0 n (by omega) (by omega) (by omega) (fun h => by omega)
    rw [List.drop_zero] at h
    refine ⟨_, _, h, true, ?_, .inl ⟨rfl, rfl⟩⟩
    rw [base_few l b (by omega) hb k (by omega), hn]
  · match l, hl with
    | [a0, a1, a2, a3, a4, a5, a6, a7, a8, a9, a10], _ =>
      obtain ⟨k, rfl⟩ : ∃ m, k = m + 3 := ⟨k - 3, by omega⟩
      have s0 := unbase_skip [a0, a1, a2, a3, a4, a5, a6, a7, a8, a9, a10] f n (by simp) hb 0 18 (by simp) hor
      have s1 := unbase_skip [a0, a1, a2, a3, a4, a5, a6, a7, a8, a9, a10] f n (by simp) hb 1 17 (by simp) hor
      have s2 := unbase_skip [a0, a1, a2, a3, a4, a5, a6, a7, a8, a9, a10] f n (by simp) hb 2 16 (by simp) hor
      have s3 := unbase_eight [a0, a1, a2, a3, a4, a5, a6, a7, a8, a9, a10] f n (by simp) hb 3 16 rfl (by decide)
      have hb8 : Byts [a3, a4, a5, a6, a7, a8, a9, a10] := fun x hx => hb x (List.mem_of_mem_drop (i := 3) (show x ∈ List.drop 3 [a0, a1, a2, a3, a4, a5, a6, a7, a8, a9, a10] from hx))
      have r3 : thwartref01_base.l0 k [a3, a4, a5, a6, a7, a8, a9, a10] b = if (b != decide ((128 : Int) ≤ a3)) = true then some (0, false) else some (acc (if b = true then -1 else 0) [a3, a4, a5, a6, a7, a8, a9, a10], true) := base_eight [a3, a4, a5, a6, a7, a8, a9, a10] b rfl hb8 k (by omega)
      rw [show ((0 : Nat) : Int) = 0 from rfl] at s0
      rw [s0, base_skip a0 _ b (by simp) (by simp), ← hf]
      simp only [List.getElem_cons_zero]
      by_cases c0 : a0 = f
      · rw [if_pos c0, if_pos c0, s1, base_skip a1 _ b (by simp) (by simp), ← hf]
        simp only [List.getElem_cons_zero, List.getElem_cons_succ]
        by_cases c1 : a1 = f
        · rw [if_pos c1, if_pos c1, s2, base_skip a2 _ b (by simp) (by simp), ← hf]
          simp only [List.getElem_cons_zero, List.getElem_cons_succ]
          by_cases c2 : a2 = f
          · rw [if_pos c2, if_pos c2, s3, r3]
            simp only [List.getElem_cons_zero, List.getElem_cons_succ, List.drop_succ_cons, List.drop_zero]
            have hx := hb a3 (by simp)
            have hfl := hflag a3 hx.1 hx.2
            by_cases c3 : Go.bits .and .u8 (Go.bits .xor .u8 a3 f) 128 = 0
            · rw [if_pos c3, hfl.1 c3]
              exact ⟨_, _, rfl, true, by rw [hn]; rfl, .inl ⟨rfl, rfl⟩⟩
            · rw [if_neg c3]
              have : (b != decide (128 ≤ a3)) = true := by
                cases h : (b != decide (128 ≤ a3))
                · exact absurd (hfl.2 h) c3
                · rfl
              rw [this]
              exact ⟨_, _, rfl, false, rfl, .inr ⟨rfl, rfl, rfl⟩⟩
          · rw [if_neg c2, if_neg c2]
            exact ⟨_, _, rfl, false, rfl, .inr ⟨rfl, rfl, rfl⟩⟩
        · rw [if_neg c1, if_neg c1]
          exact ⟨_, _, rfl, false, rfl, .inr ⟨rfl, rfl, rfl⟩⟩
      · rw [if_neg c0, if_neg c0]
        exact ⟨_, _, rfl, false, rfl, .inr ⟨rfl, rfl, rfl⟩⟩
/-- Numbers of base 256 are read as the document reads them. -/
theorem base_same (l : List Int) (hl : l.length = 7 ∨ l.length = 11) (hb : Byts l) (first : Int) (hf : first = 128 ∨ first = 255) (k : Nat) (hk : 30 ≤ k) : ∃ n e, numf_unbase.f 20 first l = some (n, e) ∧ ∃ ok, thwartref01_base.f k l (first == 255) = some (n, ok) ∧ ((ok = true ∧ e = 0) ∨ (ok = false ∧ e = 10 ∧ n = 0)) := by
  unfold numf_unbase.f
  rcases hf with rfl | rfl
  · rw [if_neg (by decide), show ((128 : Int) == 255) = false from rfl, numf_unbase.j0, fill_0]
    exact base_core l hl hb false 0 0 rfl rfl or_zero (fun x h0 h1 => by rw [flag_0 x h0 h1]; simp) k hk
  · rw [if_pos rfl, show ((255 : Int) == 255) = true from rfl, numf_unbase.j0, fill_255]
    exact base_core l hl hb true 255 (-1) rfl rfl or_fill (fun x h0 h1 => by rw [flag_255 x h0 h1]; simp) k hk

/-- Octal digits' number. -/
def oct : Int → List Int → Int
  | n, [] => n
  | n, c :: l => oct (n * 8 + (c - 48)) l
theorem octVal_oct (l : List Int) : ∀ n, 0 ≤ n → n < 8 ^ (20 - l.length) → l.length ≤ 12 → (∀ x ∈ l, 48 ≤ x ∧ x ≤ 55) → octVal n l = oct n l := by
  induction l with
  | nil => intro n _ _ _ _; rfl
  | cons c l ih =>
    intro n h0 h1 hl hd
    have hc := hd c (by simp)
    simp only [List.length_cons] at h1 hl
    have e : (8 : Int) ^ (20 - l.length) = 8 * 8 ^ (20 - (l.length + 1)) := by
      rw [show 20 - l.length = (20 - (l.length + 1)) + 1 by omega, Int.pow_succ]; omega
    have hp : (8 : Int) ^ (20 - l.length) ≤ 8 ^ 20 := by
      have : (8 : Nat) ^ (20 - l.length) ≤ 8 ^ 20 := Nat.pow_le_pow_right (by omega) (by omega)
      exact_mod_cast this
    have hn : n * 8 + (c - 48) < 8 ^ (20 - l.length) := by omega
    have h20 : (8 : Int) ^ 20 = 1152921504606846976 := by decide +kernel
    unfold octVal oct
    rw [or_oct n (c - 48) (by omega) (by omega), wrap_id (by omega) (by omega)]
    exact ih _ (by omega) hn (by omega) (fun x hx => hd x (by simp [hx]))
theorem dw_nil (p : UInt8 → Bool) (l : List UInt8) : l.dropWhile p = [] ↔ ∀ b ∈ l, p b = true := by
  induction l with
  | nil => simp
  | cons x l ih =>
    rw [List.dropWhile_cons]
    by_cases h : p x = true
    · rw [if_pos h, ih]
      constructor
      · intro h1 b hb
        rcases List.mem_cons.1 hb with h2 | h2
        · rw [h2]; exact h
        · exact h1 b h2
      · intro h1 b hb; exact h1 b (List.mem_cons_of_mem _ hb)
    · rw [if_neg h]
      constructor
      · intro h1; cases h1
      · intro h1; exact absurd (h1 x (List.mem_cons_self)) h
theorem tw_mem (p : UInt8 → Bool) (l : List UInt8) : ∀ b ∈ l.takeWhile p, p b = true := by
  induction l with
  | nil => intro b hb; cases hb
  | cons x l ih =>
    intro b hb
    rw [List.takeWhile_cons] at hb
    by_cases h : p x = true
    · rw [if_pos h] at hb
      rcases List.mem_cons.1 hb with h2 | h2
      · rw [h2]; exact h
      · exact ih b h2
    · rw [if_neg h] at hb; cases hb
/-- What is behind the digits: noughts and spaces alone. -/
def blank (l : List Int) : Bool := l.all fun x => x == 0 || x == 32
theorem trim_blank (l : List Int) (hb : Byts l) : (Lib.trimS (Lib.bytesOf l) [32, 0]).length = 0 ↔ blank l = true := by
  have hc : ∀ x : Int, 0 ≤ x → x < 256 → (([32, 0] : List UInt8).contains x.toNat.toUInt8 = true ↔ (x == 0 || x == 32) = true) := by
    have h : ∀ x : Fin 256, (([32, 0] : List UInt8).contains (x.val : Int).toNat.toUInt8 = true ↔ ((x.val : Int) == 0 || (x.val : Int) == 32) = true) := by decide +kernel
    intro x h0 h1
    obtain ⟨x, rfl⟩ := Int.eq_ofNat_of_zero_le h0
    exact h ⟨x, by omega⟩
  have h1 : (∀ b ∈ Lib.bytesOf l, ([32, 0] : List UInt8).contains b = true) ↔ blank l = true := by
    unfold blank Lib.bytesOf
    rw [List.all_eq_true]
    constructor
    · intro h x hx
      exact (hc x (hb x hx).1 (hb x hx).2).1 (h _ (List.mem_map_of_mem hx))
    · intro h b hb2
      obtain ⟨x, hx, rfl⟩ := List.mem_map.1 hb2
      exact (hc x (hb x hx).1 (hb x hx).2).2 (h x hx)
  rw [← h1]
  unfold Lib.trimS Lib.trimLeftS Lib.trimRightS
  generalize Lib.bytesOf l = m
  constructor
  · intro h
    have h2 : ∀ b ∈ (m.reverse.dropWhile (([32, 0] : List UInt8).contains ·)).reverse, ([32, 0] : List UInt8).contains b = true := by
      have := List.eq_nil_of_length_eq_zero h
      exact (dw_nil _ _).1 this
    intro b hb2
    rcases Classical.em (b ∈ m.reverse.dropWhile (([32, 0] : List UInt8).contains ·)) with h3 | h3
    · exact h2 b (by simpa using h3)
    · have h4 : b ∈ m.reverse.takeWhile (([32, 0] : List UInt8).contains ·) := by
        have : b ∈ m.reverse := by simpa using hb2
        rw [← List.takeWhile_append_dropWhile (p := (([32, 0] : List UInt8).contains ·)) (l := m.reverse)] at this
        rcases List.mem_append.1 this with h5 | h5
        · exact h5
        · exact absurd h5 h3
      exact tw_mem _ _ b h4
  · intro h
    have h2 : m.reverse.dropWhile (([32, 0] : List UInt8).contains ·) = [] := (dw_nil _ _).2 (fun b hb2 => h b (by simpa using hb2))
    rw [h2]; rfl

theorem get_l2 (l : List Int) (hl : l.length ≤ 100) (v c : Int) (d : Nat) : ∀ (k i : Nat), i + d = l.length → d < k → thwartref01_Get.l2 k l i v c = some (if c = 0 ∨ blank (l.drop i) = false then (0, 3) else (v, 0)) := by
  induction d with
  | zero =>
    intro k i h1 h2
    obtain ⟨k, rfl⟩ : ∃ m, k = m + 1 := ⟨k - 1, by omega⟩
    rw [thwartref01_Get.l2, if_neg (by omega), List.drop_eq_nil_of_le (by omega)]
    by_cases h : c = 0
    · rw [if_pos h, if_pos (.inl h)]
    · rw [if_neg h, if_neg (by rintro (h1 | h1); exact h h1; cases h1)]
  | succ d ih =>
    intro k i h1 h2
    obtain ⟨k, rfl⟩ : ∃ m, k = m + 1 := ⟨k - 1, by omega⟩
    have hd : l.drop i = l[i] :: l.drop (i + 1) := List.drop_eq_getElem_cons (by omega)
    rw [thwartref01_Get.l2, if_pos (by omega), if_pos (by omega), rd_at l i (by omega), wrap_id (i := (i : Int) + 1) (by omega) (by omega), show ((i : Int) + 1) = ((i + 1 : Nat) : Int) by omega, ih k (i + 1) (by omega) (by omega), hd]
    unfold blank
    rw [List.all_cons]
    by_cases h0 : l[i] = 0
    · rw [if_pos h0, h0]; rfl
    · rw [if_neg h0]
      by_cases h32 : l[i] = 32
      · rw [if_pos h32, h32]; rfl
      · rw [if_neg h32, show (l[i] == 0 || l[i] == 32) = false by rw [beq_eq_false_iff_ne.2 h0, beq_eq_false_iff_ne.2 h32]; rfl]
        rw [show (if c = 0 then (some (0, 3) : Option (Int × Int)) else some (0, 3)) = some (0, 3) by split <;> rfl, if_pos (.inr rfl)]
theorem get_l1 (l : List Int) (hl : l.length ≤ 12) (hb : Byts l) (d : Nat) : ∀ (k i : Nat) (v c : Int), i + d = l.length → 2 * d + 5 < k → 0 ≤ v → v < 8 ^ (20 - d) → 0 ≤ c → c ≤ i → thwartref01_Get.l1 k l i v c = some (if (c = 0 ∧ octs (l.drop i) = 0) ∨ blank ((l.drop i).drop (octs (l.drop i))) = false then (0, 3) else (oct v ((l.drop i).take (octs (l.drop i))), 0)) := by
  have fin : ∀ (k i : Nat) (v c : Int), i ≤ l.length → l.length - i + 3 < k → thwartref01_Get.j4 k l i v c = some (if c = 0 ∨ blank (l.drop i) = false then (0, 3) else (v, 0)) := by
    intro k i v c h1 h2
    obtain ⟨k, rfl⟩ : ∃ m, k = m + 1 := ⟨k - 1, by omega⟩
    rw [thwartref01_Get.j4]
    exact get_l2 l (by omega) v c (l.length - i) k i (by omega) (by omega)
  induction d with
  | zero =>
    intro k i v c h1 h2 h3 h4 h5 h6
    obtain ⟨k, rfl⟩ : ∃ m, k = m + 1 := ⟨k - 1, by omega⟩
    rw [thwartref01_Get.l1, if_neg (by omega), fin k i v c (by omega) (by omega), List.drop_eq_nil_of_le (by omega)]
    simp [octs, oct]
  | succ d ih =>
    intro k i v c h1 h2 h3 h4 h5 h6
    obtain ⟨k, rfl⟩ : ∃ m, k = m + 1 := ⟨k - 1, by omega⟩
    have hx := hb l[i] (List.getElem_mem (by omega))
    have hd : l.drop i = l[i] :: l.drop (i + 1) := List.drop_eq_getElem_cons (by omega)
    rw [thwartref01_Get.l1, if_pos (by omega), if_pos (by omega), rd_at l i (by omega)]
    by_cases ho : 48 ≤ l[i] ∧ l[i] ≤ 55
    · have e : (8 : Int) ^ (20 - d) = 8 * 8 ^ (20 - (d + 1)) := by
        rw [show 20 - d = (20 - (d + 1)) + 1 by omega, Int.pow_succ]; omega
      have hp : (8 : Int) ^ (20 - d) ≤ 8 ^ 20 := by
        have : (8 : Nat) ^ (20 - d) ≤ 8 ^ 20 := Nat.pow_le_pow_right (by omega) (by omega)
        exact_mod_cast this
      have h20 : (8 : Int) ^ 20 = 1152921504606846976 := by decide +kernel
      rw [if_pos (by omega), if_pos (by omega), wrap_id (i := (i : Int) + 1) (by omega) (by omega), show ((i : Int) + 1) = ((i + 1 : Nat) : Int) by omega, wrap_id (i := 8 * v) (by omega) (by omega), wrap_id (i := 8 * v + _) (by omega) (by omega), wrap_id (i := c + 1) (by omega) (by omega), ih k (i + 1) _ _ (by omega) (by omega) (by omega) (by omega) (by omega) (by omega), hd]
      have hoc : octs (l[i] :: l.drop (i + 1)) = octs (l.drop (i + 1)) + 1 := by
        conv => lhs; unfold octs
        rw [if_pos ho]
      rw [hoc, List.drop_succ_cons, List.take_succ_cons]
      conv => rhs; unfold oct
      rw [show 8 * v + (l[i] - 48) % 256 = v * 8 + (l[i] - 48) by omega]
      congr 1
      by_cases hbk : blank ((l.drop (i + 1)).drop (octs (l.drop (i + 1)))) = false
      · rw [if_pos (.inr hbk), if_pos (.inr hbk)]
      · rw [if_neg (by rintro (h | h); omega; exact hbk h), if_neg (by rintro (h | h); omega; exact hbk h)]
    · have hoc : octs (l[i] :: l.drop (i + 1)) = 0 := by unfold octs; rw [if_neg ho]
      have hj : ∀ r, (if l[i] ≥ 48 then (if l[i] ≤ 55 then r else thwartref01_Get.j4 k l i v c) else thwartref01_Get.j4 k l i v c) = thwartref01_Get.j4 k l i v c := by
        intro r
        by_cases h48 : l[i] ≥ 48
        · rw [if_pos h48, if_neg (by omega)]
        · rw [if_neg h48]
      rw [hj, fin k i v c (by omega) (by omega), hd, hoc, List.drop_zero, List.take_zero]
      simp [oct]
theorem get_l0 (l : List Int) (hl : l.length ≤ 12) (hb : Byts l) (d : Nat) : ∀ (k i : Nat), i + d = l.length → 3 * d + 20 < k → thwartref01_Get.l0 k l i = some (if octs (skip 32 (l.drop i)) = 0 ∨ blank ((skip 32 (l.drop i)).drop (octs (skip 32 (l.drop i)))) = false then (0, 3) else (oct 0 ((skip 32 (l.drop i)).take (octs (skip 32 (l.drop i)))), 0)) := by
  have fin : ∀ (k i : Nat), i ≤ l.length → 2 * (l.length - i) + 8 < k → skip 32 (l.drop i) = l.drop i → thwartref01_Get.j2 k l i = some (if octs (skip 32 (l.drop i)) = 0 ∨ blank ((skip 32 (l.drop i)).drop (octs (skip 32 (l.drop i)))) = false then (0, 3) else (oct 0 ((skip 32 (l.drop i)).take (octs (skip 32 (l.drop i)))), 0)) := by
    intro k i h1 h2 h3
    obtain ⟨k, rfl⟩ : ∃ m, k = m + 1 := ⟨k - 1, by omega⟩
    rw [thwartref01_Get.j2, h3]
    have hp : (0 : Int) < 8 ^ (20 - (l.length - i)) := Int.pow_pos (by omega)
    have := get_l1 l hl hb (l.length - i) k i 0 0 (by omega) (by omega) (by omega) hp (by omega) (by omega)
    rw [this]
    simp
  induction d with
  | zero =>
    intro k i h1 h2
    obtain ⟨k, rfl⟩ : ∃ m, k = m + 1 := ⟨k - 1, by omega⟩
    rw [thwartref01_Get.l0, if_neg (by omega)]
    exact fin k i (by omega) (by omega) (by rw [List.drop_eq_nil_of_le (by omega)]; rfl)
  | succ d ih =>
    intro k i h1 h2
    obtain ⟨k, rfl⟩ : ∃ m, k = m + 1 := ⟨k - 1, by omega⟩
    have hd : l.drop i = l[i] :: l.drop (i + 1) := List.drop_eq_getElem_cons (by omega)
    rw [thwartref01_Get.l0, if_pos (by omega), if_pos (by omega), rd_at l i (by omega)]
    by_cases h : l[i] = 32
    · rw [if_pos h, wrap_id (i := (i : Int) + 1) (by omega) (by omega), show ((i : Int) + 1) = ((i + 1 : Nat) : Int) by omega, ih k (i + 1) (by omega) (by omega), hd, h]
      rw [show skip 32 (32 :: l.drop (i + 1)) = skip 32 (l.drop (i + 1)) by conv => lhs; unfold skip
                                                                            rw [if_pos rfl]]
    · rw [if_neg h]
      exact fin k i (by omega) (by omega) (by rw [hd]; unfold skip; rw [if_neg h])
theorem skip_len (c : Int) (l : List Int) : (skip c l).length ≤ l.length := by
  induction l with
  | nil => exact Nat.le_refl _
  | cons x l ih => unfold skip; split <;> simp only [List.length_cons] <;> omega
/-- Every field is read as the document reads it. -/
theorem get_same (l : List Int) (hl : l.length ≤ 1000) (hb : Byts l) (k : Nat) (hk : 100 ≤ k) : ∃ n e, numf_Get.f l = some (n, e) ∧ thwartref01_Get.f k l = some (n, e) := by
  unfold numf_Get.f thwartref01_Get.f thwartref01_wide.f
  by_cases hw : l.length = 8 ∨ l.length = 12
  · have hwide : (if (l.length : Int) = 8 then some true else some ((l.length : Int) == 12)) = some true := by
      rcases hw with h | h <;> rw [h] <;> rfl
    rw [if_pos hw, if_pos (show ∀ x ∈ l, 0 ≤ x ∧ x < 256 from hb), hwide, Option.bind_some, if_pos rfl, if_pos (show (0 : Int) < (l.length : Int) by omega)]
    obtain ⟨k, rfl⟩ : ∃ m, k = m + 1 := ⟨k - 1, by omega⟩
    have hbase : rd l 0 = 128 ∨ rd l 0 = 255 → ∃ n e, numf_unbase.f 20 (rd l 0) (l.drop 1) = some (n, e) ∧ thwartref01_Get.j0 (k + 1) l true = some (n, e) := by
      intro hf
      obtain ⟨n, e, h1, ok, h2, h3⟩ := base_same (l.drop 1) (by rw [List.length_drop]; omega) (fun x hx => hb x (List.mem_of_mem_drop hx)) (rd l 0) hf k (by omega)
      refine ⟨n, e, h1, ?_⟩
      rw [thwartref01_Get.j0, if_pos rfl, if_pos (show (1 : Int) ≤ (l.length : Int) by omega), if_pos (show (0 : Int) < (l.length : Int) by omega), h2, Option.bind_some]
      rcases h3 with ⟨rfl, rfl⟩ | ⟨rfl, rfl, rfl⟩ <;> rfl
    by_cases h128 : rd l 0 = 128
    · rw [if_pos (.inl h128), if_pos h128]
      exact hbase (.inl h128)
    · rw [if_neg h128]
      by_cases h255 : rd l 0 = 255
      · rw [if_pos (.inr h255), show (rd l 0 == 255) = true by rw [h255]; rfl]
        exact hbase (.inr h255)
      · rw [if_neg (by rintro (h | h); exact h128 h; exact h255 h), show (rd l 0 == 255) = false from beq_eq_false_iff_ne.2 h255, thwartref01_Get.j0, if_neg (show ¬ (false = true) by decide)]
        have h0 := get_l0 l (by omega) hb l.length k 0 (by omega) (by omega)
        rw [show ((0 : Nat) : Int) = 0 from rfl, List.drop_zero] at h0
        rw [h0]
        have hsb : Byts (skip 32 l) := fun x hx => hb x (mem_skip 32 l x hx)
        have hsl := skip_len 32 l
        by_cases ho : octs (skip 32 l) = 0
        · rw [if_pos ho, if_pos (.inl ho)]; exact ⟨_, _, rfl, rfl⟩
        · rw [if_neg ho]
          have ht := trim_blank ((skip 32 l).drop (octs (skip 32 l))) (fun x hx => hsb x (List.mem_of_mem_drop hx))
          by_cases hbk : blank ((skip 32 l).drop (octs (skip 32 l))) = true
          · rw [if_neg (by have := ht.2 hbk; omega), if_neg (by rintro (h | h); exact ho h; rw [hbk] at h; cases h)]
            have hm := octs_mem (skip 32 l)
            have hle := octs_le (skip 32 l)
            have hp : (0 : Int) < 8 ^ (20 - ((skip 32 l).take (octs (skip 32 l))).length) := Int.pow_pos (by omega)
            rw [octVal_oct _ 0 (by omega) hp (by rw [List.length_take]; omega) hm]
            exact ⟨_, _, rfl, rfl⟩
          · rw [if_pos (by have : ¬ (Lib.trimS (Lib.bytesOf ((skip 32 l).drop (octs (skip 32 l)))) [32, 0]).length = 0 := fun h => hbk (ht.1 h)
                           omega), if_pos (.inr (by simpa using hbk))]
            exact ⟨_, _, rfl, rfl⟩
  · have hwide : (if (l.length : Int) = 8 then some true else some ((l.length : Int) == 12)) = some false := by
      rw [if_neg (by omega), beq_eq_false_iff_ne.2 (by omega)]
    rw [if_neg hw, hwide, Option.bind_some, if_neg (by decide)]
    exact ⟨_, _, rfl, rfl⟩

end Go.Proofs.YthjljkdiglpbaaaDoor.Q4

-- F66
-- Written by xprint.py (a program of this session's, over the kit's printer) out of the translation. Not trusted: Lean checks it.
namespace Go.Proofs.YthjljkdiglpbaaaDoor.P
open Go.RowKit Go.Proofs.YthjljkdiglpbaaaDoorW.PrintWords Go.Proofs.YthjljkdiglpbaaaDoorW.PrintLast Go.Proofs.YthjljkdiglpbaaaDoorW.PrintMore Go.Proofs.YthjljkdiglpbaaaDoor.Hand
attribute [local go_sem] max2_int min2_int max_two min_two max_three min_three max_four min_four   -- for this text's walks alone
set_option linter.unusedVariables false
set_option linter.unusedSimpArgs false

/-! ### thwartref01_Most: function 66 -/
def thwartref01_Most.l0 : Nat → Int → Int → Int → Option (Int)
  | 0, _, _, _ => none
  | k + 1, x0, x3, x4 => if x4 < x0 then (if x4 < 20 then (thwartref01_Most.l0 k x0 (wrap64 ((wrap64 (8 * x3)) + 7)) (wrap64 (x4 + 1))) else (some x3)) else (some x3)
def thwartref01_Most.f (k : Nat) (a0 : Int) : Option (Int) := thwartref01_Most.l0 k a0 0 0
theorem thwartref01_Most.mono_l : ∀ k, (∀ y0 y1 y2, LeO (thwartref01_Most.l0 k y0 y1 y2) (thwartref01_Most.l0 (k + 1) y0 y1 y2))
  | 0 => fun _ _ _ r h => by simp [thwartref01_Most.l0] at h
  | k + 1 => by
    have ih0 := thwartref01_Most.mono_l k
    · intro y0 y1 y2
      unfold thwartref01_Most.l0
      repeat' first
      | (with_reducible exact ih0 _ _ _)
      | (with_reducible exact LeO.refl _)
      | (with_reducible exact LeO.none _)
      | (with_reducible refine LeO.ite ?_ ?_)
      | (with_reducible refine LeO.bind ?_ (fun _ => ?_))
      | exact ih0 _ _ _
      | exact LeO.none _
      | refine LeO.ite ?_ ?_
      | refine LeO.bind ?_ (fun _ => ?_)
theorem thwartref01_Most.mono : ∀ a0 k, LeO (thwartref01_Most.f k a0) (thwartref01_Most.f (k + 1) a0) := by
  intro a0 k
  have ih0 := thwartref01_Most.mono_l k
  unfold thwartref01_Most.f
  repeat' first
      | (with_reducible exact ih0 _ _ _)
      | (with_reducible exact LeO.refl _)
      | (with_reducible exact LeO.none _)
      | (with_reducible refine LeO.ite ?_ ?_)
      | (with_reducible refine LeO.bind ?_ (fun _ => ?_))
      | exact ih0 _ _ _
      | exact LeO.none _
      | refine LeO.ite ?_ ?_
      | refine LeO.bind ?_ (fun _ => ?_)
set_option maxHeartbeats 8000000 in
set_option maxRecDepth 100000 in
theorem thwartref01_Most.calls (k : Nat) (a0 : Int) (r : Int) (w : World) (h : thwartref01_Most.f k a0 = some r) :
    Calls Tryd.prog 66 #[.int .i64 a0] w fun e w' => e = .returned (.int .i64 r) ∧ Drawn0 w w' := by
  have H : (thwartref01_Most.l0 k a0 0 0) = some r := h
  clear h
  have H' := Aside0.mk H
  clear H
  go_enter Tryd.func66, Tryd.ntmps66
  go_wp2
  go_loopg [3, 4] k (fun kq v3 v4 w' => ∃ (x3_1 : Int) (x4_1 : Int), v3 = .int .i64 x3_1 ∧ v4 = .int .i64 x4_1 ∧ Aside0 (thwartref01_Most.l0 kq a0 x3_1 x4_1 = some r) ∧ Aside0 (kq ≤ k) ∧ Drawn0 w w')
  case atStart => exact ⟨(0), (0), (by first | rfl | (simp; done) | (simp [*]; done)), (by first | rfl | (simp; done) | (simp [*]; done)), H', ⟨Nat.le_refl _⟩, by repeat (first | exact Drawn0.refl _ | apply Drawn0.step)⟩
  case round =>
    clear H'
    obtain ⟨x3_1, x4_1, rfl, rfl, HA, HK1, ⟨m1, rfl⟩⟩ := hrel
    cases gk with
    | zero => exact absurd HA.out (by simp [thwartref01_Most.l0])
    | succ k1 =>
      have H := HA.out
      clear HA
      simp only [thwartref01_Most.l0] at H
      by_cases c2 : x4_1 < a0
      · rw [if_pos c2] at H
        have c2b0 : decide (x4_1 < a0) = true := decide_eq_true c2
        clear c2
        by_cases c3 : x4_1 < 20
        · rw [if_pos c3] at H
          have c3b0 : decide (x4_1 < 20) = true := decide_eq_true c3
          clear c3
          have H' := Aside0.mk H
          clear H
          go_wp2
          go_roundg k1
          case measure => have := HK1.out; omega
          case rel => exact ⟨(wrap64 ((wrap64 (8 * x3_1)) + 7)), (wrap64 (x4_1 + 1)), (by first | rfl | (simp; done) | (simp [*]; done)), (by first | rfl | (simp; done) | (simp [*]; done)), H', ⟨by have := HK1.out; omega⟩, by repeat (first | exact Drawn0.refl _ | apply Drawn0.step)⟩
        · rw [if_neg c3] at H
          have c3b0 : decide (x4_1 < 20) = false := decide_eq_false c3
          clear c3
          obtain rfl := Option.some.inj H
          go_wp2
          go_ret
          exact ⟨by first | rfl | (simp; done) | (simp [*]; done), by repeat (first | exact Drawn0.refl _ | apply Drawn0.step)⟩
      · rw [if_neg c2] at H
        have c2b0 : decide (x4_1 < a0) = false := decide_eq_false c2
        clear c2
        obtain rfl := Option.some.inj H
        go_wp2
        go_ret
        exact ⟨by first | rfl | (simp; done) | (simp [*]; done), by repeat (first | exact Drawn0.refl _ | apply Drawn0.step)⟩

end Go.Proofs.YthjljkdiglpbaaaDoor.P

-- F43
-- Written by xprint.py (a program of this session's, over the kit's printer) out of the translation. Not trusted: Lean checks it.
namespace Go.Proofs.YthjljkdiglpbaaaDoor.P
open Go.RowKit Go.Proofs.YthjljkdiglpbaaaDoorW.PrintWords Go.Proofs.YthjljkdiglpbaaaDoorW.PrintLast Go.Proofs.YthjljkdiglpbaaaDoorW.PrintMore Go.Proofs.YthjljkdiglpbaaaDoor.Hand
attribute [local go_sem] max2_int min2_int max_two min_two max_three min_three max_four min_four   -- for this text's walks alone
set_option linter.unusedVariables false
set_option linter.unusedSimpArgs false

/-! ### thwartref01_Octal: function 43 -/
mutual
def thwartref01_Octal.j0 : Nat → Int → Int → Bool → Option (List Int × Int)
  | 0, _, _, _ => none
  | k + 1, x0, x1, x13 => if x13 = true then (some (([] : List Int), 1)) else (if x0 < 0 then (thwartref01_Octal.j1 k x0 x1 true) else ((thwartref01_Most.f k x1).bind fun t131 => (thwartref01_Octal.j1 k x0 x1 (decide (x0 > t131)))))
def thwartref01_Octal.j1 : Nat → Int → Int → Bool → Option (List Int × Int)
  | 0, _, _, _ => none
  | k + 1, x0, x1, x21 => if x21 = true then (some (([] : List Int), 10)) else (if 0 ≤ x1 then (if (x1 : Int).toNat ≤ 281474976710656 then (thwartref01_Octal.l0 k x0 (List.replicate (x1 : Int).toNat 0) (wrap64 (x1 - 1))) else (none)) else (none))
def thwartref01_Octal.l0 : Nat → Int → List Int → Int → Option (List Int × Int)
  | 0, _, _, _ => none
  | k + 1, x0, x6, x7 => if x7 ≥ 0 then (if 0 ≤ x7 then (if x7 < (x6.length : Int) then (thwartref01_Octal.l0 k (wrap64 (Int.tdiv x0 8)) (x6.set (x7 : Int).toNat ((wrap64 (48 + (Int.tmod x0 8))) % 256)) (wrap64 (x7 - 1))) else (none)) else (none)) else (some (x6, 0))
end
def thwartref01_Octal.f (k : Nat) (a0 : Int) (a1 : Int) : Option (List Int × Int) := if a1 < 1 then (thwartref01_Octal.j0 k a0 a1 true) else (thwartref01_Octal.j0 k a0 a1 (decide (a1 > 20)))
theorem thwartref01_Octal.mono_l : ∀ k, (∀ y0 y1 y2, LeO (thwartref01_Octal.j0 k y0 y1 y2) (thwartref01_Octal.j0 (k + 1) y0 y1 y2)) ∧ (∀ y0 y1 y2, LeO (thwartref01_Octal.j1 k y0 y1 y2) (thwartref01_Octal.j1 (k + 1) y0 y1 y2)) ∧ (∀ y0 y1 y2, LeO (thwartref01_Octal.l0 k y0 y1 y2) (thwartref01_Octal.l0 (k + 1) y0 y1 y2))
  | 0 => ⟨fun _ _ _ r h => by simp [thwartref01_Octal.j0] at h, fun _ _ _ r h => by simp [thwartref01_Octal.j1] at h, fun _ _ _ r h => by simp [thwartref01_Octal.l0] at h⟩
  | k + 1 => by
    obtain ⟨ih0, ih1, ih2⟩ := thwartref01_Octal.mono_l k
    refine ⟨?_, ?_, ?_⟩
    · intro y0 y1 y2
      unfold thwartref01_Octal.j0
      repeat' first
      | (with_reducible exact ih0 _ _ _)
      | (with_reducible exact ih1 _ _ _)
      | (with_reducible exact ih2 _ _ _)
      | (with_reducible exact thwartref01_Most.mono _ _)
      | (with_reducible exact LeO.refl _)
      | (with_reducible exact LeO.none _)
      | (with_reducible refine LeO.ite ?_ ?_)
      | (with_reducible refine LeO.bind ?_ (fun _ => ?_))
      | exact ih0 _ _ _
      | exact ih1 _ _ _
      | exact ih2 _ _ _
      | exact thwartref01_Most.mono _ _
      | exact LeO.none _
      | refine LeO.ite ?_ ?_
      | refine LeO.bind ?_ (fun _ => ?_)
    · intro y0 y1 y2
      unfold thwartref01_Octal.j1
      repeat' first
      | (with_reducible exact ih0 _ _ _)
      | (with_reducible exact ih1 _ _ _)
      | (with_reducible exact ih2 _ _ _)
      | (with_reducible exact thwartref01_Most.mono _ _)
      | (with_reducible exact LeO.refl _)
      | (with_reducible exact LeO.none _)
      | (with_reducible refine LeO.ite ?_ ?_)
      | (with_reducible refine LeO.bind ?_ (fun _ => ?_))
      | exact ih0 _ _ _
      | exact ih1 _ _ _
      | exact ih2 _ _ _
      | exact thwartref01_Most.mono _ _
      | exact LeO.none _
      | refine LeO.ite ?_ ?_
      | refine LeO.bind ?_ (fun _ => ?_)
    · intro y0 y1 y2
      unfold thwartref01_Octal.l0
      repeat' first
      | (with_reducible exact ih0 _ _ _)
      | (with_reducible exact ih1 _ _ _)
      | (with_reducible exact ih2 _ _ _)
      | (with_reducible exact thwartref01_Most.mono _ _)
      | (with_reducible exact LeO.refl _)
      | (with_reducible exact LeO.none _)
      | (with_reducible refine LeO.ite ?_ ?_)
      | (with_reducible refine LeO.bind ?_ (fun _ => ?_))
      | exact ih0 _ _ _
      | exact ih1 _ _ _
      | exact ih2 _ _ _
      | exact thwartref01_Most.mono _ _
      | exact LeO.none _
      | refine LeO.ite ?_ ?_
      | refine LeO.bind ?_ (fun _ => ?_)
theorem thwartref01_Octal.mono : ∀ a0 a1 k, LeO (thwartref01_Octal.f k a0 a1) (thwartref01_Octal.f (k + 1) a0 a1) := by
  intro a0 a1 k
  obtain ⟨ih0, ih1, ih2⟩ := thwartref01_Octal.mono_l k
  unfold thwartref01_Octal.f
  repeat' first
      | (with_reducible exact ih0 _ _ _)
      | (with_reducible exact ih1 _ _ _)
      | (with_reducible exact ih2 _ _ _)
      | (with_reducible exact thwartref01_Most.mono _ _)
      | (with_reducible exact LeO.refl _)
      | (with_reducible exact LeO.none _)
      | (with_reducible refine LeO.ite ?_ ?_)
      | (with_reducible refine LeO.bind ?_ (fun _ => ?_))
      | exact ih0 _ _ _
      | exact ih1 _ _ _
      | exact ih2 _ _ _
      | exact thwartref01_Most.mono _ _
      | exact LeO.none _
      | refine LeO.ite ?_ ?_
      | refine LeO.bind ?_ (fun _ => ?_)
set_option maxHeartbeats 8000000 in
set_option maxRecDepth 100000 in
theorem thwartref01_Octal.calls (k : Nat) (a0 : Int) (a1 : Int) (r1 : List Int) (r2 : Int) (w : World) (h : thwartref01_Octal.f k a0 a1 = some (r1, r2)) :
    Calls Tryd.prog 43 #[.int .i64 a0, .int .i64 a1] w fun e w' => ∃ v0_ : Value, e = .returned (.tuple #[v0_, .int .i64 r2]) ∧ Kd.R (Kd.int .u8) 5 w' w.heap.size (fun _ => True) v0_ r1 ∧ Below w.heap.size w w' := by
  have HB := Aside0.mk (Below.refl w.heap.size w)
  have H : (if a1 < 1 then (thwartref01_Octal.j0 k a0 a1 true) else (thwartref01_Octal.j0 k a0 a1 (decide (a1 > 20)))) = some (r1, r2) := h
  clear h
  have HC3 := Aside0.mk H
  clear H
  go_enter Tryd.func43, Tryd.ntmps43
  go_upto_region 1 with (fail)
  go_cut [13] (fun v13 wc => ∃ (kq : Nat) (x13_2 : Bool), v13 = .bool x13_2 ∧ Aside0 (thwartref01_Octal.j0 kq a0 a1 x13_2 = some (r1, r2)) ∧ Aside0 (kq ≤ k) ∧ Aside0 (Below w.heap.size w wc))
  case first =>
    have H := HC3.out
    clear HC3
    by_cases c4 : a1 < 1
    · rw [if_pos c4] at H
      have c4b0 : decide (a1 < 1) = true := decide_eq_true c4
      clear c4
      (first | rw [c4b0] | (simp only [i64_w, i32_w]; rw [c4b0]) | skip)
      have H' := Aside0.mk H
      clear H
      go_wp2
      go_meet
      case rel => exact ⟨_, (true), (by first | rfl | (simp; done) | (simp [*]; done)), H', ⟨by first | omega | exact Nat.le_refl _⟩, ⟨by repeat (first | (with_reducible first | exact HB.out | apply below_alloc | apply pw_below_drewN | apply below_drew1) | exact HB.out)⟩⟩
    · rw [if_neg c4] at H
      have c4b0 : decide (a1 < 1) = false := decide_eq_false c4
      clear c4
      (first | rw [c4b0] | (simp only [i64_w, i32_w]; rw [c4b0]) | skip)
      have H' := Aside0.mk H
      clear H
      go_wp2
      go_meet
      case rel => exact ⟨_, (decide (a1 > 20)), (by first | rfl | (simp; done) | (simp [*]; done)), H', ⟨by first | omega | exact Nat.le_refl _⟩, ⟨by repeat (first | (with_reducible first | exact HB.out | apply below_alloc | apply pw_below_drewN | apply below_drew1) | exact HB.out)⟩⟩
  case rest =>
    clear HC3
    try clear p2
    try clear c4
    try clear c4b0
    obtain ⟨kq, x13_2, rfl, HA, HJ2, HB⟩ := hcut
    cases kq with
    | zero => exact absurd HA.out (by simp [thwartref01_Octal.j0])
    | succ kj2 =>
      have H := HA.out
      clear HA
      simp only [thwartref01_Octal.j0] at H
      by_cases c5 : x13_2 = true
      · subst c5
        have H1 : (some (([] : List Int), 1)) = some (r1, r2) := by rw [if_pos rfl] at H; exact H
        clear H
        have H := H1
        clear H1
        simp only [Option.some.injEq, Prod.mk.injEq] at H
        obtain ⟨rfl, rfl⟩ := H
        go_wp2
        go_ret2
        exact ⟨_, by first | rfl | (simp [errW_none, errW_some] <;> rfl) | (simp [*, errW_none, errW_some] <;> rfl), by first | exact Kd.R_nil _ _ _ _ _ | exact Kd.N_nil _ _ _ _ _ | exact Kd.V_nil _ _ _ _ _ | exact Kd.Q_nil _ _ _ _ _ | exact Kd.S_nil _ _ _ _ _, by repeat (first | (with_reducible first | exact HB.out | apply below_alloc | apply pw_below_drewN | apply below_drew1) | exact HB.out)⟩
      · replace c5 := Bool.eq_false_iff.mpr c5
        subst c5
        have H1 : (if a0 < 0 then (thwartref01_Octal.j1 kj2 a0 a1 true) else ((thwartref01_Most.f kj2 a1).bind fun t131 => (thwartref01_Octal.j1 kj2 a0 a1 (decide (a0 > t131))))) = some (r1, r2) := by rw [if_neg (show ¬ (false = true) by decide)] at H; exact H
        clear H
        have H := H1
        clear H1
        have HC6 := Aside0.mk H
        clear H
        go_upto_region 3 with (fail)
        go_cut [21] (fun v21 wc => ∃ (kq : Nat) (x21_5 : Bool), v21 = .bool x21_5 ∧ Aside0 (thwartref01_Octal.j1 kq a0 a1 x21_5 = some (r1, r2)) ∧ Aside0 (kq ≤ kj2) ∧ Aside0 (Below w.heap.size w wc))
        case first =>
          have H := HC6.out
          clear HC6
          by_cases c7 : a0 < 0
          · rw [if_pos c7] at H
            have c7b0 : decide (a0 < 0) = true := decide_eq_true c7
            clear c7
            (first | rw [c7b0] | (simp only [i64_w, i32_w]; rw [c7b0]) | skip)
            have H' := Aside0.mk H
            clear H
            go_wp2
            go_meet
            case rel => exact ⟨_, (true), (by first | rfl | (simp; done) | (simp [*]; done)), H', ⟨by have := HJ2.out; first | omega | exact Nat.le_refl _⟩, ⟨by repeat (first | (with_reducible first | exact HB.out | apply below_alloc | apply pw_below_drewN | apply below_drew1) | exact HB.out)⟩⟩
          · rw [if_neg c7] at H
            have c7b0 : decide (a0 < 0) = false := decide_eq_false c7
            clear c7
            (first | rw [c7b0] | (simp only [i64_w, i32_w]; rw [c7b0]) | skip)
            replace H := Option.bind_eq_some_iff.mp H
            obtain ⟨t131, A80, H⟩ := H
            replace H : (thwartref01_Octal.j1 kj2 a0 a1 (decide (a0 > t131))) = some (r1, r2) := H
            have A8 := Aside0.mk A80
            clear A80
            have H' := Aside0.mk H
            clear H
            go_wp2_with (first | (go_at_call 66; (with_reducible refine (thwartref01_Most.calls kj2 a1 t131 _ A8.out).mono ?_); rintro e w' ⟨rfl, ⟨nd, rfl⟩⟩))
            go_meet
            case rel => exact ⟨_, (decide (a0 > t131)), (by first | rfl | (simp; done) | (simp [*]; done)), H', ⟨by have := HJ2.out; first | omega | exact Nat.le_refl _⟩, ⟨by repeat (first | (with_reducible first | exact HB.out | apply below_alloc | apply pw_below_drewN | apply below_drew1) | exact HB.out)⟩⟩
        case rest =>
          clear HC6
          try clear p2
          try clear c4
          try clear c4b0
          try clear c5
          try clear c7
          try clear c7b0
          try clear p2
          obtain ⟨kq, x21_5, rfl, HA, HJ5, HB⟩ := hcut
          cases kq with
          | zero => exact absurd HA.out (by simp [thwartref01_Octal.j1])
          | succ kj5 =>
            have H := HA.out
            clear HA
            simp only [thwartref01_Octal.j1] at H
            by_cases c9 : x21_5 = true
            · subst c9
              have H1 : (some (([] : List Int), 10)) = some (r1, r2) := by rw [if_pos rfl] at H; exact H
              clear H
              have H := H1
              clear H1
              simp only [Option.some.injEq, Prod.mk.injEq] at H
              obtain ⟨rfl, rfl⟩ := H
              go_wp2
              go_ret2
              exact ⟨_, by first | rfl | (simp [errW_none, errW_some] <;> rfl) | (simp [*, errW_none, errW_some] <;> rfl), by first | exact Kd.R_nil _ _ _ _ _ | exact Kd.N_nil _ _ _ _ _ | exact Kd.V_nil _ _ _ _ _ | exact Kd.Q_nil _ _ _ _ _ | exact Kd.S_nil _ _ _ _ _, by repeat (first | (with_reducible first | exact HB.out | apply below_alloc | apply pw_below_drewN | apply below_drew1) | exact HB.out)⟩
            · replace c9 := Bool.eq_false_iff.mpr c9
              subst c9
              have H1 : (if 0 ≤ a1 then (if (a1 : Int).toNat ≤ 281474976710656 then (thwartref01_Octal.l0 kj5 a0 (List.replicate (a1 : Int).toNat 0) (wrap64 (a1 - 1))) else (none)) else (none)) = some (r1, r2) := by rw [if_neg (show ¬ (false = true) by decide)] at H; exact H
              clear H
              have H := H1
              clear H1
              by_cases c10 : 0 ≤ a1
              · rw [if_pos c10] at H
                have c10b0 := eq_true c10
                have c10b1 : decide (0 ≤ a1) = true := decide_eq_true c10
                clear c10
                by_cases c11 : (a1 : Int).toNat ≤ 281474976710656
                · rw [if_pos c11] at H
                  have c11b0 := eq_true c11
                  have c11b1 : decide ((a1 : Int).toNat ≤ 281474976710656) = true := decide_eq_true c11
                  clear c11
                  obtain ⟨y132, hy132⟩ : ∃ y_ : List Int, y_ = (List.replicate (a1 : Int).toNat 0) := ⟨_, rfl⟩
                  replace H : (thwartref01_Octal.l0 kj5 a0 y132 (wrap64 (a1 - 1))) = some (r1, r2) := by first | (rw [hy132]; with_reducible exact H) | (have H2_ := (Option.bind_some _ _).symm.trans H; rw [hy132]; with_reducible exact H2_) | (have H2_ := (Option.bind_some _ _).symm.trans H; with_reducible exact H2_) | with_reducible exact H | (rw [hy132]; exact H) | exact H
                  have Ny132 := Aside0.mk hy132
                  clear hy132
                  have H' := Aside0.mk H
                  clear H
                  go_wp2_with (first | ((with_reducible refine gate_dst (N := 23) rfl ?_); refine Kd.R_make (Kd.int .u8) _ 5 rfl (N := 23) rfl 22 _ _ rfl a1 rfl rfl Tryd.underlying22 (.int .u8 0) 1 info5 rfl (by decide) (by omega) 0 (ok := fun _ => True) (okp := fun _ => True) rfl (fun _ hk => hk) trivial (of_decide_eq_true (by first | (with_reducible assumption) | assumption)) (Nat.le_trans (Nat.mul_le_mul_right _ (of_decide_eq_true (by first | (with_reducible assumption) | assumption) : a1.toNat ≤ 281474976710656)) (by omega)) (Below.refl _ _) (Nat.le_refl _) ?_; intro v133 w12 ho13 hb hg_ hnew_; clear hg_ hnew_; (first | rw [← Ny132.out] at ho13 | (simp only [Int.reduceToNat] at ho13; rw [← Ny132.out] at ho13)); have n0_ := Aside0.mk (Kd.R_lower ho13 (below_size (by repeat (first | (with_reducible first | exact HB.out | apply below_alloc | apply pw_below_drewN | apply below_drew1) | exact HB.out)))); have n1_ := Aside0.mk (below_step (by repeat (first | (with_reducible first | exact HB.out | apply below_alloc | apply pw_below_drewN | apply below_drew1) | exact HB.out)) hb); clear HB; have HO134 := n0_; have HB := n1_; clear n0_ n1_; clear hb ho13))
                  go_loopg [0, 7] kj5 (fun kq v0 v7 w' => ∃ (x0_3 : Int) (x6_3 : List Int) (x7_3 : Int), v0 = .int .i64 x0_3 ∧ v7 = .int .i64 x7_3 ∧ Aside0 (thwartref01_Octal.l0 kq x0_3 x6_3 x7_3 = some (r1, r2)) ∧ Aside0 (kq ≤ kj5) ∧ Aside0 (Kd.R (Kd.int .u8) 5 w' w.heap.size (fun _ => True) v133 x6_3) ∧ Aside0 (Below w.heap.size w w'))
                  case atStart => exact ⟨(a0), (y132), (wrap64 (a1 - 1)), (by first | rfl | (simp; done) | (simp [*]; done)), (by first | rfl | (simp; done) | (simp [*]; done)), H', ⟨Nat.le_refl _⟩, ⟨by (with_reducible repeat (first | apply Kd.R_alloc | apply Kd.R_drewN | apply Kd.R_drew)); exact HO134.out⟩, ⟨by repeat (first | (with_reducible first | exact HB.out | apply below_alloc | apply pw_below_drewN | apply below_drew1) | exact HB.out)⟩⟩
                  case round =>
                    clear H'
                    try clear c1
                    try clear p2
                    try clear c4
                    try clear c4b0
                    try clear c5
                    try clear p6
                    try clear c7
                    try clear c7b0
                    try clear c9
                    try clear c10
                    try clear c10b0
                    try clear c10b1
                    try clear c11
                    try clear c11b0
                    try clear c11b1
                    try clear p2
                    obtain ⟨x0_3, x6_3, x7_3, rfl, rfl, HA, HK3, HO_6, HB⟩ := hrel
                    cases gk with
                    | zero => exact absurd HA.out (by simp [thwartref01_Octal.l0])
                    | succ k3 =>
                      have H := HA.out
                      clear HA
                      simp only [thwartref01_Octal.l0] at H
                      by_cases c14 : x7_3 ≥ 0
                      · rw [if_pos c14] at H
                        have c14b0 : decide (0 ≤ x7_3) = true := decide_eq_true c14
                        clear c14
                        by_cases c15 : 0 ≤ x7_3
                        · rw [if_pos c15] at H
                          have c15b0 : decide (0 ≤ x7_3) = true := decide_eq_true c15
                          clear c15
                          by_cases c16 : x7_3 < (x6_3.length : Int)
                          · rw [if_pos c16] at H
                            have c16b0 : decide (x7_3 < (x6_3.length : Int)) = true := decide_eq_true c16
                            clear c16
                            obtain ⟨y135, hy135⟩ : ∃ y_ : List Int, y_ = (x6_3.set (x7_3 : Int).toNat ((wrap64 (48 + (Int.tmod x0_3 8))) % 256)) := ⟨_, rfl⟩
                            replace H : (thwartref01_Octal.l0 k3 (wrap64 (Int.tdiv x0_3 8)) y135 (wrap64 (x7_3 - 1))) = some (r1, r2) := by first | (rw [hy135]; with_reducible exact H) | (have H2_ := (Option.bind_some _ _).symm.trans H; rw [hy135]; with_reducible exact H2_) | (have H2_ := (Option.bind_some _ _).symm.trans H; with_reducible exact H2_) | with_reducible exact H | (rw [hy135]; exact H) | exact H
                            have Ny135 := Aside0.mk hy135
                            clear hy135
                            have H' := Aside0.mk H
                            clear H
                            have p17 : 0 ≤ (x7_3 : Int) := of_decide_eq_true (by first | (with_reducible assumption) | assumption)
                            have q17 : (x7_3 : Int) < ((x6_3.length : Int) : Int) := of_decide_eq_true (by first | (with_reducible assumption) | assumption)
                            obtain ⟨go17, co17, eo17, gb17, gl17, cl17, HG17⟩ := Kd.R_form HO_6.out (by omega)
                            (first | cases eo17 | (injection eo17 with ea_ en_ ec_; (first | subst ea_ | (injection ea_ with ea_; subst ea_)); subst ec_; clear en_))
                            have GB17 := Aside0.mk gb17
                            have GG17 := Aside0.mk HG17
                            clear gb17 gl17 HG17
                            obtain ⟨hx17_0, hf17_0⟩ := Kd.R_celln 0 HO_6.out (x7_3 : Int) p17 q17
                            replace p17 := eq_true p17
                            replace q17 := eq_true q17
                            have HP18 := Kd.R_putg HO_6.out (x7_3 : Int) ((wrap64 (48 + (Int.tmod x0_3 8))) % 256)
                            go_wp2_with (first | ((with_reducible refine gate_store (t := 5) (p := 36) rfl ?_); refine store_event (t := 5) (p := 36) (v := ?vo_w19) (w1 := (wr.setCell ⟨go17, (x7_3 : Int).toNat, none⟩ (.int .u8 ((wrap64 (48 + (Int.tmod x0_3 8))) % 256)))) ?hg ?ho ?hn ?hr ?_; (case ho => rfl); (case hg => rfl); (case hn => rfl); (case hr => first | (go_simp; done) | (go_simp; rfl)); intro w19 hw; have hg : wr.grownBy w19 (some go17) := (by rw [hw]; exact HP18.2); have hp_ : Kd.R (Kd.int .u8) 5 w19 w.heap.size (fun _ => True) (.slice (some ⟨go17, 0, none⟩) x6_3.length co17) y135 := (by rw [hw, Ny135.out]; exact HP18.1); clear HP18; have n0_ := Aside0.mk (hp_); have n1_ := Aside0.mk ((by rw [hw]; exact below_set (HB.out) GB17.out : Below w.heap.size w w19)); clear HO_6; clear HB; have HO_6 := n0_; have HB := n1_; clear n0_ n1_; clear hg hw hp_))
                            go_roundg k3
                            case measure => have := HJ2.out; have := HJ5.out; have := HK3.out; omega
                            case rel => exact ⟨(wrap64 (Int.tdiv x0_3 8)), (y135), (wrap64 (x7_3 - 1)), (by first | rfl | (simp; done) | (simp [*]; done)), (by first | rfl | (simp; done) | (simp [*]; done)), H', ⟨by have := HJ2.out; have := HJ5.out; have := HK3.out; omega⟩, ⟨by (with_reducible repeat (first | apply Kd.R_alloc | apply Kd.R_drewN | apply Kd.R_drew)); exact HO_6.out⟩, ⟨by repeat (first | (with_reducible first | exact HB.out | apply below_alloc | apply pw_below_drewN | apply below_drew1) | exact HB.out)⟩⟩
                          · rw [if_neg c16] at H
                            exact absurd H (by simp)
                        · rw [if_neg c15] at H
                          exact absurd H (by simp)
                      · rw [if_neg c14] at H
                        have c14b0 : decide (0 ≤ x7_3) = false := decide_eq_false c14
                        clear c14
                        simp only [Option.some.injEq, Prod.mk.injEq] at H
                        obtain ⟨rfl, rfl⟩ := H
                        go_wp2
                        go_ret2
                        exact ⟨_, by first | rfl | (simp [errW_none, errW_some] <;> rfl) | (simp [*, errW_none, errW_some] <;> rfl), by (with_reducible repeat (first | apply Kd.R_alloc | apply Kd.R_drewN | apply Kd.R_drew)); exact HO_6.out, by repeat (first | (with_reducible first | exact HB.out | apply below_alloc | apply pw_below_drewN | apply below_drew1) | exact HB.out)⟩
                · rw [if_neg c11] at H
                  exact absurd H (by simp)
              · rw [if_neg c10] at H
                exact absurd H (by simp)

end Go.Proofs.YthjljkdiglpbaaaDoor.P

-- F44
-- Written by xprint.py (a program of this session's, over the kit's printer) out of the translation. Not trusted: Lean checks it.
namespace Go.Proofs.YthjljkdiglpbaaaDoor.P
open Go.RowKit Go.Proofs.YthjljkdiglpbaaaDoorW.PrintWords Go.Proofs.YthjljkdiglpbaaaDoorW.PrintLast Go.Proofs.YthjljkdiglpbaaaDoorW.PrintMore Go.Proofs.YthjljkdiglpbaaaDoor.Hand
attribute [local go_sem] max2_int min2_int max_two min_two max_three min_three max_four min_four   -- for this text's walks alone
set_option linter.unusedVariables false
set_option linter.unusedSimpArgs false

/-! ### thwartref03_Sum: function 44 -/
def thwartref03_Sum.l0 : Nat → List Int → Int → Int → Option (Int)
  | 0, _, _, _ => none
  | k + 1, x0, x3, x4 => if x4 < (x0.length : Int) then (if x4 ≥ 148 then (if x4 < 156 then (thwartref03_Sum.l0 k x0 (wrap64 (x3 + 32)) (wrap64 (x4 + 1))) else (if 0 ≤ x4 then (thwartref03_Sum.l0 k x0 (wrap64 (x3 + (wrap64 (rd x0 x4)))) (wrap64 (x4 + 1))) else (none))) else (if 0 ≤ x4 then (thwartref03_Sum.l0 k x0 (wrap64 (x3 + (wrap64 (rd x0 x4)))) (wrap64 (x4 + 1))) else (none))) else (some x3)
def thwartref03_Sum.f (k : Nat) (l0 : List Int) : Option (Int) := thwartref03_Sum.l0 k l0 0 0
theorem thwartref03_Sum.mono_l : ∀ k, (∀ y0 y1 y2, LeO (thwartref03_Sum.l0 k y0 y1 y2) (thwartref03_Sum.l0 (k + 1) y0 y1 y2))
  | 0 => fun _ _ _ r h => by simp [thwartref03_Sum.l0] at h
  | k + 1 => by
    have ih0 := thwartref03_Sum.mono_l k
    · intro y0 y1 y2
      unfold thwartref03_Sum.l0
      repeat' first
      | (with_reducible exact ih0 _ _ _)
      | (with_reducible exact LeO.refl _)
      | (with_reducible exact LeO.none _)
      | (with_reducible refine LeO.ite ?_ ?_)
      | (with_reducible refine LeO.bind ?_ (fun _ => ?_))
      | exact ih0 _ _ _
      | exact LeO.none _
      | refine LeO.ite ?_ ?_
      | refine LeO.bind ?_ (fun _ => ?_)
theorem thwartref03_Sum.mono : ∀ a0 k, LeO (thwartref03_Sum.f k a0) (thwartref03_Sum.f (k + 1) a0) := by
  intro a0 k
  have ih0 := thwartref03_Sum.mono_l k
  unfold thwartref03_Sum.f
  repeat' first
      | (with_reducible exact ih0 _ _ _)
      | (with_reducible exact LeO.refl _)
      | (with_reducible exact LeO.none _)
      | (with_reducible refine LeO.ite ?_ ?_)
      | (with_reducible refine LeO.bind ?_ (fun _ => ?_))
      | exact ih0 _ _ _
      | exact LeO.none _
      | refine LeO.ite ?_ ?_
      | refine LeO.bind ?_ (fun _ => ?_)
set_option maxHeartbeats 8000000 in
set_option maxRecDepth 100000 in
theorem thwartref03_Sum.calls (k : Nat) (A0 : Option Addr) (c0 : Nat) (l0 : List Int) (r : Int) (w : World) (hr0 : Kd.C (Kd.int .u8) w A0 l0.length l0) (hc0 : l0.length ≤ c0) (h : thwartref03_Sum.f k l0 = some r) :
    Calls Tryd.prog 44 #[.slice A0 l0.length c0] w fun e w' => e = .returned (.int .i64 r) ∧ Drawn0 w w' := by
  have HR0 := Aside0.mk hr0
  have HC0 := Aside0.mk hc0
  clear hr0 hc0
  have H : (thwartref03_Sum.l0 k l0 0 0) = some r := h
  clear h
  have H' := Aside0.mk H
  clear H
  go_enter Tryd.func44, Tryd.ntmps44
  go_wp2
  go_loopg [3, 4] k (fun kq v3 v4 w' => ∃ (x3_1 : Int) (x4_1 : Int), v3 = .int .i64 x3_1 ∧ v4 = .int .i64 x4_1 ∧ Aside0 (thwartref03_Sum.l0 kq l0 x3_1 x4_1 = some r) ∧ Aside0 (kq ≤ k) ∧ Drawn0 w w')
  case atStart => exact ⟨(0), (0), (by first | rfl | (simp; done) | (simp [*]; done)), (by first | rfl | (simp; done) | (simp [*]; done)), H', ⟨Nat.le_refl _⟩, by repeat (first | exact Drawn0.refl _ | apply Drawn0.step)⟩
  case round =>
    clear H'
    obtain ⟨x3_1, x4_1, rfl, rfl, HA, HK1, ⟨m1, rfl⟩⟩ := hrel
    cases gk with
    | zero => exact absurd HA.out (by simp [thwartref03_Sum.l0])
    | succ k1 =>
      have H := HA.out
      clear HA
      simp only [thwartref03_Sum.l0] at H
      by_cases c2 : x4_1 < (l0.length : Int)
      · rw [if_pos c2] at H
        have c2b0 : decide (x4_1 < (l0.length : Int)) = true := decide_eq_true c2
        clear c2
        by_cases c3 : x4_1 ≥ 148
        · rw [if_pos c3] at H
          have c3b0 : decide (148 ≤ x4_1) = true := decide_eq_true c3
          clear c3
          by_cases c4 : x4_1 < 156
          · rw [if_pos c4] at H
            have c4b0 : decide (x4_1 < 156) = true := decide_eq_true c4
            clear c4
            have H' := Aside0.mk H
            clear H
            go_wp2
            go_roundg k1
            case measure => have := HK1.out; omega
            case rel => exact ⟨(wrap64 (x3_1 + 32)), (wrap64 (x4_1 + 1)), (by first | rfl | (simp; done) | (simp [*]; done)), (by first | rfl | (simp; done) | (simp [*]; done)), H', ⟨by have := HK1.out; omega⟩, by repeat (first | exact Drawn0.refl _ | apply Drawn0.step)⟩
          · rw [if_neg c4] at H
            have c4b0 : decide (x4_1 < 156) = false := decide_eq_false c4
            clear c4
            by_cases c5 : 0 ≤ x4_1
            · rw [if_pos c5] at H
              have c5b0 : decide (0 ≤ x4_1) = true := decide_eq_true c5
              clear c5
              have H' := Aside0.mk H
              clear H
              have p136 : 0 ≤ (x4_1 : Int) := of_decide_eq_true (by first | (with_reducible assumption) | assumption)
              have q136 : x4_1 < (l0.length : Int) := of_decide_eq_true (by first | (with_reducible assumption) | assumption)
              obtain ⟨ad136, e136, hx136_0⟩ := Kd.at_int HR0.out x4_1 p136 q136
              cases e136
              replace p136 := eq_true p136
              replace q136 := eq_true q136
              go_wp2
              go_roundg k1
              case measure => have := HK1.out; omega
              case rel => exact ⟨(wrap64 (x3_1 + (wrap64 (rd l0 x4_1)))), (wrap64 (x4_1 + 1)), (by first | rfl | (simp; done) | (simp [*]; done)), (by first | rfl | (simp; done) | (simp [*]; done)), H', ⟨by have := HK1.out; omega⟩, by repeat (first | exact Drawn0.refl _ | apply Drawn0.step)⟩
            · rw [if_neg c5] at H
              exact absurd H (by simp)
        · rw [if_neg c3] at H
          have c3b0 : decide (148 ≤ x4_1) = false := decide_eq_false c3
          clear c3
          by_cases c6 : 0 ≤ x4_1
          · rw [if_pos c6] at H
            have c6b0 : decide (0 ≤ x4_1) = true := decide_eq_true c6
            clear c6
            have H' := Aside0.mk H
            clear H
            have p137 : 0 ≤ (x4_1 : Int) := of_decide_eq_true (by first | (with_reducible assumption) | assumption)
            have q137 : x4_1 < (l0.length : Int) := of_decide_eq_true (by first | (with_reducible assumption) | assumption)
            obtain ⟨ad137, e137, hx137_0⟩ := Kd.at_int HR0.out x4_1 p137 q137
            cases e137
            replace p137 := eq_true p137
            replace q137 := eq_true q137
            go_wp2
            go_roundg k1
            case measure => have := HK1.out; omega
            case rel => exact ⟨(wrap64 (x3_1 + (wrap64 (rd l0 x4_1)))), (wrap64 (x4_1 + 1)), (by first | rfl | (simp; done) | (simp [*]; done)), (by first | rfl | (simp; done) | (simp [*]; done)), H', ⟨by have := HK1.out; omega⟩, by repeat (first | exact Drawn0.refl _ | apply Drawn0.step)⟩
          · rw [if_neg c6] at H
            exact absurd H (by simp)
      · rw [if_neg c2] at H
        have c2b0 : decide (x4_1 < (l0.length : Int)) = false := decide_eq_false c2
        clear c2
        obtain rfl := Option.some.inj H
        go_wp2
        go_ret
        exact ⟨by first | rfl | (simp; done) | (simp [*]; done), by repeat (first | exact Drawn0.refl _ | apply Drawn0.step)⟩

end Go.Proofs.YthjljkdiglpbaaaDoor.P

-- F25
-- Written by xprint.py (a program of this session's, over the kit's printer) out of the translation. Not trusted: Lean checks it.
namespace Go.Proofs.YthjljkdiglpbaaaDoor.P
open Go.RowKit Go.Proofs.YthjljkdiglpbaaaDoorW.PrintWords Go.Proofs.YthjljkdiglpbaaaDoorW.PrintLast Go.Proofs.YthjljkdiglpbaaaDoorW.PrintMore Go.Proofs.YthjljkdiglpbaaaDoor.Hand
attribute [local go_sem] max2_int min2_int max_two min_two max_three min_three max_four min_four   -- for this text's walks alone
set_option linter.unusedVariables false
set_option linter.unusedSimpArgs false

/-! ### thwartref03_Put: function 25 -/
def thwartref03_Put.f (k : Nat) (l0 : List Int) : Option (List Int × Int) := if (l0.length : Int) = 512 then ((thwartref03_Sum.f k l0).bind fun t138 => ((thwartref01_Octal.f k t138 6).bind fun bt139 => (if 148 ≤ (l0.length : Int) then (if ([] : List Int).length + (l0.take 148).length < 140737488355328 then ((some (([] : List Int) ++ (l0.take 148) : List Int)).bind fun y144 => (if y144.length + bt139.1.length < 140737488355328 then ((some (y144 ++ bt139.1 : List Int)).bind fun y147 => ((some (([0, 32] : List Int) : List Int)).bind fun y150 => (if y147.length + y150.length < 140737488355328 then ((some (y147 ++ y150 : List Int)).bind fun y153 => (if 156 ≤ (l0.length : Int) then (if y153.length + (l0.drop 156).length < 140737488355328 then (some ((y153 ++ (l0.drop 156)), 0)) else (none)) else (none))) else (none)))) else (none))) else (none)) else (none)))) else (some (([] : List Int), 1))
theorem thwartref03_Put.mono : ∀ a0 k, LeO (thwartref03_Put.f k a0) (thwartref03_Put.f (k + 1) a0) := by
  intro a0 k
  unfold thwartref03_Put.f
  repeat' first
      | (with_reducible exact thwartref01_Octal.mono _ _ _)
      | (with_reducible exact thwartref03_Sum.mono _ _)
      | (with_reducible exact LeO.refl _)
      | (with_reducible exact LeO.none _)
      | (with_reducible refine LeO.ite ?_ ?_)
      | (with_reducible refine LeO.bind ?_ (fun _ => ?_))
      | exact thwartref01_Octal.mono _ _ _
      | exact thwartref03_Sum.mono _ _
      | exact LeO.none _
      | refine LeO.ite ?_ ?_
      | refine LeO.bind ?_ (fun _ => ?_)
set_option maxHeartbeats 8000000 in
set_option maxRecDepth 100000 in
theorem thwartref03_Put.calls (k : Nat) (A0 : Option Addr) (c0 : Nat) (l0 : List Int) (r1 : List Int) (r2 : Int) (w : World) (hr0 : Kd.C (Kd.int .u8) w A0 l0.length l0) (hc0 : l0.length ≤ c0) (h : thwartref03_Put.f k l0 = some (r1, r2)) :
    Calls Tryd.prog 25 #[.slice A0 l0.length c0] w fun e w' => ∃ v0_ : Value, e = .returned (.tuple #[v0_, .int .i64 r2]) ∧ Kd.R (Kd.int .u8) 5 w' w.heap.size (fun _ => True) v0_ r1 ∧ Below w.heap.size w w' := by
  have HR0 := Aside0.mk hr0
  have HC0 := Aside0.mk hc0
  clear hr0 hc0
  have HB := Aside0.mk (Below.refl w.heap.size w)
  have H : (if (l0.length : Int) = 512 then ((thwartref03_Sum.f k l0).bind fun t138 => ((thwartref01_Octal.f k t138 6).bind fun bt139 => (if 148 ≤ (l0.length : Int) then (if ([] : List Int).length + (l0.take 148).length < 140737488355328 then ((some (([] : List Int) ++ (l0.take 148) : List Int)).bind fun y144 => (if y144.length + bt139.1.length < 140737488355328 then ((some (y144 ++ bt139.1 : List Int)).bind fun y147 => ((some (([0, 32] : List Int) : List Int)).bind fun y150 => (if y147.length + y150.length < 140737488355328 then ((some (y147 ++ y150 : List Int)).bind fun y153 => (if 156 ≤ (l0.length : Int) then (if y153.length + (l0.drop 156).length < 140737488355328 then (some ((y153 ++ (l0.drop 156)), 0)) else (none)) else (none))) else (none)))) else (none))) else (none)) else (none)))) else (some (([] : List Int), 1))) = some (r1, r2) := h
  clear h
  by_cases c2 : (l0.length : Int) = 512
  · rw [if_pos c2] at H
    have c2b0 : ((l0.length : Int) == 512) = true := beq_iff_eq.mpr c2
    have c2b1 : ((l0.length : Int) != 512) = false := bne_eq_false_iff_eq.mpr c2
    clear c2
    replace H := Option.bind_eq_some_iff.mp H
    obtain ⟨t138, A30, H⟩ := H
    replace H : ((thwartref01_Octal.f k t138 6).bind fun bt139 => (if 148 ≤ (l0.length : Int) then (if ([] : List Int).length + (l0.take 148).length < 140737488355328 then ((some (([] : List Int) ++ (l0.take 148) : List Int)).bind fun y144 => (if y144.length + bt139.1.length < 140737488355328 then ((some (y144 ++ bt139.1 : List Int)).bind fun y147 => ((some (([0, 32] : List Int) : List Int)).bind fun y150 => (if y147.length + y150.length < 140737488355328 then ((some (y147 ++ y150 : List Int)).bind fun y153 => (if 156 ≤ (l0.length : Int) then (if y153.length + (l0.drop 156).length < 140737488355328 then (some ((y153 ++ (l0.drop 156)), 0)) else (none)) else (none))) else (none)))) else (none))) else (none)) else (none))) = some (r1, r2) := H
    have A3 := Aside0.mk A30
    clear A30
    replace H := Option.bind_eq_some_iff.mp H
    obtain ⟨⟨t139, t140⟩, A40, H⟩ := H
    replace H : (if 148 ≤ (l0.length : Int) then (if ([] : List Int).length + (l0.take 148).length < 140737488355328 then ((some (([] : List Int) ++ (l0.take 148) : List Int)).bind fun y144 => (if y144.length + t139.length < 140737488355328 then ((some (y144 ++ t139 : List Int)).bind fun y147 => ((some (([0, 32] : List Int) : List Int)).bind fun y150 => (if y147.length + y150.length < 140737488355328 then ((some (y147 ++ y150 : List Int)).bind fun y153 => (if 156 ≤ (l0.length : Int) then (if y153.length + (l0.drop 156).length < 140737488355328 then (some ((y153 ++ (l0.drop 156)), 0)) else (none)) else (none))) else (none)))) else (none))) else (none)) else (none)) = some (r1, r2) := H
    have A4 := Aside0.mk A40
    clear A40
    by_cases c5 : 148 ≤ (l0.length : Int)
    · rw [if_pos c5] at H
      have c5b0 := eq_true c5
      have c5b1 : decide (148 ≤ (l0.length : Int)) = true := decide_eq_true c5
      clear c5
      by_cases c6 : ([] : List Int).length + (l0.take 148).length < 140737488355328
      · rw [if_pos c6] at H
        have LMc6 := Aside0.mk c6
        clear c6
        obtain ⟨y144, hy144⟩ : ∃ y_ : List Int, y_ = (([] : List Int) ++ (l0.take 148)) := ⟨_, rfl⟩
        replace H : (if y144.length + t139.length < 140737488355328 then ((some (y144 ++ t139 : List Int)).bind fun y147 => ((some (([0, 32] : List Int) : List Int)).bind fun y150 => (if y147.length + y150.length < 140737488355328 then ((some (y147 ++ y150 : List Int)).bind fun y153 => (if 156 ≤ (l0.length : Int) then (if y153.length + (l0.drop 156).length < 140737488355328 then (some ((y153 ++ (l0.drop 156)), 0)) else (none)) else (none))) else (none)))) else (none)) = some (r1, r2) := by first | (rw [hy144]; with_reducible exact H) | (have H2_ := (Option.bind_some _ _).symm.trans H; rw [hy144]; with_reducible exact H2_) | (have H2_ := (Option.bind_some _ _).symm.trans H; with_reducible exact H2_) | with_reducible exact H | (rw [hy144]; exact H) | exact H
        have Ny144 := Aside0.mk hy144
        clear hy144
        by_cases c7 : y144.length + t139.length < 140737488355328
        · rw [if_pos c7] at H
          have LMc7 := Aside0.mk c7
          clear c7
          obtain ⟨y147, hy147⟩ : ∃ y_ : List Int, y_ = (y144 ++ t139) := ⟨_, rfl⟩
          replace H : ((some (([0, 32] : List Int) : List Int)).bind fun y150 => (if y147.length + y150.length < 140737488355328 then ((some (y147 ++ y150 : List Int)).bind fun y153 => (if 156 ≤ (l0.length : Int) then (if y153.length + (l0.drop 156).length < 140737488355328 then (some ((y153 ++ (l0.drop 156)), 0)) else (none)) else (none))) else (none))) = some (r1, r2) := by first | (rw [hy147]; with_reducible exact H) | (have H2_ := (Option.bind_some _ _).symm.trans H; rw [hy147]; with_reducible exact H2_) | (have H2_ := (Option.bind_some _ _).symm.trans H; with_reducible exact H2_) | with_reducible exact H | (rw [hy147]; exact H) | exact H
          have Ny147 := Aside0.mk hy147
          clear hy147
          obtain ⟨y150, hy150⟩ : ∃ y_ : List Int, y_ = (([0, 32] : List Int)) := ⟨_, rfl⟩
          replace H : (if y147.length + y150.length < 140737488355328 then ((some (y147 ++ y150 : List Int)).bind fun y153 => (if 156 ≤ (l0.length : Int) then (if y153.length + (l0.drop 156).length < 140737488355328 then (some ((y153 ++ (l0.drop 156)), 0)) else (none)) else (none))) else (none)) = some (r1, r2) := by first | (rw [hy150]; with_reducible exact H) | (have H2_ := (Option.bind_some _ _).symm.trans H; rw [hy150]; with_reducible exact H2_) | (have H2_ := (Option.bind_some _ _).symm.trans H; with_reducible exact H2_) | with_reducible exact H | (rw [hy150]; exact H) | exact H
          have Ny150 := Aside0.mk hy150
          clear hy150
          by_cases c8 : y147.length + y150.length < 140737488355328
          · rw [if_pos c8] at H
            have LMc8 := Aside0.mk c8
            clear c8
            obtain ⟨y153, hy153⟩ : ∃ y_ : List Int, y_ = (y147 ++ y150) := ⟨_, rfl⟩
            replace H : (if 156 ≤ (l0.length : Int) then (if y153.length + (l0.drop 156).length < 140737488355328 then (some ((y153 ++ (l0.drop 156)), 0)) else (none)) else (none)) = some (r1, r2) := by first | (rw [hy153]; with_reducible exact H) | (have H2_ := (Option.bind_some _ _).symm.trans H; rw [hy153]; with_reducible exact H2_) | (have H2_ := (Option.bind_some _ _).symm.trans H; with_reducible exact H2_) | with_reducible exact H | (rw [hy153]; exact H) | exact H
            have Ny153 := Aside0.mk hy153
            clear hy153
            by_cases c9 : 156 ≤ (l0.length : Int)
            · rw [if_pos c9] at H
              have c9b0 := eq_true c9
              have c9b1 : decide (156 ≤ (l0.length : Int)) = true := decide_eq_true c9
              clear c9
              by_cases c10 : y153.length + (l0.drop 156).length < 140737488355328
              · rw [if_pos c10] at H
                have LMc10 := Aside0.mk c10
                clear c10
                obtain ⟨y157, hy157⟩ : ∃ y_ : List Int, y_ = (y153 ++ (l0.drop 156)) := ⟨_, rfl⟩
                replace H : (some (y157, 0)) = some (r1, r2) := by first | (rw [hy157]; with_reducible exact H) | (have H2_ := (Option.bind_some _ _).symm.trans H; rw [hy157]; with_reducible exact H2_) | (have H2_ := (Option.bind_some _ _).symm.trans H; with_reducible exact H2_) | with_reducible exact H | (rw [hy157]; exact H) | exact H
                have Ny157 := Aside0.mk hy157
                clear hy157
                simp only [Option.some.injEq, Prod.mk.injEq] at H
                obtain ⟨rfl, rfl⟩ := H
                go_enter Tryd.func25, Tryd.ntmps25
                go_wp2_with (first | ((with_reducible refine gate_callee (f := 44) rfl ?_); refine goesL_ (some 12) rfl rfl Tryd.func44 (by kernel_rfl) rfl #[.slice A0 l0.length c0] rfl (by (try simp only [List.map_toArray, List.map_cons, List.map_nil]); first | done | rfl | (simp only [List.length_drop, List.length_take]; rfl)) ?_; (with_reducible refine (thwartref03_Sum.calls k _ _ l0 t138 _ ?side1 ?side2 A3.out).mono ?_); (case side1 => repeat (first | exact HR0.out | (with_reducible refine Kd.C_alloc ?_ _) | (with_reducible refine Kd.C_drewN ?_ _) | (with_reducible refine Kd.C_drew ?_))); (case side2 => exact HC0.out); rintro e w' ⟨rfl, ⟨nd, rfl⟩⟩; refine ⟨_, rfl, ?_⟩) | ((with_reducible refine gate_callee (f := 43) rfl ?_); refine goesL_ (some 13) rfl rfl Tryd.func43 (by kernel_rfl) rfl #[.int .i64 t138, .int .i64 6] rfl (by (try simp only [List.map_toArray, List.map_cons, List.map_nil]); first | done | rfl | (simp only [List.length_drop, List.length_take]; rfl)) ?_; (with_reducible refine (thwartref01_Octal.calls k t138 6 t139 t140 _ A4.out).mono ?_); rintro e w11 ⟨v141, rfl, ho0, hb⟩; refine ⟨_, rfl, ?_⟩; have n0_ := Aside0.mk (Kd.R_lower ho0 (below_size (by repeat (first | (with_reducible first | exact HB.out | apply below_alloc | apply pw_below_drewN | apply below_drew1) | exact HB.out)))); have n1_ := Aside0.mk (below_step (by repeat (first | (with_reducible first | exact HB.out | apply below_alloc | apply pw_below_drewN | apply below_drew1) | exact HB.out)) hb); clear HB; have HO142 := n0_; have HB := n1_; clear n0_ n1_; (try clear hb); (try clear hb2); (try clear hk); (try clear hi); (try clear ho0); obtain ⟨i012, hi012, _, hsz12, _⟩ := info_parts info5; obtain ⟨hcut12, hA12, hC12⟩ := print_take_of (P := Tryd.prog) (Value.int .u8) 0 22 5 .i64 Tryd.underlying22 hi012 hsz12 A0 c0 l0 148 (by omega) (of_decide_eq_true (by first | (with_reducible assumption) | assumption)) HC0.out; have HR143 := Aside0.mk (Kd.C_of_reads (h1 := fun _ => rfl) (hA12 _ (Kd.reads_of_C HR0.out))); have HC143 := Aside0.mk hC12; clear hA12 hC12 hi012 hsz12) | ((with_reducible refine gate_builtin (b := .append) (xs := #[.const (.slice none 0 0), .tmp 17]) rfl ?_); at_builtin; refine Kd.R_append_rows (Kd.int .u8) (w0 := w) w.heap.size rfl (.const (.slice none 0 0)) (.tmp 17) 22 5 (.int .u8 0) 1 rfl Tryd.underlying22 info5 rfl (by decide) (by omega) (.slice none 0 0) ([] : List Int) (l0.take 148) _ _ _ (fun k_ => some k_ ≠ (v141 : Value).ownBlock) (fun _ => False) rfl rfl ?aO ?aR (fun _ _ h => h) (fun _ h => h.elim) ?aF ?aB ?aS ?aL ?_; (case aR => first | (rw [← List.length_take]; repeat (first | exact (Kd.C_below HR143.out HB.out) | (with_reducible refine Kd.C_alloc ?_ _) | (with_reducible refine Kd.C_drewN ?_ _) | (with_reducible refine Kd.C_drew ?_))) | (rw [← show (l0.take 148).length = 148 from (by rw [List.length_take]; have h_ : (148 : Int) ≤ (l0.length : Int) := of_decide_eq_true (by first | (with_reducible assumption) | assumption); omega)]; repeat (first | exact (Kd.C_below HR143.out HB.out) | (with_reducible refine Kd.C_alloc ?_ _) | (with_reducible refine Kd.C_drewN ?_ _) | (with_reducible refine Kd.C_drew ?_))) | (repeat (first | exact (Kd.C_below HR143.out HB.out) | (with_reducible refine Kd.C_alloc ?_ _) | (with_reducible refine Kd.C_drewN ?_ _) | (with_reducible refine Kd.C_drew ?_)))); (case aB => exact (by repeat (first | (with_reducible first | exact HB.out | apply below_alloc | apply pw_below_drewN | apply below_drew1) | exact HB.out))); (case aF => exact (fun k_ hk => Kd.fresh' (Kd.R_lt (by (with_reducible repeat (first | apply Kd.R_alloc | apply Kd.R_drewN | apply Kd.R_drew)); exact HO142.out)) k_ hk)); (case aO => exact ((Kd.R_nil _ _ _ _ (fun k_ => some k_ ≠ (v141 : Value).ownBlock)))); (case aS => exact (below_size (by repeat (first | (with_reducible first | exact HB.out | apply below_alloc | apply pw_below_drewN | apply below_drew1) | exact HB.out)))); (case aL => have := LMc6.out; have hlx_ := (show (l0.take 148).length = 148 from (by rw [List.length_take]; have h_ : (148 : Int) ≤ (l0.length : Int) := of_decide_eq_true (by first | (with_reducible assumption) | assumption); omega)); omega); intro v145 w13 ho hb hg hat; rw [← Ny144.out] at ho; have n0_ := Aside0.mk (Kd.R_after (Kd.R_apart_nil (by (with_reducible repeat (first | apply Kd.R_alloc | apply Kd.R_drewN | apply Kd.R_drew)); exact HO142.out)) hg hat); have n1_ := Aside0.mk (hb); have n2_ := Aside0.mk (ho); clear HO142; clear HB; have HO142 := n0_; have HB := n1_; have HO146 := n2_; clear n0_ n1_ n2_; clear ho hb hg hat; obtain ⟨Ao15, co15, eo15⟩ := Kd.R_slice HO142.out; subst eo15) | ((with_reducible refine gate_builtin (b := .append) (xs := #[.tmp 19, .tmp 20]) rfl ?_); at_builtin; refine Kd.R_append_rows (Kd.int .u8) (w0 := w) w.heap.size rfl (.tmp 19) (.tmp 20) 22 5 (.int .u8 0) 1 rfl Tryd.underlying22 info5 rfl (by decide) (by omega) v145 y144 t139 _ _ _ (fun k_ => some k_ ≠ (.slice Ao15 t139.length co15 : Value).ownBlock) (fun _ => False) rfl rfl ?aO ?aR (fun _ _ h => h) (fun _ h => h.elim) ?aF ?aB ?aS ?aL ?_; (case aR => repeat (first | exact (Kd.R_reads' HO142.out).2.2 | (with_reducible refine Kd.C_alloc ?_ _) | (with_reducible refine Kd.C_drewN ?_ _) | (with_reducible refine Kd.C_drew ?_))); (case aB => exact (by repeat (first | (with_reducible first | exact HB.out | apply below_alloc | apply pw_below_drewN | apply below_drew1) | exact HB.out))); (case aF => exact (fun k_ hk => Kd.fresh' (Kd.R_lt (by (with_reducible repeat (first | apply Kd.R_alloc | apply Kd.R_drewN | apply Kd.R_drew)); exact HO142.out)) k_ hk)); (case aO => exact (by (with_reducible repeat (first | apply Kd.R_alloc | apply Kd.R_drewN | apply Kd.R_drew)); exact HO146.out)); (case aS => exact (below_size (by repeat (first | (with_reducible first | exact HB.out | apply below_alloc | apply pw_below_drewN | apply below_drew1) | exact HB.out)))); (case aL => have := LMc7.out; omega); intro v148 w14 ho hb hg hat; rw [← Ny147.out] at ho; have n0_ := Aside0.mk (Kd.R_after (ok := (fun _ => True)) (by (with_reducible repeat (first | apply Kd.R_alloc | apply Kd.R_drewN | apply Kd.R_drew)); exact HO142.out) hg hat); have n1_ := Aside0.mk (hb); have n2_ := Aside0.mk (ho); clear HO142; clear HB; clear HO146; have HO142 := n0_; have HB := n1_; have HO149 := n2_; clear n0_ n1_ n2_; clear ho hb hg hat) | ((with_reducible refine gate_dst (N := 22) rfl ?_); refine Kd.R_lit (Kd.int .u8) _ 5 ?hg (N := 22) ?hd (xs := ([0, 32] : List Int)) (inner := [.int .u8 0, .int .u8 32]) (ok := fun _ => True) (okp := fun _ => True) ?hr ?hp (fun _ hk => hk) trivial (Below.refl _ _) (Nat.le_refl _) (by simp) ?_; (case hd => rfl); (case hg => rfl); (case hr => first | (go_simp; done) | (go_simp; rfl)); (case hp => exact (Reps.one (show Kd.M (Kd.int .u8) _ _ _ 0 [.int .u8 0] from rfl) (Reps.one (show Kd.M (Kd.int .u8) _ _ _ 32 [.int .u8 32] from rfl) (Reps.none _ _)))); intro v151 w16 ho17 hb hg_ hnew_; clear hg_ hnew_; (first | rw [← Ny150.out] at ho17 | (simp only [Int.reduceToNat] at ho17; rw [← Ny150.out] at ho17)); have n0_ := Aside0.mk (Kd.R_elder' (by (with_reducible repeat (first | apply Kd.R_alloc | apply Kd.R_drewN | apply Kd.R_drew)); exact HO142.out) (Kd.R_base ho17) hb); have n1_ := Aside0.mk (Kd.R_elder' (by (with_reducible repeat (first | apply Kd.R_alloc | apply Kd.R_drewN | apply Kd.R_drew)); exact HO149.out) (Kd.R_base ho17) hb); have n2_ := Aside0.mk (Kd.R_lower (Kd.R_new' (Kd.R_new' ho17 (Kd.R_lt (by (with_reducible repeat (first | apply Kd.R_alloc | apply Kd.R_drewN | apply Kd.R_drew)); exact HO142.out))) (Kd.R_lt (by (with_reducible repeat (first | apply Kd.R_alloc | apply Kd.R_drewN | apply Kd.R_drew)); exact HO149.out))) (below_size (by repeat (first | (with_reducible first | exact HB.out | apply below_alloc | apply pw_below_drewN | apply below_drew1) | exact HB.out)))); have n3_ := Aside0.mk (below_step (by repeat (first | (with_reducible first | exact HB.out | apply below_alloc | apply pw_below_drewN | apply below_drew1) | exact HB.out)) hb); clear HO142; clear HO149; clear HB; have HO142 := n0_; have HO149 := n1_; have HO152 := n2_; have HB := n3_; clear n0_ n1_ n2_ n3_; clear hb ho17; obtain ⟨Ao19, co19, eo19⟩ := Kd.R_slice HO152.out; subst eo19) | ((with_reducible refine gate_builtin (b := .append) (xs := #[.tmp 21, .tmp 22]) rfl ?_); at_builtin; refine Kd.R_append_rows (Kd.int .u8) (w0 := w) w.heap.size rfl (.tmp 21) (.tmp 22) 22 5 (.int .u8 0) 1 rfl Tryd.underlying22 info5 rfl (by decide) (by omega) v148 y147 y150 _ _ _ (fun k_ => some k_ ≠ (.slice Ao15 t139.length co15 : Value).ownBlock ∧ some k_ ≠ (.slice Ao19 y150.length co19 : Value).ownBlock) (fun _ => False) rfl rfl ?aO ?aR (fun _ _ h => h) (fun _ h => h.elim) ?aF ?aB ?aS ?aL ?_; (case aR => repeat (first | exact (Kd.R_reads' HO152.out).2.2 | (with_reducible refine Kd.C_alloc ?_ _) | (with_reducible refine Kd.C_drewN ?_ _) | (with_reducible refine Kd.C_drew ?_))); (case aB => exact (by repeat (first | (with_reducible first | exact HB.out | apply below_alloc | apply pw_below_drewN | apply below_drew1) | exact HB.out))); (case aF => exact (fun k_ hk => ⟨Kd.fresh' (Kd.R_lt (by (with_reducible repeat (first | apply Kd.R_alloc | apply Kd.R_drewN | apply Kd.R_drew)); exact HO142.out)) k_ hk, Kd.fresh' (Kd.R_lt (by (with_reducible repeat (first | apply Kd.R_alloc | apply Kd.R_drewN | apply Kd.R_drew)); exact HO152.out)) k_ hk⟩)); (case aO => exact (by (with_reducible repeat (first | apply Kd.R_alloc | apply Kd.R_drewN | apply Kd.R_drew)); exact HO149.out)); (case aS => exact (below_size (by repeat (first | (with_reducible first | exact HB.out | apply below_alloc | apply pw_below_drewN | apply below_drew1) | exact HB.out)))); (case aL => have := LMc8.out; omega); intro v154 w18 ho hb hg hat; rw [← Ny153.out] at ho; have n0_ := Aside0.mk (Kd.R_after (ok := (fun k_ => some k_ ≠ (.slice Ao19 y150.length co19 : Value).ownBlock)) (by (with_reducible repeat (first | apply Kd.R_alloc | apply Kd.R_drewN | apply Kd.R_drew)); exact Kd.R_mono HO142.out (fun _ hk => ⟨hk.2, hk.1.2⟩)) hg hat); have n1_ := Aside0.mk (Kd.R_after (ok := (fun k_ => some k_ ≠ (.slice Ao15 t139.length co15 : Value).ownBlock)) (by (with_reducible repeat (first | apply Kd.R_alloc | apply Kd.R_drewN | apply Kd.R_drew)); exact Kd.R_mono HO152.out (fun _ hk => ⟨hk.1.2, hk.2⟩)) hg hat); have n2_ := Aside0.mk (hb); have n3_ := Aside0.mk (ho); clear HO142; clear HO152; clear HB; clear HO149; have HO142 := n0_; have HO152 := n1_; have HB := n2_; have HO155 := n3_; clear n0_ n1_ n2_ n3_; clear ho hb hg hat; obtain ⟨i020, hi020, _, hsz20, _⟩ := info_parts info5; obtain ⟨A20, hcut20, hA20, hC20⟩ := print_drop_of (P := Tryd.prog) (Value.int .u8) 0 22 5 .i64 Tryd.underlying22 hi020 hsz20 A0 c0 l0 156 (by omega) (of_decide_eq_true (by first | (with_reducible assumption) | assumption)) HC0.out; have HR156 := Aside0.mk (Kd.C_of_reads (h1 := fun _ => rfl) (hA20 _ (Kd.reads_of_C HR0.out))); have HC156 := Aside0.mk hC20; clear hA20 hC20 hi020 hsz20) | ((with_reducible refine gate_builtin (b := .append) (xs := #[.tmp 24, .tmp 26]) rfl ?_); at_builtin; refine Kd.R_append_rows (Kd.int .u8) (w0 := w) w.heap.size rfl (.tmp 24) (.tmp 26) 22 5 (.int .u8 0) 1 rfl Tryd.underlying22 info5 rfl (by decide) (by omega) v154 y153 (l0.drop 156) _ _ _ (fun k_ => some k_ ≠ (.slice Ao15 t139.length co15 : Value).ownBlock ∧ some k_ ≠ (.slice Ao19 y150.length co19 : Value).ownBlock) (fun _ => False) rfl rfl ?aO ?aR (fun _ _ h => h) (fun _ h => h.elim) ?aF ?aB ?aS ?aL ?_; (case aR => first | (rw [← List.length_take]; repeat (first | exact (Kd.C_below HR156.out HB.out) | (with_reducible refine Kd.C_alloc ?_ _) | (with_reducible refine Kd.C_drewN ?_ _) | (with_reducible refine Kd.C_drew ?_))) | (rw [← show (l0.drop 156).length = (l0.length - 156) from List.length_drop]; repeat (first | exact (Kd.C_below HR156.out HB.out) | (with_reducible refine Kd.C_alloc ?_ _) | (with_reducible refine Kd.C_drewN ?_ _) | (with_reducible refine Kd.C_drew ?_))) | (repeat (first | exact (Kd.C_below HR156.out HB.out) | (with_reducible refine Kd.C_alloc ?_ _) | (with_reducible refine Kd.C_drewN ?_ _) | (with_reducible refine Kd.C_drew ?_)))); (case aB => exact (by repeat (first | (with_reducible first | exact HB.out | apply below_alloc | apply pw_below_drewN | apply below_drew1) | exact HB.out))); (case aF => exact (fun k_ hk => ⟨Kd.fresh' (Kd.R_lt (by (with_reducible repeat (first | apply Kd.R_alloc | apply Kd.R_drewN | apply Kd.R_drew)); exact HO142.out)) k_ hk, Kd.fresh' (Kd.R_lt (by (with_reducible repeat (first | apply Kd.R_alloc | apply Kd.R_drewN | apply Kd.R_drew)); exact HO152.out)) k_ hk⟩)); (case aO => exact (by (with_reducible repeat (first | apply Kd.R_alloc | apply Kd.R_drewN | apply Kd.R_drew)); exact HO155.out)); (case aS => exact (below_size (by repeat (first | (with_reducible first | exact HB.out | apply below_alloc | apply pw_below_drewN | apply below_drew1) | exact HB.out)))); (case aL => have := LMc10.out; have hlx_ := (show (l0.drop 156).length = (l0.length - 156) from List.length_drop); omega); intro v158 w21 ho hb hg hat; rw [← Ny157.out] at ho; have n0_ := Aside0.mk (Kd.R_after (ok := (fun k_ => some k_ ≠ (.slice Ao19 y150.length co19 : Value).ownBlock)) (by (with_reducible repeat (first | apply Kd.R_alloc | apply Kd.R_drewN | apply Kd.R_drew)); exact HO142.out) hg hat); have n1_ := Aside0.mk (Kd.R_after (ok := (fun k_ => some k_ ≠ (.slice Ao15 t139.length co15 : Value).ownBlock)) (by (with_reducible repeat (first | apply Kd.R_alloc | apply Kd.R_drewN | apply Kd.R_drew)); exact HO152.out) hg hat); have n2_ := Aside0.mk (hb); have n3_ := Aside0.mk (ho); clear HO142; clear HO152; clear HB; clear HO155; have HO142 := n0_; have HO152 := n1_; have HB := n2_; have HO159 := n3_; clear n0_ n1_ n2_ n3_; clear ho hb hg hat))
                go_ret2
                exact ⟨_, by first | rfl | (simp [errW_none, errW_some] <;> rfl) | (simp [*, errW_none, errW_some] <;> rfl), by (with_reducible repeat (first | apply Kd.R_alloc | apply Kd.R_drewN | apply Kd.R_drew)); exact Kd.R_mono HO159.out (fun _ hk => trivial), by repeat (first | (with_reducible first | exact HB.out | apply below_alloc | apply pw_below_drewN | apply below_drew1) | exact HB.out)⟩
              · rw [if_neg c10] at H
                exact absurd H (by simp)
            · rw [if_neg c9] at H
              exact absurd H (by simp)
          · rw [if_neg c8] at H
            exact absurd H (by simp)
        · rw [if_neg c7] at H
          exact absurd H (by simp)
      · rw [if_neg c6] at H
        exact absurd H (by simp)
    · rw [if_neg c5] at H
      exact absurd H (by simp)
  · rw [if_neg c2] at H
    have c2b0 : ((l0.length : Int) == 512) = false := beq_eq_false_iff_ne.mpr c2
    have c2b1 : ((l0.length : Int) != 512) = true := bne_iff_ne.mpr c2
    simp only [Option.some.injEq, Prod.mk.injEq] at H
    obtain ⟨rfl, rfl⟩ := H
    go_enter Tryd.func25, Tryd.ntmps25
    go_wp2
    go_ret2
    exact ⟨_, by first | rfl | (simp [errW_none, errW_some] <;> rfl) | (simp [*, errW_none, errW_some] <;> rfl), by first | exact Kd.R_nil _ _ _ _ _ | exact Kd.N_nil _ _ _ _ _ | exact Kd.V_nil _ _ _ _ _ | exact Kd.Q_nil _ _ _ _ _ | exact Kd.S_nil _ _ _ _ _, by repeat (first | (with_reducible first | exact HB.out | apply below_alloc | apply pw_below_drewN | apply below_drew1) | exact HB.out)⟩

end Go.Proofs.YthjljkdiglpbaaaDoor.P

-- F72
-- Written by xprint.py (a program of this session's, over the kit's printer) out of the translation. Not trusted: Lean checks it.
namespace Go.Proofs.YthjljkdiglpbaaaDoor.P
open Go.RowKit Go.Proofs.YthjljkdiglpbaaaDoorW.PrintWords Go.Proofs.YthjljkdiglpbaaaDoorW.PrintLast Go.Proofs.YthjljkdiglpbaaaDoorW.PrintMore Go.Proofs.YthjljkdiglpbaaaDoor.Hand
attribute [local go_sem] max2_int min2_int max_two min_two max_three min_three max_four min_four   -- for this text's walks alone
set_option linter.unusedVariables false
set_option linter.unusedSimpArgs false

/-! ### thwartref03_Told: function 72 -/
def thwartref03_Told.f (k : Nat) (l0 : List Int) : Option (Int × Int) := if (l0.length : Int) = 512 then (if 148 ≤ 156 then (if 156 ≤ (l0.length : Int) then ((thwartref01_Get.f k ((l0.take 156).drop 148)).bind fun bt226 => (if bt226.2 = 0 then (if bt226.1 < 0 then (some (0, 3)) else (if bt226.1 > 1048576 then (some (0, 3)) else (some (bt226.1, 0)))) else (some (0, bt226.2)))) else (none)) else (none)) else (some (0, 1))
theorem thwartref03_Told.mono : ∀ a0 k, LeO (thwartref03_Told.f k a0) (thwartref03_Told.f (k + 1) a0) := by
  intro a0 k
  unfold thwartref03_Told.f
  repeat' first
      | (with_reducible exact thwartref01_Get.mono _ _)
      | (with_reducible exact LeO.refl _)
      | (with_reducible exact LeO.none _)
      | (with_reducible refine LeO.ite ?_ ?_)
      | (with_reducible refine LeO.bind ?_ (fun _ => ?_))
      | exact thwartref01_Get.mono _ _
      | exact LeO.none _
      | refine LeO.ite ?_ ?_
      | refine LeO.bind ?_ (fun _ => ?_)
set_option maxHeartbeats 8000000 in
set_option maxRecDepth 100000 in
theorem thwartref03_Told.calls (k : Nat) (A0 : Option Addr) (c0 : Nat) (l0 : List Int) (r1 : Int) (r2 : Int) (w : World) (hr0 : Kd.C (Kd.int .u8) w A0 l0.length l0) (hc0 : l0.length ≤ c0) (h : thwartref03_Told.f k l0 = some (r1, r2)) :
    Calls Tryd.prog 72 #[.slice A0 l0.length c0] w fun e w' => e = .returned (.tuple #[.int .i64 r1, .int .i64 r2]) ∧ Below w.heap.size w w' := by
  have HR0 := Aside0.mk hr0
  have HC0 := Aside0.mk hc0
  clear hr0 hc0
  have HB := Aside0.mk (Below.refl w.heap.size w)
  have H : (if (l0.length : Int) = 512 then (if 148 ≤ 156 then (if 156 ≤ (l0.length : Int) then ((thwartref01_Get.f k ((l0.take 156).drop 148)).bind fun bt226 => (if bt226.2 = 0 then (if bt226.1 < 0 then (some (0, 3)) else (if bt226.1 > 1048576 then (some (0, 3)) else (some (bt226.1, 0)))) else (some (0, bt226.2)))) else (none)) else (none)) else (some (0, 1))) = some (r1, r2) := h
  clear h
  by_cases c2 : (l0.length : Int) = 512
  · rw [if_pos c2] at H
    have c2b0 : ((l0.length : Int) == 512) = true := beq_iff_eq.mpr c2
    have c2b1 : ((l0.length : Int) != 512) = false := bne_eq_false_iff_eq.mpr c2
    clear c2
    by_cases c3 : 148 ≤ 156
    · rw [if_pos c3] at H
      have c3b0 := eq_true c3
      have c3b1 : decide (148 ≤ 156) = true := decide_eq_true c3
      clear c3
      by_cases c4 : 156 ≤ (l0.length : Int)
      · rw [if_pos c4] at H
        have c4b0 := eq_true c4
        have c4b1 : decide (156 ≤ (l0.length : Int)) = true := decide_eq_true c4
        clear c4
        replace H := Option.bind_eq_some_iff.mp H
        obtain ⟨⟨t226, t227⟩, A50, H⟩ := H
        replace H : (if t227 = 0 then (if t226 < 0 then (some (0, 3)) else (if t226 > 1048576 then (some (0, 3)) else (some (t226, 0)))) else (some (0, t227))) = some (r1, r2) := H
        have A5 := Aside0.mk A50
        clear A50
        by_cases c6 : t227 = 0
        · rw [if_pos c6] at H
          have c6b0 : (t227 == 0) = true := beq_iff_eq.mpr c6
          have c6b1 : (t227 != 0) = false := bne_eq_false_iff_eq.mpr c6
          clear c6
          by_cases c7 : t226 < 0
          · rw [if_pos c7] at H
            have c7b0 : decide (t226 < 0) = true := decide_eq_true c7
            clear c7
            simp only [Option.some.injEq, Prod.mk.injEq] at H
            obtain ⟨rfl, rfl⟩ := H
            obtain ⟨i08, hi08, _, hsz8, _⟩ := info_parts info5
            obtain ⟨A8, hcut8, hA8, hC8⟩ := print_mid_of (P := Tryd.prog) (Value.int .u8) 0 22 5 .i64 .i64 Tryd.underlying22 hi08 hsz8 A0 c0 l0 148 156 (by omega) (by first | omega | exact of_decide_eq_true (by first | (with_reducible assumption) | assumption)) (of_decide_eq_true (by first | (with_reducible assumption) | assumption)) HC0.out
            have HR225 := Aside0.mk (Kd.C_of_reads (h1 := fun _ => rfl) (hA8 _ (Kd.reads_of_C HR0.out)))
            have HC225 := Aside0.mk hC8
            clear hA8 hC8 hi08 hsz8
            go_enter Tryd.func72, Tryd.ntmps72
            go_wp2_with (first | ((with_reducible refine gate_callee (f := 52) rfl ?_); refine goesL_ (some 12) rfl rfl Tryd.func52 (by kernel_rfl) rfl #[.slice A8 ((l0.take 156).drop 148).length (c0 - 148)] rfl (by (try simp only [List.map_toArray, List.map_cons, List.map_nil]); first | done | (rw [show ((l0.take 156).drop 148).length = (156 - 148) from (by rw [List.length_drop, List.length_take]; have h_ : (156 : Int) ≤ (l0.length : Int) := of_decide_eq_true (by first | (with_reducible assumption) | assumption); omega)] <;> rfl) | rfl | (simp only [List.length_drop, List.length_take]; rfl)) ?_; (with_reducible refine (thwartref01_Get.calls k _ _ ((l0.take 156).drop 148) t226 t227 _ ?side1 ?side2 A5.out).mono ?_); (case side1 => repeat (first | exact HR225.out | (with_reducible refine Kd.C_alloc ?_ _) | (with_reducible refine Kd.C_drewN ?_ _) | (with_reducible refine Kd.C_drew ?_))); (case side2 => exact HC225.out); rintro e w9 ⟨rfl, hb⟩; refine ⟨_, rfl, ?_⟩; have n0_ := Aside0.mk (below_step (by repeat (first | (with_reducible first | exact HB.out | apply below_alloc | apply pw_below_drewN | apply below_drew1) | exact HB.out)) hb); clear HB; have HB := n0_; clear n0_; (try clear hb); (try clear hb2); (try clear hk); (try clear hi)))
            go_ret2
            exact ⟨by first | rfl | (simp [errW_none, errW_some] <;> rfl) | (simp [*, errW_none, errW_some] <;> rfl), by repeat (first | (with_reducible first | exact HB.out | apply below_alloc | apply pw_below_drewN | apply below_drew1) | exact HB.out)⟩
          · rw [if_neg c7] at H
            have c7b0 : decide (t226 < 0) = false := decide_eq_false c7
            clear c7
            by_cases c10 : t226 > 1048576
            · rw [if_pos c10] at H
              have c10b0 : decide (1048576 < t226) = true := decide_eq_true c10
              clear c10
              simp only [Option.some.injEq, Prod.mk.injEq] at H
              obtain ⟨rfl, rfl⟩ := H
              obtain ⟨i011, hi011, _, hsz11, _⟩ := info_parts info5
              obtain ⟨A11, hcut11, hA11, hC11⟩ := print_mid_of (P := Tryd.prog) (Value.int .u8) 0 22 5 .i64 .i64 Tryd.underlying22 hi011 hsz11 A0 c0 l0 148 156 (by omega) (by first | omega | exact of_decide_eq_true (by first | (with_reducible assumption) | assumption)) (of_decide_eq_true (by first | (with_reducible assumption) | assumption)) HC0.out
              have HR225 := Aside0.mk (Kd.C_of_reads (h1 := fun _ => rfl) (hA11 _ (Kd.reads_of_C HR0.out)))
              have HC225 := Aside0.mk hC11
              clear hA11 hC11 hi011 hsz11
              go_enter Tryd.func72, Tryd.ntmps72
              go_wp2_with (first | ((with_reducible refine gate_callee (f := 52) rfl ?_); refine goesL_ (some 12) rfl rfl Tryd.func52 (by kernel_rfl) rfl #[.slice A11 ((l0.take 156).drop 148).length (c0 - 148)] rfl (by (try simp only [List.map_toArray, List.map_cons, List.map_nil]); first | done | (rw [show ((l0.take 156).drop 148).length = (156 - 148) from (by rw [List.length_drop, List.length_take]; have h_ : (156 : Int) ≤ (l0.length : Int) := of_decide_eq_true (by first | (with_reducible assumption) | assumption); omega)] <;> rfl) | rfl | (simp only [List.length_drop, List.length_take]; rfl)) ?_; (with_reducible refine (thwartref01_Get.calls k _ _ ((l0.take 156).drop 148) t226 t227 _ ?side1 ?side2 A5.out).mono ?_); (case side1 => repeat (first | exact HR225.out | (with_reducible refine Kd.C_alloc ?_ _) | (with_reducible refine Kd.C_drewN ?_ _) | (with_reducible refine Kd.C_drew ?_))); (case side2 => exact HC225.out); rintro e w12 ⟨rfl, hb⟩; refine ⟨_, rfl, ?_⟩; have n0_ := Aside0.mk (below_step (by repeat (first | (with_reducible first | exact HB.out | apply below_alloc | apply pw_below_drewN | apply below_drew1) | exact HB.out)) hb); clear HB; have HB := n0_; clear n0_; (try clear hb); (try clear hb2); (try clear hk); (try clear hi)))
              go_ret2
              exact ⟨by first | rfl | (simp [errW_none, errW_some] <;> rfl) | (simp [*, errW_none, errW_some] <;> rfl), by repeat (first | (with_reducible first | exact HB.out | apply below_alloc | apply pw_below_drewN | apply below_drew1) | exact HB.out)⟩
            · rw [if_neg c10] at H
              have c10b0 : decide (1048576 < t226) = false := decide_eq_false c10
              clear c10
              simp only [Option.some.injEq, Prod.mk.injEq] at H
              obtain ⟨rfl, rfl⟩ := H
              obtain ⟨i013, hi013, _, hsz13, _⟩ := info_parts info5
              obtain ⟨A13, hcut13, hA13, hC13⟩ := print_mid_of (P := Tryd.prog) (Value.int .u8) 0 22 5 .i64 .i64 Tryd.underlying22 hi013 hsz13 A0 c0 l0 148 156 (by omega) (by first | omega | exact of_decide_eq_true (by first | (with_reducible assumption) | assumption)) (of_decide_eq_true (by first | (with_reducible assumption) | assumption)) HC0.out
              have HR225 := Aside0.mk (Kd.C_of_reads (h1 := fun _ => rfl) (hA13 _ (Kd.reads_of_C HR0.out)))
              have HC225 := Aside0.mk hC13
              clear hA13 hC13 hi013 hsz13
              go_enter Tryd.func72, Tryd.ntmps72
              go_wp2_with (first | ((with_reducible refine gate_callee (f := 52) rfl ?_); refine goesL_ (some 12) rfl rfl Tryd.func52 (by kernel_rfl) rfl #[.slice A13 ((l0.take 156).drop 148).length (c0 - 148)] rfl (by (try simp only [List.map_toArray, List.map_cons, List.map_nil]); first | done | (rw [show ((l0.take 156).drop 148).length = (156 - 148) from (by rw [List.length_drop, List.length_take]; have h_ : (156 : Int) ≤ (l0.length : Int) := of_decide_eq_true (by first | (with_reducible assumption) | assumption); omega)] <;> rfl) | rfl | (simp only [List.length_drop, List.length_take]; rfl)) ?_; (with_reducible refine (thwartref01_Get.calls k _ _ ((l0.take 156).drop 148) t226 t227 _ ?side1 ?side2 A5.out).mono ?_); (case side1 => repeat (first | exact HR225.out | (with_reducible refine Kd.C_alloc ?_ _) | (with_reducible refine Kd.C_drewN ?_ _) | (with_reducible refine Kd.C_drew ?_))); (case side2 => exact HC225.out); rintro e w14 ⟨rfl, hb⟩; refine ⟨_, rfl, ?_⟩; have n0_ := Aside0.mk (below_step (by repeat (first | (with_reducible first | exact HB.out | apply below_alloc | apply pw_below_drewN | apply below_drew1) | exact HB.out)) hb); clear HB; have HB := n0_; clear n0_; (try clear hb); (try clear hb2); (try clear hk); (try clear hi)))
              go_ret2
              exact ⟨by first | rfl | (simp [errW_none, errW_some] <;> rfl) | (simp [*, errW_none, errW_some] <;> rfl), by repeat (first | (with_reducible first | exact HB.out | apply below_alloc | apply pw_below_drewN | apply below_drew1) | exact HB.out)⟩
        · rw [if_neg c6] at H
          have c6b0 : (t227 == 0) = false := beq_eq_false_iff_ne.mpr c6
          have c6b1 : (t227 != 0) = true := bne_iff_ne.mpr c6
          simp only [Option.some.injEq, Prod.mk.injEq] at H
          obtain ⟨rfl, rfl⟩ := H
          obtain ⟨i015, hi015, _, hsz15, _⟩ := info_parts info5
          obtain ⟨A15, hcut15, hA15, hC15⟩ := print_mid_of (P := Tryd.prog) (Value.int .u8) 0 22 5 .i64 .i64 Tryd.underlying22 hi015 hsz15 A0 c0 l0 148 156 (by omega) (by first | omega | exact of_decide_eq_true (by first | (with_reducible assumption) | assumption)) (of_decide_eq_true (by first | (with_reducible assumption) | assumption)) HC0.out
          have HR225 := Aside0.mk (Kd.C_of_reads (h1 := fun _ => rfl) (hA15 _ (Kd.reads_of_C HR0.out)))
          have HC225 := Aside0.mk hC15
          clear hA15 hC15 hi015 hsz15
          go_enter Tryd.func72, Tryd.ntmps72
          go_wp2_with (first | ((with_reducible refine gate_callee (f := 52) rfl ?_); refine goesL_ (some 12) rfl rfl Tryd.func52 (by kernel_rfl) rfl #[.slice A15 ((l0.take 156).drop 148).length (c0 - 148)] rfl (by (try simp only [List.map_toArray, List.map_cons, List.map_nil]); first | done | (rw [show ((l0.take 156).drop 148).length = (156 - 148) from (by rw [List.length_drop, List.length_take]; have h_ : (156 : Int) ≤ (l0.length : Int) := of_decide_eq_true (by first | (with_reducible assumption) | assumption); omega)] <;> rfl) | rfl | (simp only [List.length_drop, List.length_take]; rfl)) ?_; (with_reducible refine (thwartref01_Get.calls k _ _ ((l0.take 156).drop 148) t226 t227 _ ?side1 ?side2 A5.out).mono ?_); (case side1 => repeat (first | exact HR225.out | (with_reducible refine Kd.C_alloc ?_ _) | (with_reducible refine Kd.C_drewN ?_ _) | (with_reducible refine Kd.C_drew ?_))); (case side2 => exact HC225.out); rintro e w16 ⟨rfl, hb⟩; refine ⟨_, rfl, ?_⟩; have n0_ := Aside0.mk (below_step (by repeat (first | (with_reducible first | exact HB.out | apply below_alloc | apply pw_below_drewN | apply below_drew1) | exact HB.out)) hb); clear HB; have HB := n0_; clear n0_; (try clear hb); (try clear hb2); (try clear hk); (try clear hi)))
          go_ret2
          exact ⟨by first | rfl | (simp [errW_none, errW_some] <;> rfl) | (simp [*, errW_none, errW_some] <;> rfl), by repeat (first | (with_reducible first | exact HB.out | apply below_alloc | apply pw_below_drewN | apply below_drew1) | exact HB.out)⟩
      · rw [if_neg c4] at H
        exact absurd H (by simp)
    · rw [if_neg c3] at H
      exact absurd H (by simp)
  · rw [if_neg c2] at H
    have c2b0 : ((l0.length : Int) == 512) = false := beq_eq_false_iff_ne.mpr c2
    have c2b1 : ((l0.length : Int) != 512) = true := bne_iff_ne.mpr c2
    simp only [Option.some.injEq, Prod.mk.injEq] at H
    obtain ⟨rfl, rfl⟩ := H
    go_enter Tryd.func72, Tryd.ntmps72
    go_wp2
    go_ret2
    exact ⟨by first | rfl | (simp [errW_none, errW_some] <;> rfl) | (simp [*, errW_none, errW_some] <;> rfl), by repeat (first | (with_reducible first | exact HB.out | apply below_alloc | apply pw_below_drewN | apply below_drew1) | exact HB.out)⟩

end Go.Proofs.YthjljkdiglpbaaaDoor.P

-- F50
-- Written by xprint.py (a program of this session's, over the kit's printer) out of the translation. Not trusted: Lean checks it.
namespace Go.Proofs.YthjljkdiglpbaaaDoor.P
open Go.RowKit Go.Proofs.YthjljkdiglpbaaaDoorW.PrintWords Go.Proofs.YthjljkdiglpbaaaDoorW.PrintLast Go.Proofs.YthjljkdiglpbaaaDoorW.PrintMore Go.Proofs.YthjljkdiglpbaaaDoor.Hand
attribute [local go_sem] max2_int min2_int max_two min_two max_three min_three max_four min_four   -- for this text's walks alone
set_option linter.unusedVariables false
set_option linter.unusedSimpArgs false

/-! ### thwartref03_Check: function 50 -/
def thwartref03_Check.f (k : Nat) (l0 : List Int) : Option (Int) := (thwartref03_Told.f k l0).bind fun bt228 => (if bt228.2 = 0 then ((thwartref03_Sum.f k l0).bind fun t230 => (if bt228.1 = t230 then (some 0) else (some 9))) else (some bt228.2))
theorem thwartref03_Check.mono : ∀ a0 k, LeO (thwartref03_Check.f k a0) (thwartref03_Check.f (k + 1) a0) := by
  intro a0 k
  unfold thwartref03_Check.f
  repeat' first
      | (with_reducible exact thwartref03_Sum.mono _ _)
      | (with_reducible exact thwartref03_Told.mono _ _)
      | (with_reducible exact LeO.refl _)
      | (with_reducible exact LeO.none _)
      | (with_reducible refine LeO.ite ?_ ?_)
      | (with_reducible refine LeO.bind ?_ (fun _ => ?_))
      | exact thwartref03_Sum.mono _ _
      | exact thwartref03_Told.mono _ _
      | exact LeO.none _
      | refine LeO.ite ?_ ?_
      | refine LeO.bind ?_ (fun _ => ?_)
set_option maxHeartbeats 8000000 in
set_option maxRecDepth 100000 in
theorem thwartref03_Check.calls (k : Nat) (A0 : Option Addr) (c0 : Nat) (l0 : List Int) (r : Int) (w : World) (hr0 : Kd.C (Kd.int .u8) w A0 l0.length l0) (hc0 : l0.length ≤ c0) (h : thwartref03_Check.f k l0 = some r) :
    Calls Tryd.prog 50 #[.slice A0 l0.length c0] w fun e w' => e = .returned (.int .i64 r) ∧ Below w.heap.size w w' := by
  have HR0 := Aside0.mk hr0
  have HC0 := Aside0.mk hc0
  clear hr0 hc0
  have HB := Aside0.mk (Below.refl w.heap.size w)
  have H : ((thwartref03_Told.f k l0).bind fun bt228 => (if bt228.2 = 0 then ((thwartref03_Sum.f k l0).bind fun t230 => (if bt228.1 = t230 then (some 0) else (some 9))) else (some bt228.2))) = some r := h
  clear h
  replace H := Option.bind_eq_some_iff.mp H
  obtain ⟨⟨t228, t229⟩, A20, H⟩ := H
  replace H : (if t229 = 0 then ((thwartref03_Sum.f k l0).bind fun t230 => (if t228 = t230 then (some 0) else (some 9))) else (some t229)) = some r := H
  have A2 := Aside0.mk A20
  clear A20
  by_cases c3 : t229 = 0
  · rw [if_pos c3] at H
    have c3b0 : (t229 == 0) = true := beq_iff_eq.mpr c3
    have c3b1 : (t229 != 0) = false := bne_eq_false_iff_eq.mpr c3
    clear c3
    replace H := Option.bind_eq_some_iff.mp H
    obtain ⟨t230, A40, H⟩ := H
    replace H : (if t228 = t230 then (some 0) else (some 9)) = some r := H
    have A4 := Aside0.mk A40
    clear A40
    by_cases c5 : t228 = t230
    · rw [if_pos c5] at H
      have c5b0 : (t228 == t230) = true := beq_iff_eq.mpr c5
      have c5b1 : (t228 != t230) = false := bne_eq_false_iff_eq.mpr c5
      clear c5
      obtain rfl := Option.some.inj H
      go_enter Tryd.func50, Tryd.ntmps50
      go_wp2_with (first | ((with_reducible refine gate_callee (f := 72) rfl ?_); refine goesL_ (some 7) rfl rfl Tryd.func72 (by kernel_rfl) rfl #[.slice A0 l0.length c0] rfl (by (try simp only [List.map_toArray, List.map_cons, List.map_nil]); first | done | rfl | (simp only [List.length_drop, List.length_take]; rfl)) ?_; (with_reducible refine (thwartref03_Told.calls k _ _ l0 t228 t229 _ ?side1 ?side2 A2.out).mono ?_); (case side1 => repeat (first | exact HR0.out | (with_reducible refine Kd.C_alloc ?_ _) | (with_reducible refine Kd.C_drewN ?_ _) | (with_reducible refine Kd.C_drew ?_))); (case side2 => exact HC0.out); rintro e w6 ⟨rfl, hb⟩; refine ⟨_, rfl, ?_⟩; have n0_ := Aside0.mk (below_step (by repeat (first | (with_reducible first | exact HB.out | apply below_alloc | apply pw_below_drewN | apply below_drew1) | exact HB.out)) hb); clear HB; have HB := n0_; clear n0_; (try clear hb); (try clear hb2); (try clear hk); (try clear hi)) | ((with_reducible refine gate_callee (f := 44) rfl ?_); refine goesL_ (some 15) rfl rfl Tryd.func44 (by kernel_rfl) rfl #[.slice A0 l0.length c0] rfl (by (try simp only [List.map_toArray, List.map_cons, List.map_nil]); first | done | rfl | (simp only [List.length_drop, List.length_take]; rfl)) ?_; (with_reducible refine (thwartref03_Sum.calls k _ _ l0 t230 _ ?side1 ?side2 A4.out).mono ?_); (case side1 => repeat (first | exact (Kd.C_below HR0.out HB.out) | (with_reducible refine Kd.C_alloc ?_ _) | (with_reducible refine Kd.C_drewN ?_ _) | (with_reducible refine Kd.C_drew ?_))); (case side2 => exact HC0.out); rintro e w' ⟨rfl, ⟨nd, rfl⟩⟩; refine ⟨_, rfl, ?_⟩))
      go_ret
      exact ⟨by first | rfl | (simp [errW_none, errW_some] <;> rfl) | (simp [*, errW_none, errW_some] <;> rfl), by repeat (first | (with_reducible first | exact HB.out | apply below_alloc | apply pw_below_drewN | apply below_drew1) | exact HB.out)⟩
    · rw [if_neg c5] at H
      have c5b0 : (t228 == t230) = false := beq_eq_false_iff_ne.mpr c5
      have c5b1 : (t228 != t230) = true := bne_iff_ne.mpr c5
      obtain rfl := Option.some.inj H
      go_enter Tryd.func50, Tryd.ntmps50
      go_wp2_with (first | ((with_reducible refine gate_callee (f := 72) rfl ?_); refine goesL_ (some 7) rfl rfl Tryd.func72 (by kernel_rfl) rfl #[.slice A0 l0.length c0] rfl (by (try simp only [List.map_toArray, List.map_cons, List.map_nil]); first | done | rfl | (simp only [List.length_drop, List.length_take]; rfl)) ?_; (with_reducible refine (thwartref03_Told.calls k _ _ l0 t228 t229 _ ?side1 ?side2 A2.out).mono ?_); (case side1 => repeat (first | exact HR0.out | (with_reducible refine Kd.C_alloc ?_ _) | (with_reducible refine Kd.C_drewN ?_ _) | (with_reducible refine Kd.C_drew ?_))); (case side2 => exact HC0.out); rintro e w7 ⟨rfl, hb⟩; refine ⟨_, rfl, ?_⟩; have n0_ := Aside0.mk (below_step (by repeat (first | (with_reducible first | exact HB.out | apply below_alloc | apply pw_below_drewN | apply below_drew1) | exact HB.out)) hb); clear HB; have HB := n0_; clear n0_; (try clear hb); (try clear hb2); (try clear hk); (try clear hi)) | ((with_reducible refine gate_callee (f := 44) rfl ?_); refine goesL_ (some 15) rfl rfl Tryd.func44 (by kernel_rfl) rfl #[.slice A0 l0.length c0] rfl (by (try simp only [List.map_toArray, List.map_cons, List.map_nil]); first | done | rfl | (simp only [List.length_drop, List.length_take]; rfl)) ?_; (with_reducible refine (thwartref03_Sum.calls k _ _ l0 t230 _ ?side1 ?side2 A4.out).mono ?_); (case side1 => repeat (first | exact (Kd.C_below HR0.out HB.out) | (with_reducible refine Kd.C_alloc ?_ _) | (with_reducible refine Kd.C_drewN ?_ _) | (with_reducible refine Kd.C_drew ?_))); (case side2 => exact HC0.out); rintro e w' ⟨rfl, ⟨nd, rfl⟩⟩; refine ⟨_, rfl, ?_⟩))
      go_ret
      exact ⟨by first | rfl | (simp [errW_none, errW_some] <;> rfl) | (simp [*, errW_none, errW_some] <;> rfl), by repeat (first | (with_reducible first | exact HB.out | apply below_alloc | apply pw_below_drewN | apply below_drew1) | exact HB.out)⟩
  · rw [if_neg c3] at H
    have c3b0 : (t229 == 0) = false := beq_eq_false_iff_ne.mpr c3
    have c3b1 : (t229 != 0) = true := bne_iff_ne.mpr c3
    obtain rfl := Option.some.inj H
    go_enter Tryd.func50, Tryd.ntmps50
    go_wp2_with (first | ((with_reducible refine gate_callee (f := 72) rfl ?_); refine goesL_ (some 7) rfl rfl Tryd.func72 (by kernel_rfl) rfl #[.slice A0 l0.length c0] rfl (by (try simp only [List.map_toArray, List.map_cons, List.map_nil]); first | done | rfl | (simp only [List.length_drop, List.length_take]; rfl)) ?_; (with_reducible refine (thwartref03_Told.calls k _ _ l0 t228 t229 _ ?side1 ?side2 A2.out).mono ?_); (case side1 => repeat (first | exact HR0.out | (with_reducible refine Kd.C_alloc ?_ _) | (with_reducible refine Kd.C_drewN ?_ _) | (with_reducible refine Kd.C_drew ?_))); (case side2 => exact HC0.out); rintro e w8 ⟨rfl, hb⟩; refine ⟨_, rfl, ?_⟩; have n0_ := Aside0.mk (below_step (by repeat (first | (with_reducible first | exact HB.out | apply below_alloc | apply pw_below_drewN | apply below_drew1) | exact HB.out)) hb); clear HB; have HB := n0_; clear n0_; (try clear hb); (try clear hb2); (try clear hk); (try clear hi)))
    go_ret
    exact ⟨by first | rfl | (simp [errW_none, errW_some] <;> rfl) | (simp [*, errW_none, errW_some] <;> rfl), by repeat (first | (with_reducible first | exact HB.out | apply below_alloc | apply pw_below_drewN | apply below_drew1) | exact HB.out)⟩

end Go.Proofs.YthjljkdiglpbaaaDoor.P

-- QSum
/- Plain facts on the sum of a header, as the code and the document tell it. -/
namespace Go.Proofs.YthjljkdiglpbaaaDoor.Q3
open Go.RowKit Go.Proofs.YthjljkdiglpbaaaDoor.P Go.Proofs.YthjljkdiglpbaaaDoor.Hand Go.Proofs.YthjljkdiglpbaaaDoorW.PrintWords Go.Proofs.YthjljkdiglpbaaaDoorW.PrintLast Go.Proofs.YthjljkdiglpbaaaDoorW.PrintMore
set_option linter.unusedVariables false
set_option linter.unusedSimpArgs false
def Bytes (l : List Int) : Prop := ∀ x ∈ l, 0 ≤ x ∧ x < 256
theorem Bytes.at {l : List Int} (h : Bytes l) (i : Nat) (hi : i < l.length) : 0 ≤ l[i] ∧ l[i] < 256 := h _ (List.getElem_mem hi)
theorem wrap_id {i : Int} (h0 : -9223372036854775808 ≤ i) (h : i < 9223372036854775808) : wrap64 i = i := by unfold wrap64; omega
theorem rd_at (l : List Int) (i : Nat) (h : i < l.length) : rd l (i : Int) = l[i] := by
  unfold rd; rw [Int.toNat_natCast, List.getD_eq_getElem?_getD, List.getElem?_eq_getElem h]; rfl
theorem drop_sum (l : List Int) (i : Nat) (h : i < l.length) : (l.drop i).sum = l[i] + (l.drop (i + 1)).sum := by
  rw [List.drop_eq_getElem_cons h, List.sum_cons]

theorem l0_is (l : List Int) (hl : l.length = 512) (hb : Bytes l) (d : Nat) : ∀ (k i : Nat) (acc : Int), i + d = 512 → d < k → 0 ≤ acc → acc ≤ 255 * i → hsum_Sum.l0 k l acc i = hsum_Sum.l1 (k - d - 1) l (acc + (l.drop i).sum) 0 := by
  induction d with
  | zero =>
    intro k i acc hi hk h0 h1
    obtain ⟨k, rfl⟩ : ∃ m, k = m + 1 := ⟨k - 1, by omega⟩
    rw [hsum_Sum.l0, if_neg (by omega), List.drop_eq_nil_of_le (by omega)]
    simp
  | succ d ih =>
    intro k i acc hi hk h0 h1
    obtain ⟨k, rfl⟩ : ∃ m, k = m + 1 := ⟨k - 1, by omega⟩
    have hx := hb.at i (by omega)
    rw [hsum_Sum.l0, if_pos (by omega), if_pos (by omega), if_pos (by omega), rd_at l i (by omega), wrap_id (i := l[i]) (by omega) (by omega), wrap_id (by omega) (by omega), wrap_id (by omega) (by omega)]
    have := ih k (i + 1) (acc + l[i]) (by omega) (by omega) (by omega) (by omega)
    rw [show ((i : Int) + 1) = ((i + 1 : Nat) : Int) by omega, this, drop_sum l i (by omega)]
    rw [show k + 1 - (d + 1) - 1 = k - d - 1 by omega]
    congr 1
    omega

theorem l1_is (l : List Int) (hl : l.length = 512) (hb : Bytes l) (d : Nat) : ∀ (k j : Nat) (acc : Int), j + d = 8 → d < k → -300 * j ≤ acc → acc ≤ 130560 + 300 * j → hsum_Sum.l1 k l acc j = some (acc + 32 * d - ((l.drop (148 + j)).take d).sum, 0) := by
  induction d with
  | zero =>
    intro k i acc hi hk h0 h1
    obtain ⟨k, rfl⟩ : ∃ m, k = m + 1 := ⟨k - 1, by omega⟩
    rw [hsum_Sum.l1, if_neg (by omega)]
    simp
  | succ d ih =>
    intro k i acc hi hk h0 h1
    obtain ⟨k, rfl⟩ : ∃ m, k = m + 1 := ⟨k - 1, by omega⟩
    have hx := hb.at (148 + i) (by omega)
    have hw : wrap64 (148 + (i : Int)) = ((148 + i : Nat) : Int) := by rw [wrap_id (by omega) (by omega)]; omega
    rw [hsum_Sum.l1, if_pos (by omega), hw, if_pos (by omega), if_pos (by omega), rd_at l (148 + i) (by omega), wrap_id (i := l[148 + i]) (by omega) (by omega), wrap_id (i := 32 - l[148 + i]) (by omega) (by omega), wrap_id (i := acc + (32 - l[148 + i])) (by omega) (by omega), wrap_id (by omega) (by omega)]
    have := ih k (i + 1) (acc + (32 - l[148 + i])) (by omega) (by omega) (by omega) (by omega)
    rw [show ((i : Int) + 1) = ((i + 1 : Nat) : Int) by omega, this, List.drop_eq_getElem_cons (i := 148 + i) (by omega), List.take_succ_cons, List.sum_cons]
    rw [show 148 + (i + 1) = 148 + i + 1 by omega]
    congr 2
    push_cast
    omega

/-- The sum of a block. -/
def S (l : List Int) : Int := (l.take 148).sum + 256 + (l.drop 156).sum
theorem sum_range (l : List Int) (hb : Bytes l) : 0 ≤ l.sum ∧ l.sum ≤ 255 * l.length := by
  induction l with
  | nil => simp
  | cons x l ih =>
    have h1 := hb x (by simp)
    have h2 := ih (fun y hy => hb y (by simp [hy]))
    rw [List.sum_cons, List.length_cons]
    push_cast
    omega
theorem S_range (l : List Int) (hl : l.length = 512) (hb : Bytes l) : 256 ≤ S l ∧ S l ≤ 130560 := by
  have h1 := sum_range (l.take 148) (fun x hx => hb x (List.mem_of_mem_take hx))
  have h2 := sum_range (l.drop 156) (fun x hx => hb x (List.mem_of_mem_drop hx))
  rw [List.length_take, hl] at h1
  rw [List.length_drop, hl] at h2
  unfold S
  omega
theorem sum_is (l : List Int) (hl : l.length = 512) (hb : Bytes l) (k : Nat) (hk : 600 ≤ k) : hsum_Sum.f k l = some (S l, 0) := by
  unfold hsum_Sum.f
  rw [if_pos (by omega)]
  have h := l0_is l hl hb 512 k 0 0 (by omega) (by omega) (by omega) (by omega)
  have hr := sum_range l hb
  rw [show ((0 : Nat) : Int) = 0 from rfl] at h
  rw [h, List.drop_zero, Int.zero_add]
  have h2 := l1_is l hl hb 8 (k - 512 - 1) 0 l.sum (by omega) (by omega) (by omega) (by omega)
  rw [show ((0 : Nat) : Int) = 0 from rfl] at h2
  rw [h2]
  have e1 : l.sum = (l.take 148).sum + (l.drop 148).sum := by rw [← List.sum_append, List.take_append_drop]
  have e2 : (l.drop 148).sum = ((l.drop 148).take 8).sum + (l.drop 156).sum := by
    rw [show l.drop 156 = (l.drop 148).drop 8 by rw [List.drop_drop], ← List.sum_append, List.take_append_drop]
  have e3 : l.sum + 32 * ((8 : Nat) : Int) - ((l.drop (148 + 0)).take 8).sum = S l := by
    unfold S
    rw [Nat.add_zero]
    omega
  rw [e3]

/-- Six octal digits. -/
def dig (n : Int) : List Int := [48 + n / 32768 % 8, 48 + n / 4096 % 8, 48 + n / 512 % 8, 48 + n / 64 % 8, 48 + n / 8 % 8, 48 + n % 8]
theorem dig_len (n : Int) : (dig n).length = 6 := rfl
theorem dig_bytes (n : Int) : ∀ x ∈ dig n, 48 ≤ x ∧ x ≤ 55 := by
  intro x hx
  simp only [dig, List.mem_cons, List.not_mem_nil, or_false] at hx
  omega
theorem most_is : numf_Most.f 6 = some 262143 := by decide +kernel
theorem octal_is (n : Int) (h0 : 0 ≤ n) (h1 : n < 262144) : numf_Octal.f 100 n 6 = some (dig n, 0) := by
  unfold numf_Octal.f
  rw [if_neg (by decide), show (decide ((6 : Int) > 20)) = false from rfl, numf_Octal.j0, if_neg (by decide), if_neg (by omega), most_is]
  simp only [Option.bind_some]
  rw [if_neg (by omega), if_pos (by decide), if_pos (by decide)]
  have hs : ∀ (c m : Int), (2 : Int) ^ (min c.toNat 64) = m → shr .i64 n c = n / m := by
    intro c m h; unfold shr; rw [← h]; rfl
  show numf_Octal.l0 99 n 6 [0, 0, 0, 0, 0, 0] 6 0 = some (dig n, 0)
  iterate 6 rw [numf_Octal.l0, if_pos (by decide +kernel), if_pos (by decide +kernel), if_pos (by decide +kernel), if_pos (by (try simp only [List.length_set]); decide +kernel)]
  rw [numf_Octal.l0, if_neg (by decide +kernel)]
  rw [hs _ 32768 (by decide +kernel), hs _ 4096 (by decide +kernel), hs _ 512 (by decide +kernel), hs _ 64 (by decide +kernel), hs _ 8 (by decide +kernel), hs _ 1 (by decide +kernel), Int.ediv_one]
  rw [show wrap64 (0 + 1) = 1 by decide +kernel, show wrap64 (1 + 1) = 2 by decide +kernel, show wrap64 (2 + 1) = 3 by decide +kernel, show wrap64 (3 + 1) = 4 by decide +kernel, show wrap64 (4 + 1) = 5 by decide +kernel]
  rfl

theorem i64_or_small (a b : Nat) (ha : a < 2 ^ 62) (hb : b < 2 ^ 62) : Go.bits .or .i64 (a : Int) (b : Int) = ((a ||| b : Nat) : Int) := by
  have hx : a ||| b < 2 ^ 62 := Nat.or_lt_two_pow ha hb
  show IntKind.i64.wrap ((BitVec.ofInt 64 (a : Int) ||| BitVec.ofInt 64 (b : Int)).toNat : Int) = _
  rw [BitVec.toNat_or, BitVec.ofInt_natCast, BitVec.ofInt_natCast, BitVec.toNat_ofNat, BitVec.toNat_ofNat, Nat.mod_eq_of_lt (by omega), Nat.mod_eq_of_lt (by omega)]
  rw [IntKind.wrap_i64]
  omega
theorem or_digit (m d : Int) (h0 : 0 ≤ m) (h1 : m < 1000000000000) (h2 : 0 ≤ d) (h3 : d < 8) : Go.bits .or .i64 (wrap64 (m * 8)) d = m * 8 + d := by
  rw [wrap_id (by omega) (by omega)]
  obtain ⟨m, rfl⟩ := Int.eq_ofNat_of_zero_le h0
  obtain ⟨d, rfl⟩ := Int.eq_ofNat_of_zero_le h2
  have hd : d < 2 ^ 3 := by omega
  have hor : 2 ^ 3 * m ||| d = 2 ^ 3 * m + d := (Nat.two_pow_add_eq_or_of_lt hd m).symm
  have := i64_or_small (2 ^ 3 * m) d (by omega) (by omega)
  rw [show ((m : Int) * 8) = ((2 ^ 3 * m : Nat) : Int) by push_cast; omega, this, hor]
  push_cast
  omega
theorem octVal_dig (n : Int) (h0 : 0 ≤ n) (h1 : n < 262144) : octVal 0 (dig n) = n := by
  unfold dig
  simp only [octVal]
  rw [show (48 + n / 32768 % 8 - 48) = n / 32768 % 8 by omega, show (48 + n / 4096 % 8 - 48) = n / 4096 % 8 by omega, show (48 + n / 512 % 8 - 48) = n / 512 % 8 by omega, show (48 + n / 64 % 8 - 48) = n / 64 % 8 by omega, show (48 + n / 8 % 8 - 48) = n / 8 % 8 by omega, show (48 + n % 8 - 48) = n % 8 by omega]
  rw [or_digit 0 _ (by omega) (by omega) (by omega) (by omega), or_digit _ (n / 4096 % 8) (by omega) (by omega) (by omega) (by omega), or_digit _ (n / 512 % 8) (by omega) (by omega) (by omega) (by omega), or_digit _ (n / 64 % 8) (by omega) (by omega) (by omega) (by omega), or_digit _ (n / 8 % 8) (by omega) (by omega) (by omega) (by omega), or_digit _ (n % 8) (by omega) (by omega) (by omega) (by omega)]
  omega
theorem octs_dig (n : Int) (l : List Int) : octs (dig n ++ 0 :: l) = 6 := by
  have h := dig_bytes n
  simp only [dig, List.mem_cons, List.not_mem_nil, or_false] at h
  simp only [dig, List.cons_append, List.nil_append, octs]
  rw [if_pos (by omega), if_pos (by omega), if_pos (by omega), if_pos (by omega), if_pos (by omega), if_pos (by omega), if_neg (by omega)]
theorem get_is (n : Int) (h0 : 0 ≤ n) (h1 : n < 262144) : numf_Get.f (dig n ++ [0, 32]) = some (n, 0) := by
  unfold numf_Get.f
  have hb : ∀ x ∈ dig n ++ [0, 32], 0 ≤ x ∧ x < 256 := by
    intro x hx
    rcases List.mem_append.1 hx with hx | hx
    · have := dig_bytes n x hx; omega
    · simp only [List.mem_cons, List.not_mem_nil, or_false] at hx; omega
  have hr : rd (dig n ++ [0, 32]) 0 = 48 + n / 32768 % 8 := rfl
  have hs : skip 32 (dig n ++ [0, 32]) = dig n ++ [0, 32] := by
    simp only [dig, List.cons_append, List.nil_append]
    rw [skip, if_neg (by omega)]
  rw [if_pos (.inl rfl), if_pos hb, hr, if_neg (by omega), hs, octs_dig, if_neg (by decide)]
  rw [List.drop_left' (dig_len n), List.take_left' (dig_len n), octVal_dig n h0 h1]
  rw [if_neg (by decide +kernel)]

/-- A block with its sum. -/
def P (l : List Int) : List Int := l.take 148 ++ (dig (S l) ++ [0, 32]) ++ l.drop 156
theorem P_len (l : List Int) (hl : l.length = 512) : (P l).length = 512 := by
  unfold P; simp only [List.length_append, List.length_take, List.length_drop, dig_len, hl]; rfl
theorem P_bytes (l : List Int) (hb : Bytes l) : Bytes (P l) := by
  intro x hx
  unfold P at hx
  rcases List.mem_append.1 hx with hx | hx
  · rcases List.mem_append.1 hx with hx | hx
    · exact hb x (List.mem_of_mem_take hx)
    · rcases List.mem_append.1 hx with hx | hx
      · have := dig_bytes _ x hx; omega
      · simp only [List.mem_cons, List.not_mem_nil, or_false] at hx; omega
  · exact hb x (List.mem_of_mem_drop hx)
theorem P_take (l : List Int) (hl : l.length = 512) : (P l).take 148 = l.take 148 := by
  unfold P; rw [List.append_assoc, List.take_left' (by rw [List.length_take]; omega)]
theorem P_drop (l : List Int) (hl : l.length = 512) : (P l).drop 156 = l.drop 156 := by
  unfold P; rw [List.drop_left' (by simp only [List.length_append, List.length_take, dig_len, hl]; rfl)]
theorem P_field (l : List Int) (hl : l.length = 512) : ((P l).take 156).drop 148 = dig (S l) ++ [0, 32] := by
  unfold P
  rw [List.take_left' (by simp only [List.length_append, List.length_take, dig_len, hl]; rfl), List.drop_left' (by rw [List.length_take]; omega)]
theorem S_P (l : List Int) (hl : l.length = 512) : S (P l) = S l := by
  unfold S; rw [P_take l hl, P_drop l hl]
theorem put_is (l : List Int) (hl : l.length = 512) (hb : Bytes l) : hsum_Put.f l = some (P l, 0) := by
  have hr := S_range l hl hb
  unfold hsum_Put.f
  rw [sum_is l hl hb 1000 (by omega)]
  simp only [Option.bind_some, if_true]
  rw [octal_is (S l) (by omega) (by omega)]
  simp only [Option.bind_some, if_true]
  rw [if_pos ⟨dig_len _, hl⟩]
  rfl
theorem P_P (l : List Int) (hl : l.length = 512) : P (P l) = P l := by
  show (P l).take 148 ++ (dig (S (P l)) ++ [0, 32]) ++ (P l).drop 156 = P l
  rw [P_take l hl, P_drop l hl, S_P l hl]; rfl
theorem told_is (l : List Int) (n : Int) (hl : l.length = 512) (hf : (l.take 156).drop 148 = dig n ++ [0, 32]) (h0 : 0 ≤ n) (h1 : n < 262144) : hsum_Told.f l = some (n, 0) := by
  unfold hsum_Told.f
  rw [if_pos (by omega), if_pos (by decide), if_pos (by omega), hf, get_is n h0 h1]
  simp only [Option.bind_some, if_true]
  rw [if_neg (by omega), if_neg (by omega)]
theorem check_is (l : List Int) (n : Int) (hl : l.length = 512) (hb : Bytes l) (hf : (l.take 156).drop 148 = dig n ++ [0, 32]) (h0 : 0 ≤ n) (h1 : n < 262144) (k : Nat) (hk : 600 ≤ k) : hsum_Check.f k l = some (if S l = n then 0 else 9) := by
  unfold hsum_Check.f
  rw [told_is l n hl hf h0 h1]
  simp only [Option.bind_some, if_true]
  rw [sum_is l hl hb k hk]
  simp only [Option.bind_some, if_true]
  split <;> rfl

/-- What the document's loop adds up, from a place on. -/
def T : List Int → Nat → Int
  | [], _ => 0
  | x :: l, i => (if 148 ≤ i ∧ i < 156 then 32 else x) + T l (i + 1)
theorem T_append (a b : List Int) : ∀ i, T (a ++ b) i = T a i + T b (i + a.length) := by
  induction a with
  | nil => intro i; simp [T]
  | cons x a ih =>
    intro i
    simp only [List.cons_append, T, ih, List.length_cons]
    rw [show i + 1 + a.length = i + (a.length + 1) by omega]; omega
theorem T_out (a : List Int) : ∀ i, (i + a.length ≤ 148 ∨ 156 ≤ i) → T a i = a.sum := by
  induction a with
  | nil => intro i _; simp [T]
  | cons x a ih =>
    intro i h
    simp only [List.length_cons] at h
    simp only [T, List.sum_cons]
    rw [ih (i + 1) (by omega), if_neg (by omega)]
theorem T_in (a : List Int) : ∀ i, 148 ≤ i → i + a.length ≤ 156 → T a i = 32 * a.length := by
  induction a with
  | nil => intro i _ _; simp [T]
  | cons x a ih =>
    intro i h1 h2
    simp only [List.length_cons] at h2 ⊢
    simp only [T]
    rw [ih (i + 1) (by omega) (by omega), if_pos (by omega)]; push_cast; omega
theorem T_S (l : List Int) (hl : l.length = 512) : T l 0 = S l := by
  have h1 : l = l.take 148 ++ ((l.drop 148).take 8 ++ l.drop 156) := by
    rw [show l.drop 156 = (l.drop 148).drop 8 by rw [List.drop_drop], List.take_append_drop, List.take_append_drop]
  have e1 : (l.take 148).length = 148 := by rw [List.length_take]; omega
  have e2 : ((l.drop 148).take 8).length = 8 := by rw [List.length_take, List.length_drop]; omega
  conv => lhs; rw [h1]
  rw [T_append, T_append, T_out _ 0 (by omega), e1, T_in _ _ (by omega) (by omega), e2, T_out _ _ (by omega)]
  unfold S
  omega
theorem ref_sum_loop (l : List Int) (hl : l.length = 512) (hb : Bytes l) (d : Nat) : ∀ (k i : Nat) (n : Int), i + d = 512 → d < k → 0 ≤ n → n ≤ 255 * i → thwartref03_Sum.l0 k l n i = some (n + T (l.drop i) i) := by
  induction d with
  | zero =>
    intro k i n h1 h2 h3 h4
    obtain ⟨k, rfl⟩ : ∃ m, k = m + 1 := ⟨k - 1, by omega⟩
    rw [thwartref03_Sum.l0, if_neg (by omega), List.drop_eq_nil_of_le (by omega)]; simp [T]
  | succ d ih =>
    intro k i n h1 h2 h3 h4
    obtain ⟨k, rfl⟩ : ∃ m, k = m + 1 := ⟨k - 1, by omega⟩
    have hx := hb.at i (by omega)
    have hd : l.drop i = l[i] :: l.drop (i + 1) := List.drop_eq_getElem_cons (by omega)
    have hw : wrap64 ((i : Int) + 1) = ((i + 1 : Nat) : Int) := by rw [wrap_id (by omega) (by omega)]; omega
    rw [thwartref03_Sum.l0, if_pos (by omega), hw, rd_at l i (by omega), wrap_id (i := l[i]) (by omega) (by omega), wrap_id (i := n + l[i]) (by omega) (by omega), wrap_id (i := n + 32) (by omega) (by omega), hd]
    simp only [T]
    by_cases h : 148 ≤ i ∧ i < 156
    · rw [if_pos (by omega), if_pos (by omega), ih k (i + 1) _ (by omega) (by omega) (by omega) (by omega), if_pos h]
      congr 1; omega
    · rw [if_neg h]
      have : thwartref03_Sum.l0 k l (n + l[i]) ((i + 1 : Nat) : Int) = some (n + (l[i] + T (l.drop (i + 1)) (i + 1))) := by
        rw [ih k (i + 1) _ (by omega) (by omega) (by omega) (by omega)]; congr 1; omega
      rw [this]
      by_cases h48 : (i : Int) ≥ 148
      · rw [if_pos h48, if_neg (by omega), if_pos (by omega)]
      · rw [if_neg h48, if_pos (by omega)]
theorem ref_sum (l : List Int) (hl : l.length = 512) (hb : Bytes l) (k : Nat) (hk : 600 ≤ k) : thwartref03_Sum.f k l = some (S l) := by
  unfold thwartref03_Sum.f
  have := ref_sum_loop l hl hb 512 k 0 0 rfl (by omega) (by omega) (by omega)
  rw [List.drop_zero, T_S l hl, Int.zero_add] at this
  exact this
theorem most_ref (k : Nat) (hk : 30 ≤ k) : thwartref01_Most.f k 6 = some 262143 := by
  obtain ⟨d, rfl⟩ : ∃ d, k = 30 + d := ⟨k - 30, by omega⟩
  clear hk
  induction d with
  | zero => decide +kernel
  | succ d ih => exact thwartref01_Most.mono 6 (30 + d) 262143 ih
theorem oct_step (k : Nat) (x : Int) (L : List Int) (i : Nat) (h0 : 0 ≤ x) (h1 : x < 1000000) (hi : i < 6) (hL : L.length = 6) : thwartref01_Octal.l0 (k + 1) x L i = thwartref01_Octal.l0 k (x / 8) (L.set i (48 + x % 8)) ((i : Int) - 1) := by
  rw [thwartref01_Octal.l0, if_pos (by omega), if_pos (by omega), if_pos (by omega), Int.toNat_natCast, Int.tdiv_eq_ediv_of_nonneg h0, Int.tmod_eq_emod_of_nonneg h0, wrap_id (i := x / 8) (by omega) (by omega), wrap_id (i := 48 + x % 8) (by omega) (by omega), wrap_id (i := (i : Int) - 1) (by omega) (by omega), show (48 + x % 8) % 256 = 48 + x % 8 by omega]
theorem ref_octal (n : Int) (h0 : 0 ≤ n) (h1 : n < 262144) (k : Nat) (hk : 50 ≤ k) : thwartref01_Octal.f k n 6 = some (dig n, 0) := by
  obtain ⟨k, rfl⟩ : ∃ m, k = m + 9 := ⟨k - 9, by omega⟩
  unfold thwartref01_Octal.f
  rw [if_neg (by decide), show (decide ((6 : Int) > 20)) = false from rfl, thwartref01_Octal.j0, if_neg (by decide), if_neg (by omega), most_ref _ (by omega), Option.bind_some, decide_eq_false (by omega), thwartref01_Octal.j1, if_neg (by decide), if_pos (by decide), if_pos (by decide)]
  rw [show wrap64 (6 - 1) = 5 by decide +kernel]
  show thwartref01_Octal.l0 (k + 7) n [0, 0, 0, 0, 0, 0] 5 = _
  have s5 := oct_step (k + 6) n [0, 0, 0, 0, 0, 0] 5 (by omega) (by omega) (by omega) rfl
  have s4 := oct_step (k + 5) (n / 8) ([0, 0, 0, 0, 0, 0].set 5 (48 + n % 8)) 4 (by omega) (by omega) (by omega) rfl
  have s3 := oct_step (k + 4) (n / 8 / 8) (([0, 0, 0, 0, 0, 0].set 5 (48 + n % 8)).set 4 (48 + n / 8 % 8)) 3 (by omega) (by omega) (by omega) rfl
  have s2 := oct_step (k + 3) (n / 8 / 8 / 8) ((([0, 0, 0, 0, 0, 0].set 5 (48 + n % 8)).set 4 (48 + n / 8 % 8)).set 3 (48 + n / 8 / 8 % 8)) 2 (by omega) (by omega) (by omega) rfl
  have s1 := oct_step (k + 2) (n / 8 / 8 / 8 / 8) (((([0, 0, 0, 0, 0, 0].set 5 (48 + n % 8)).set 4 (48 + n / 8 % 8)).set 3 (48 + n / 8 / 8 % 8)).set 2 (48 + n / 8 / 8 / 8 % 8)) 1 (by omega) (by omega) (by omega) rfl
  have s0 := oct_step (k + 1) (n / 8 / 8 / 8 / 8 / 8) ((((([0, 0, 0, 0, 0, 0].set 5 (48 + n % 8)).set 4 (48 + n / 8 % 8)).set 3 (48 + n / 8 / 8 % 8)).set 2 (48 + n / 8 / 8 / 8 % 8)).set 1 (48 + n / 8 / 8 / 8 / 8 % 8)) 0 (by omega) (by omega) (by omega) rfl
  refine s5.trans (s4.trans (s3.trans (s2.trans (s1.trans (s0.trans ?_)))))
  show thwartref01_Octal.l0 (k + 1) _ _ (-1) = _
  rw [thwartref01_Octal.l0, if_neg (by decide)]
  show some ([48 + n / 8 / 8 / 8 / 8 / 8 % 8, 48 + n / 8 / 8 / 8 / 8 % 8, 48 + n / 8 / 8 / 8 % 8, 48 + n / 8 / 8 % 8, 48 + n / 8 % 8, 48 + n % 8], (0 : Int)) = some (dig n, 0)
  unfold dig
  rw [show n / 8 / 8 / 8 / 8 / 8 = n / 32768 by omega, show n / 8 / 8 / 8 / 8 = n / 4096 by omega, show n / 8 / 8 / 8 = n / 512 by omega, show n / 8 / 8 = n / 64 by omega]
theorem ref_put (l : List Int) (hl : l.length = 512) (hb : Bytes l) (k : Nat) (hk : 600 ≤ k) : thwartref03_Put.f k l = some (P l, 0) := by
  have hr := S_range l hl hb
  have e1 : (l.take 148).length = 148 := by rw [List.length_take]; omega
  unfold thwartref03_Put.f
  rw [if_pos (by omega), ref_sum l hl hb k hk, Option.bind_some, ref_octal (S l) (by omega) (by omega) k (by omega), Option.bind_some, if_pos (by omega), if_pos (by rw [e1]; decide), Option.bind_some]
  simp only [List.nil_append, Option.bind_some]
  rw [if_pos (by rw [e1, dig_len]; decide)]
  rw [if_pos (by rw [List.length_append, e1, dig_len]; decide), if_pos (by omega), if_pos (by simp only [List.length_append, e1, dig_len, List.length_drop, hl]; decide)]
  unfold P
  simp only [List.append_assoc]
theorem told_same (l : List Int) (hl : l.length = 512) (hb : Bytes l) (k : Nat) (hk : 600 ≤ k) : ∃ r, hsum_Told.f l = some r ∧ thwartref03_Told.f k l = some r := by
  obtain ⟨n, e, h1, h2⟩ := Q4.get_same ((l.take 156).drop 148) (by rw [List.length_drop, List.length_take]; omega) (fun x hx => hb x (List.mem_of_mem_take (List.mem_of_mem_drop hx))) k (by omega)
  unfold hsum_Told.f thwartref03_Told.f
  rw [if_pos (by omega), if_pos (by decide), if_pos (by omega), h1, if_pos (by omega), if_pos (by decide), if_pos (by omega), h2]
  simp only [Option.bind_some]
  split
  · split
    · exact ⟨_, rfl, rfl⟩
    · split <;> exact ⟨_, rfl, rfl⟩
  · exact ⟨_, rfl, rfl⟩
theorem check_same (l : List Int) (hl : l.length = 512) (hb : Bytes l) (k : Nat) (hk : 600 ≤ k) : ∃ r, hsum_Check.f k l = some r ∧ thwartref03_Check.f k l = some r := by
  obtain ⟨⟨n, e⟩, h1, h2⟩ := told_same l hl hb k hk
  unfold hsum_Check.f thwartref03_Check.f
  rw [h1, h2]
  simp only [Option.bind_some]
  split
  · rw [sum_is l hl hb k hk, ref_sum l hl hb k hk]
    simp only [Option.bind_some, if_true]
    by_cases h : S l = n
    · rw [if_pos h, if_pos h.symm]; exact ⟨_, rfl, rfl⟩
    · rw [if_neg h, if_neg (fun e => h e.symm)]; exact ⟨_, rfl, rfl⟩
  · exact ⟨_, rfl, rfl⟩
end Go.Proofs.YthjljkdiglpbaaaDoor.Q3

-- QPut
/- Plain facts on numbers of headers: what numf.Put lays, numf.Get reads. -/
namespace Go.Proofs.YthjljkdiglpbaaaDoor.Q6
open Go.RowKit Go.Proofs.YthjljkdiglpbaaaDoor.P Go.Proofs.YthjljkdiglpbaaaDoor.Hand Go.Proofs.YthjljkdiglpbaaaDoor.Q4 Go.Proofs.YthjljkdiglpbaaaDoorW.PrintWords Go.Proofs.YthjljkdiglpbaaaDoorW.PrintLast Go.Proofs.YthjljkdiglpbaaaDoorW.PrintMore
set_option linter.unusedVariables false
set_option linter.unusedSimpArgs false

def dig7 (n : Int) : List Int := [48 + n / 262144 % 8, 48 + n / 32768 % 8, 48 + n / 4096 % 8, 48 + n / 512 % 8, 48 + n / 64 % 8, 48 + n / 8 % 8, 48 + n % 8]
def dig11 (n : Int) : List Int := [48 + n / 1073741824 % 8, 48 + n / 134217728 % 8, 48 + n / 16777216 % 8, 48 + n / 2097152 % 8, 48 + n / 262144 % 8, 48 + n / 32768 % 8, 48 + n / 4096 % 8, 48 + n / 512 % 8, 48 + n / 64 % 8, 48 + n / 8 % 8, 48 + n % 8]
theorem dig7_mem (n : Int) : ∀ x ∈ dig7 n, 48 ≤ x ∧ x ≤ 55 := by
  intro x hx
  simp only [dig7, List.mem_cons, List.not_mem_nil, or_false] at hx
  omega
theorem dig11_mem (n : Int) : ∀ x ∈ dig11 n, 48 ≤ x ∧ x ≤ 55 := by
  intro x hx
  simp only [dig11, List.mem_cons, List.not_mem_nil, or_false] at hx
  omega
theorem most7 : numf_Most.f 7 = some 2097151 := by decide +kernel
theorem most11 : numf_Most.f 11 = some 8589934591 := by decide +kernel
theorem shr_is (n c m : Int) (h : (2 : Int) ^ (min c.toNat 64) = m) : shr .i64 n c = n / m := by unfold shr; rw [← h]; rfl
theorem oct_put (k : Nat) (n a : Int) (L : List Int) (z i c m : Int) (hi : 0 ≤ i) (hz : i < z) (hl : i < (L.length : Int)) (hi2 : i ≤ 20) (hc : wrap64 (3 * (wrap64 ((wrap64 (a - 1)) - i))) = c) (h0 : 0 ≤ c) (hm : (2 : Int) ^ (min c.toNat 64) = m) :
    numf_Octal.l0 (k + 1) n a L z i = numf_Octal.l0 k n a (L.set i.toNat (48 + n / m % 8)) z (i + 1) := by
  rw [numf_Octal.l0, if_pos hz, hc, if_pos h0, if_pos hi, if_pos hl, shr_is n c m hm, wrap_id (i := i + 1) (by omega) (by omega)]
theorem octal7 (n : Int) (h0 : 0 ≤ n) (h1 : n ≤ 2097151) : numf_Octal.f 100 n 7 = some (dig7 n, 0) := by
  unfold numf_Octal.f
  rw [if_neg (by decide), show (decide ((7 : Int) > 20)) = false from rfl, numf_Octal.j0, if_neg (by decide), if_neg (by omega), most7]
  simp only [Option.bind_some]
  rw [if_neg (by omega), if_pos (by decide), if_pos (by decide)]
  show numf_Octal.l0 99 n 7 [0, 0, 0, 0, 0, 0, 0] 7 0 = some (dig7 n, 0)
  refine (oct_put 98 n 7 _ 7 0 18 262144 (by decide) (by decide) (by decide) (by decide) (by decide +kernel) (by decide) (by decide +kernel)).trans ?_
  refine (oct_put 97 n 7 _ 7 1 15 32768 (by decide) (by decide) (by simp) (by decide) (by decide +kernel) (by decide) (by decide +kernel)).trans ?_
  refine (oct_put 96 n 7 _ 7 2 12 4096 (by decide) (by decide) (by simp) (by decide) (by decide +kernel) (by decide) (by decide +kernel)).trans ?_
  refine (oct_put 95 n 7 _ 7 3 9 512 (by decide) (by decide) (by simp) (by decide) (by decide +kernel) (by decide) (by decide +kernel)).trans ?_
  refine (oct_put 94 n 7 _ 7 4 6 64 (by decide) (by decide) (by simp) (by decide) (by decide +kernel) (by decide) (by decide +kernel)).trans ?_
  refine (oct_put 93 n 7 _ 7 5 3 8 (by decide) (by decide) (by simp) (by decide) (by decide +kernel) (by decide) (by decide +kernel)).trans ?_
  refine (oct_put 92 n 7 _ 7 6 0 1 (by decide) (by decide) (by simp) (by decide) (by decide +kernel) (by decide) (by decide +kernel)).trans ?_
  show numf_Octal.l0 92 n 7 _ 7 7 = _
  rw [numf_Octal.l0, if_neg (by decide), Int.ediv_one]
  rfl
theorem octal11 (n : Int) (h0 : 0 ≤ n) (h1 : n ≤ 8589934591) : numf_Octal.f 100 n 11 = some (dig11 n, 0) := by
  unfold numf_Octal.f
  rw [if_neg (by decide), show (decide ((11 : Int) > 20)) = false from rfl, numf_Octal.j0, if_neg (by decide), if_neg (by omega), most11]
  simp only [Option.bind_some]
  rw [if_neg (by omega), if_pos (by decide), if_pos (by decide)]
  show numf_Octal.l0 99 n 11 [0, 0, 0, 0, 0, 0, 0, 0, 0, 0, 0] 11 0 = some (dig11 n, 0)
  refine (oct_put 98 n 11 _ 11 0 30 1073741824 (by decide) (by decide) (by decide) (by decide) (by decide +kernel) (by decide) (by decide +kernel)).trans ?_
  refine (oct_put 97 n 11 _ 11 1 27 134217728 (by decide) (by decide) (by simp) (by decide) (by decide +kernel) (by decide) (by decide +kernel)).trans ?_
  refine (oct_put 96 n 11 _ 11 2 24 16777216 (by decide) (by decide) (by simp) (by decide) (by decide +kernel) (by decide) (by decide +kernel)).trans ?_
  refine (oct_put 95 n 11 _ 11 3 21 2097152 (by decide) (by decide) (by simp) (by decide) (by decide +kernel) (by decide) (by decide +kernel)).trans ?_
  refine (oct_put 94 n 11 _ 11 4 18 262144 (by decide) (by decide) (by simp) (by decide) (by decide +kernel) (by decide) (by decide +kernel)).trans ?_
  refine (oct_put 93 n 11 _ 11 5 15 32768 (by decide) (by decide) (by simp) (by decide) (by decide +kernel) (by decide) (by decide +kernel)).trans ?_
  refine (oct_put 92 n 11 _ 11 6 12 4096 (by decide) (by decide) (by simp) (by decide) (by decide +kernel) (by decide) (by decide +kernel)).trans ?_
  refine (oct_put 91 n 11 _ 11 7 9 512 (by decide) (by decide) (by simp) (by decide) (by decide +kernel) (by decide) (by decide +kernel)).trans ?_
  refine (oct_put 90 n 11 _ 11 8 6 64 (by decide) (by decide) (by simp) (by decide) (by decide +kernel) (by decide) (by decide +kernel)).trans ?_
  refine (oct_put 89 n 11 _ 11 9 3 8 (by decide) (by decide) (by simp) (by decide) (by decide +kernel) (by decide) (by decide +kernel)).trans ?_
  refine (oct_put 88 n 11 _ 11 10 0 1 (by decide) (by decide) (by simp) (by decide) (by decide +kernel) (by decide) (by decide +kernel)).trans ?_
  show numf_Octal.l0 88 n 11 _ 11 11 = _
  rw [numf_Octal.l0, if_neg (by decide), Int.ediv_one]
  rfl
theorem oct_step (n m d d8 : Int) (l : List Int) (h : m = n / d8) (h2 : n / d8 * 8 + n / d % 8 = n / d) : oct m ((48 + n / d % 8) :: l) = oct (n / d) l := by
  rw [oct, h, show n / d8 * 8 + (48 + n / d % 8 - 48) = n / d by omega]
theorem oct7 (n : Int) (h0 : 0 ≤ n) (h1 : n ≤ 2097151) : oct 0 (dig7 n) = n := by
  unfold dig7
  rw [oct_step n 0 262144 2097152 _ (by omega) (by omega), oct_step n _ 32768 262144 _ rfl (by omega), oct_step n _ 4096 32768 _ rfl (by omega), oct_step n _ 512 4096 _ rfl (by omega), oct_step n _ 64 512 _ rfl (by omega), oct_step n _ 8 64 _ rfl (by omega), oct, oct]
  omega
theorem oct11 (n : Int) (h0 : 0 ≤ n) (h1 : n ≤ 8589934591) : oct 0 (dig11 n) = n := by
  unfold dig11
  rw [oct_step n 0 1073741824 8589934592 _ (by omega) (by omega), oct_step n _ 134217728 1073741824 _ rfl (by omega), oct_step n _ 16777216 134217728 _ rfl (by omega), oct_step n _ 2097152 16777216 _ rfl (by omega), oct_step n _ 262144 2097152 _ rfl (by omega), oct_step n _ 32768 262144 _ rfl (by omega), oct_step n _ 4096 32768 _ rfl (by omega), oct_step n _ 512 4096 _ rfl (by omega), oct_step n _ 64 512 _ rfl (by omega), oct_step n _ 8 64 _ rfl (by omega), oct, oct]
  omega
theorem octs_all (l : List Int) (h : ∀ x ∈ l, 48 ≤ x ∧ x ≤ 55) : octs (l ++ [0]) = l.length := by
  induction l with
  | nil => rfl
  | cons c l ih =>
    have hc := h c (by simp)
    rw [List.cons_append, octs, if_pos (by omega), ih (fun x hx => h x (by simp [hx])), List.length_cons]
theorem skip_none (l : List Int) (h : ∀ x ∈ l, 48 ≤ x ∧ x ≤ 55) : skip 32 (l ++ [0]) = l ++ [0] := by
  cases l with
  | nil => rfl
  | cons c l => have hc := h c (by simp); rw [List.cons_append, skip, if_neg (by omega)]
/-- Digits and a zero are read. -/
theorem get_plain (l : List Int) (n : Int) (hl : l.length = 7 ∨ l.length = 11) (h : ∀ x ∈ l, 48 ≤ x ∧ x ≤ 55) (hn : oct 0 l = n) : numf_Get.f (l ++ [0]) = some (n, 0) := by
  have hb : ∀ x ∈ l ++ [0], 0 ≤ x ∧ x < 256 := by
    intro x hx
    rcases List.mem_append.1 hx with hx | hx
    · have := h x hx; omega
    · simp only [List.mem_cons, List.not_mem_nil, or_false] at hx; omega
  have hr : 48 ≤ rd (l ++ [0]) 0 ∧ rd (l ++ [0]) 0 ≤ 55 := by
    match l, hl with
    | c :: l, _ => exact h c (by simp)
    | [], hl => simp at hl
  unfold numf_Get.f
  rw [if_pos (by rw [List.length_append]; simp only [List.length_cons, List.length_nil]; omega), if_pos hb, if_neg (by omega), skip_none l h, octs_all l h, if_neg (by omega), List.drop_left' rfl, List.take_left' rfl]
  rw [octVal_oct l 0 (by omega) (by
    rcases hl with e | e <;> rw [e] <;> decide) (by omega) h, hn]
  rw [if_neg (by decide +kernel)]

theorem base_put (k : Nat) (n : Int) (L : List Int) (i d j : Int) (hi : 0 ≤ i) (hi2 : i ≤ 20) (hL : L.length ≤ 100) (hd : (2 : Int) ^ (mn (wrap64 (8 * i)) 63).toNat = d) (hm : 0 ≤ mn (wrap64 (8 * i)) 63) (hj : i - 1 = j) : numf_base.l0 (k + 1) n L i = numf_base.l0 k n (L ++ [n / d % 256]) j := by
  rw [numf_base.l0, if_pos (by omega), if_pos hm, if_pos (by omega), hd, wrap_id (i := i - 1) (by omega) (by omega), hj]
def b8 (n : Int) : List Int := [n / 281474976710656 % 256, n / 1099511627776 % 256, n / 4294967296 % 256, n / 16777216 % 256, n / 65536 % 256, n / 256 % 256, n / 1 % 256]
def b12 (n : Int) : List Int := [n / 9223372036854775808 % 256, n / 9223372036854775808 % 256, n / 9223372036854775808 % 256, n / 72057594037927936 % 256, n / 281474976710656 % 256, n / 1099511627776 % 256, n / 4294967296 % 256, n / 16777216 % 256, n / 65536 % 256, n / 256 % 256, n / 1 % 256]
theorem b8_len (n : Int) : (b8 n).length = 7 := rfl
theorem b12_len (n : Int) : (b12 n).length = 11 := rfl
theorem base8 (k : Nat) (n x : Int) : numf_base.l0 (k + 8) n [x] 6 = some (x :: b8 n, 0) := by
  refine (base_put (k + 7) n _ 6 281474976710656 5 (by decide) (by decide) (by simp) (by decide +kernel) (by decide +kernel) rfl).trans ?_
  refine (base_put (k + 6) n _ 5 1099511627776 4 (by decide) (by decide) (by simp) (by decide +kernel) (by decide +kernel) rfl).trans ?_
  refine (base_put (k + 5) n _ 4 4294967296 3 (by decide) (by decide) (by simp) (by decide +kernel) (by decide +kernel) rfl).trans ?_
  refine (base_put (k + 4) n _ 3 16777216 2 (by decide) (by decide) (by simp) (by decide +kernel) (by decide +kernel) rfl).trans ?_
  refine (base_put (k + 3) n _ 2 65536 1 (by decide) (by decide) (by simp) (by decide +kernel) (by decide +kernel) rfl).trans ?_
  refine (base_put (k + 2) n _ 1 256 0 (by decide) (by decide) (by simp) (by decide +kernel) (by decide +kernel) rfl).trans ?_
  refine (base_put (k + 1) n _ 0 1 (-1) (by decide) (by decide) (by simp) (by decide +kernel) (by decide +kernel) rfl).trans ?_
  rw [numf_base.l0, if_neg (by decide)]
  rfl
theorem base12 (k : Nat) (n x : Int) : numf_base.l0 (k + 12) n [x] 10 = some (x :: b12 n, 0) := by
  refine (base_put (k + 11) n _ 10 9223372036854775808 9 (by decide) (by decide) (by simp) (by decide +kernel) (by decide +kernel) rfl).trans ?_
  refine (base_put (k + 10) n _ 9 9223372036854775808 8 (by decide) (by decide) (by simp) (by decide +kernel) (by decide +kernel) rfl).trans ?_
  refine (base_put (k + 9) n _ 8 9223372036854775808 7 (by decide) (by decide) (by simp) (by decide +kernel) (by decide +kernel) rfl).trans ?_
  refine (base_put (k + 8) n _ 7 72057594037927936 6 (by decide) (by decide) (by simp) (by decide +kernel) (by decide +kernel) rfl).trans ?_
  refine (base_put (k + 7) n _ 6 281474976710656 5 (by decide) (by decide) (by simp) (by decide +kernel) (by decide +kernel) rfl).trans ?_
  refine (base_put (k + 6) n _ 5 1099511627776 4 (by decide) (by decide) (by simp) (by decide +kernel) (by decide +kernel) rfl).trans ?_
  refine (base_put (k + 5) n _ 4 4294967296 3 (by decide) (by decide) (by simp) (by decide +kernel) (by decide +kernel) rfl).trans ?_
  refine (base_put (k + 4) n _ 3 16777216 2 (by decide) (by decide) (by simp) (by decide +kernel) (by decide +kernel) rfl).trans ?_
  refine (base_put (k + 3) n _ 2 65536 1 (by decide) (by decide) (by simp) (by decide +kernel) (by decide +kernel) rfl).trans ?_
  refine (base_put (k + 2) n _ 1 256 0 (by decide) (by decide) (by simp) (by decide +kernel) (by decide +kernel) rfl).trans ?_
  refine (base_put (k + 1) n _ 0 1 (-1) (by decide) (by decide) (by simp) (by decide +kernel) (by decide +kernel) rfl).trans ?_
  rw [numf_base.l0, if_neg (by decide)]
  rfl
theorem acc_step (n m d d2 : Int) (l : List Int) (h : m = n / d2) (h2 : wrap64 (n / d2 * 256 + n / d % 256) = n / d) : acc m ((n / d % 256) :: l) = acc (n / d) l := by
  rw [acc, h, h2]
def I64 (n : Int) : Prop := -9223372036854775808 ≤ n ∧ n < 9223372036854775808
theorem acc7 (n s : Int) (hs : s = n / 72057594037927936) (h : I64 n) : acc s (b8 n) = n := by
  unfold I64 at h
  unfold b8
  rw [acc_step n s 281474976710656 72057594037927936 _ hs (by unfold wrap64; omega), acc_step n _ 1099511627776 281474976710656 _ rfl (by unfold wrap64; omega), acc_step n _ 4294967296 1099511627776 _ rfl (by unfold wrap64; omega), acc_step n _ 16777216 4294967296 _ rfl (by unfold wrap64; omega), acc_step n _ 65536 16777216 _ rfl (by unfold wrap64; omega), acc_step n _ 256 65536 _ rfl (by unfold wrap64; omega), acc_step n _ 1 256 _ rfl (by unfold wrap64; omega), acc, Int.ediv_one]
theorem acc8 (n s : Int) (hs : s = n / 9223372036854775808) (h : I64 n) : acc s (n / 72057594037927936 % 256 :: b8 n) = n := by
  have h' := h
  unfold I64 at h'
  rw [acc, show wrap64 (s * 256 + n / 72057594037927936 % 256) = n / 72057594037927936 by
    rw [hs]
    have e : n / 9223372036854775808 = -1 ∨ n / 9223372036854775808 = 0 := by omega
    unfold wrap64
    rcases e with e | e <;> rw [e] <;> omega]
  exact acc7 n _ rfl h
theorem b8_byts (n : Int) : Byts (b8 n) := by
  intro x hx
  simp only [b8, List.mem_cons, List.not_mem_nil, or_false] at hx
  omega
theorem b12_byts (n : Int) : Byts (b12 n) := by
  intro x hx
  simp only [b12, List.mem_cons, List.not_mem_nil, or_false] at hx
  omega

theorem get_base (l : List Int) (x : Int) (hl : l.length = 7 ∨ l.length = 11) (hb : Byts l) (hx : x = 128 ∨ x = 255) : numf_Get.f (x :: l) = numf_unbase.f 20 x l := by
  unfold numf_Get.f
  have hB : ∀ y ∈ x :: l, 0 ≤ y ∧ y < 256 := by
    intro y hy
    rcases List.mem_cons.1 hy with rfl | hy
    · omega
    · exact hb y hy
  rw [if_pos (by rw [List.length_cons]; omega), if_pos hB, if_pos (show rd (x :: l) 0 = 128 ∨ rd (x :: l) 0 = 255 from hx)]
  rfl
theorem get8 (n : Int) (h : I64 n) (x s f : Int) (hx : x = if n < 0 then 255 else 128) (hs : n / 72057594037927936 = if n < 0 then -1 else 0) : numf_Get.f (x :: b8 n) = some (n, 0) := by
  rw [get_base (b8 n) x (.inl rfl) (b8_byts n) (by rw [hx]; split <;> omega)]
  unfold numf_unbase.f
  by_cases hn : n < 0
  · rw [if_pos hn] at hx hs
    subst hx
    rw [if_pos rfl, numf_unbase.j0, fill_255]
    have := unbase_tail (b8 n) 255 (by rw [b8_len]; decide) (b8_byts n) 7 19 0 (-1) rfl (by omega) (by omega) (fun h => by omega)
    rw [List.drop_zero, acc7 n (-1) hs.symm h] at this
    exact this
  · rw [if_neg hn] at hx hs
    subst hx
    rw [if_neg (by decide), numf_unbase.j0, fill_0]
    have := unbase_tail (b8 n) 0 (by rw [b8_len]; decide) (b8_byts n) 7 19 0 0 rfl (by omega) (by omega) (fun h => by omega)
    rw [List.drop_zero, acc7 n 0 hs.symm h] at this
    exact this
theorem unbase12 (n f m : Int) (h : I64 n) (hm : m = n / 9223372036854775808) (hf : n / 9223372036854775808 % 256 = f) (hor : Go.bits .or .i64 (wrap64 (m * 256)) (wrap64 f) = m) (hfl : Go.bits .and .u8 (Go.bits .xor .u8 (n / 72057594037927936 % 256) f) 128 = 0) : numf_unbase.l0 19 (b12 n) f m (b12 n) (b12 n).length 0 = some (n, 0) := by
  have hB := b12_byts n
  have hl := b12_len n
  have i0 : 0 < (b12 n).length := by omega
  have i1 : 1 < (b12 n).length := by omega
  have i2 : 2 < (b12 n).length := by omega
  have s0 := unbase_skip (b12 n) f m (by omega) hB 0 18 (by omega) hor
  have s1 := unbase_skip (b12 n) f m (by omega) hB 1 17 (by omega) hor
  have s2 := unbase_skip (b12 n) f m (by omega) hB 2 16 (by omega) hor
  have s3 := unbase_eight (b12 n) f m (by omega) hB 3 16 (by omega) (by omega)
  rw [if_pos (show (b12 n)[0]'i0 = f from hf)] at s0
  rw [if_pos (show (b12 n)[1]'i1 = f from hf)] at s1
  rw [if_pos (show (b12 n)[2]'i2 = f from hf)] at s2
  have i3 : 3 < (b12 n).length := by omega
  rw [if_pos (show Go.bits .and .u8 (Go.bits .xor .u8 ((b12 n)[3]'i3) f) 128 = 0 from hfl)] at s3
  refine s0.trans (s1.trans (s2.trans (s3.trans ?_)))
  have := acc8 n m hm h
  exact congrArg (fun z => some (z, (0 : Int))) this
theorem get12 (n : Int) (h : I64 n) (x : Int) (hx : x = if n < 0 then 255 else 128) : numf_Get.f (x :: b12 n) = some (n, 0) := by
  have h' := h
  unfold I64 at h'
  rw [get_base (b12 n) x (.inr rfl) (b12_byts n) (by rw [hx]; split <;> omega)]
  unfold numf_unbase.f
  by_cases hn : n < 0
  · rw [if_pos hn] at hx
    subst hx
    rw [if_pos rfl, numf_unbase.j0, fill_255]
    exact unbase12 n 255 (-1) h (by omega) (by omega) or_fill ((flag_255 _ (by omega) (by omega)).2 (by omega))
  · rw [if_neg hn] at hx
    subst hx
    rw [if_neg (by decide), numf_unbase.j0, fill_0]
    exact unbase12 n 0 0 h (by omega) (by omega) or_zero ((flag_0 _ (by omega) (by omega)).2 (by omega))

/-- What is laid is read. -/
def Laid (n : Int) (w : Nat) (p : List Int × Int) : Prop := (p.2 = 0 ∧ p.1.length = w ∧ Byts p.1 ∧ numf_Get.f p.1 = some (n, 0)) ∨ (p.2 ≠ 0 ∧ p.1 = [])
theorem byts_snoc (l : List Int) (h : ∀ x ∈ l, 48 ≤ x ∧ x ≤ 55) : Byts (l ++ [0]) := by
  intro x hx
  rcases List.mem_append.1 hx with hx | hx
  · have := h x hx; omega
  · simp only [List.mem_cons, List.not_mem_nil, or_false] at hx; omega
theorem byts_cons (x : Int) (l : List Int) (hx : 0 ≤ x ∧ x < 256) (h : Byts l) : Byts (x :: l) := by
  intro y hy
  rcases List.mem_cons.1 hy with rfl | hy
  · exact hx
  · exact h y hy
theorem put8 (n : Int) (h : I64 n) : ∃ p, numf_Put.f 100 n 8 = some p ∧ Laid n 8 p := by
  have h' := h
  unfold I64 at h'
  unfold numf_Put.f numf_Plain.f
  rw [show numf_isWidth.f 8 = some true from rfl]
  simp only [Option.bind_some, if_true]
  rw [show wrap64 (8 - 1) = 7 by decide +kernel, most7]
  simp only [Option.bind_some]
  have hbase : ∃ p, ((numf_base.f 100 n 8).bind fun bt => some (bt.1, bt.2)) = some p ∧ Laid n 8 p := by
    have hx : ∀ x : Int, x = (if n < 0 then 255 else 128) → ∃ p, ((numf_base.j0 100 n 8 x).bind fun bt => some (bt.1, bt.2)) = some p ∧ Laid n 8 p := by
      intro x hx
      rw [numf_base.j0, show wrap64 (8 * wrap64 (8 - 1)) = 56 by decide +kernel, if_pos (by decide), if_pos (by decide), numf_base.j1, shr_is n 56 72057594037927936 (by decide +kernel)]
      by_cases hc : n / 72057594037927936 = n / 9223372036854775808
      · rw [if_neg (by rw [hc]; simp), show wrap64 (8 - 2) = 6 by decide +kernel, base8 90 n x]
        refine ⟨_, rfl, .inl ⟨rfl, rfl, byts_cons x _ (by rw [hx]; split <;> omega) (b8_byts n), get8 n h x 0 0 hx (by split <;> omega)⟩⟩
      · rw [if_pos (by simpa using hc)]
        exact ⟨_, rfl, .inr ⟨by decide, rfl⟩⟩
    unfold numf_base.f
    by_cases hn : n < 0
    · rw [if_pos hn]; exact hx 255 (by rw [if_pos hn])
    · rw [if_neg hn]; exact hx 128 (by rw [if_neg hn])
  by_cases h0 : n ≥ 0
  · rw [if_pos h0]
    simp only [Option.bind_some]
    by_cases h1 : n ≤ 2097151
    · rw [if_pos (by simpa using h1), octal7 n h0 h1]
      simp only [Option.bind_some]
      rw [if_pos (by rw [show (dig7 n).length = 7 from rfl]; decide)]
      exact ⟨_, rfl, .inl ⟨rfl, rfl, byts_snoc _ (dig7_mem n), get_plain _ n (.inl rfl) (dig7_mem n) (oct7 n h0 h1)⟩⟩
    · rw [if_neg (by simpa using h1)]
      exact hbase
  · rw [if_neg h0]
    simp only [Option.bind_some]
    rw [if_neg (by decide)]
    exact hbase
theorem put12 (n : Int) (h : I64 n) : ∃ p, numf_Put.f 100 n 12 = some p ∧ Laid n 12 p := by
  have h' := h
  unfold I64 at h'
  unfold numf_Put.f numf_Plain.f
  rw [show numf_isWidth.f 12 = some true from rfl]
  simp only [Option.bind_some, if_true]
  rw [show wrap64 (12 - 1) = 11 by decide +kernel, most11]
  simp only [Option.bind_some]
  have hbase : ∃ p, ((numf_base.f 100 n 12).bind fun bt => some (bt.1, bt.2)) = some p ∧ Laid n 12 p := by
    have hx : ∀ x : Int, x = (if n < 0 then 255 else 128) → ∃ p, ((numf_base.j0 100 n 12 x).bind fun bt => some (bt.1, bt.2)) = some p ∧ Laid n 12 p := by
      intro x hx
      rw [numf_base.j0, show wrap64 (8 * wrap64 (12 - 1)) = 88 by decide +kernel, if_neg (by decide), numf_base.j1, if_neg (by decide), show wrap64 (12 - 2) = 10 by decide +kernel, base12 86 n x]
      exact ⟨_, rfl, .inl ⟨rfl, rfl, byts_cons x _ (by rw [hx]; split <;> omega) (b12_byts n), get12 n h x hx⟩⟩
    unfold numf_base.f
    by_cases hn : n < 0
    · rw [if_pos hn]; exact hx 255 (by rw [if_pos hn])
    · rw [if_neg hn]; exact hx 128 (by rw [if_neg hn])
  by_cases h0 : n ≥ 0
  · rw [if_pos h0]
    simp only [Option.bind_some]
    by_cases h1 : n ≤ 8589934591
    · rw [if_pos (by simpa using h1), octal11 n h0 h1]
      simp only [Option.bind_some]
      rw [if_pos (by rw [show (dig11 n).length = 11 from rfl]; decide)]
      exact ⟨_, rfl, .inl ⟨rfl, rfl, byts_snoc _ (dig11_mem n), get_plain _ n (.inr rfl) (dig11_mem n) (oct11 n h0 h1)⟩⟩
    · rw [if_neg (by simpa using h1)]
      exact hbase
  · rw [if_neg h0]
    simp only [Option.bind_some]
    rw [if_neg (by decide)]
    exact hbase
theorem put_up (n w : Int) (p : List Int × Int) (h : numf_Put.f 100 n w = some p) (k : Nat) (hk : 100 ≤ k) : numf_Put.f k n w = some p := by
  obtain ⟨d, rfl⟩ : ∃ d, k = 100 + d := ⟨k - 100, by omega⟩
  clear hk
  induction d with
  | zero => exact h
  | succ d ih => exact numf_Put.mono n w (100 + d) p ih
end Go.Proofs.YthjljkdiglpbaaaDoor.Q6

-- F96
-- Written by xprint.py (a program of this session's, over the kit's printer) out of the translation. Not trusted: Lean checks it.
namespace Go.Proofs.YthjljkdiglpbaaaDoor.P
open Go.RowKit Go.Proofs.YthjljkdiglpbaaaDoorW.PrintWords Go.Proofs.YthjljkdiglpbaaaDoorW.PrintLast Go.Proofs.YthjljkdiglpbaaaDoorW.PrintMore Go.Proofs.YthjljkdiglpbaaaDoor.Hand
attribute [local go_sem] max2_int min2_int max_two min_two max_three min_three max_four min_four   -- for this text's walks alone
set_option linter.unusedVariables false
set_option linter.unusedSimpArgs false

/-! ### thwartref02_zero: function 96 -/
def thwartref02_zero.l0 : Nat → ByteArray → Int → Option (Int)
  | 0, _, _ => none
  | k + 1, x0, x3 => if x3 < (x0.size : Int) then (if 0 ≤ x3 then (if (bt x0 x3) = 0 then (some x3) else (thwartref02_zero.l0 k x0 (wrap64 (x3 + 1)))) else (none)) else (some (x0.size : Int))
def thwartref02_zero.f (k : Nat) (a0 : ByteArray) : Option (Int) := thwartref02_zero.l0 k a0 0
theorem thwartref02_zero.mono_l : ∀ k, (∀ y0 y1, LeO (thwartref02_zero.l0 k y0 y1) (thwartref02_zero.l0 (k + 1) y0 y1))
  | 0 => fun _ _ r h => by simp [thwartref02_zero.l0] at h
  | k + 1 => by
    have ih0 := thwartref02_zero.mono_l k
    · intro y0 y1
      unfold thwartref02_zero.l0
      repeat' first
      | (with_reducible exact ih0 _ _)
      | (with_reducible exact LeO.refl _)
      | (with_reducible exact LeO.none _)
      | (with_reducible refine LeO.ite ?_ ?_)
      | (with_reducible refine LeO.bind ?_ (fun _ => ?_))
      | exact ih0 _ _
      | exact LeO.none _
      | refine LeO.ite ?_ ?_
      | refine LeO.bind ?_ (fun _ => ?_)
theorem thwartref02_zero.mono : ∀ a0 k, LeO (thwartref02_zero.f k a0) (thwartref02_zero.f (k + 1) a0) := by
  intro a0 k
  have ih0 := thwartref02_zero.mono_l k
  unfold thwartref02_zero.f
  repeat' first
      | (with_reducible exact ih0 _ _)
      | (with_reducible exact LeO.refl _)
      | (with_reducible exact LeO.none _)
      | (with_reducible refine LeO.ite ?_ ?_)
      | (with_reducible refine LeO.bind ?_ (fun _ => ?_))
      | exact ih0 _ _
      | exact LeO.none _
      | refine LeO.ite ?_ ?_
      | refine LeO.bind ?_ (fun _ => ?_)
set_option maxHeartbeats 8000000 in
set_option maxRecDepth 100000 in
theorem thwartref02_zero.calls (k : Nat) (a0 : ByteArray) (r : Int) (w : World) (h : thwartref02_zero.f k a0 = some r) :
    Calls Tryd.prog 96 #[.string a0] w fun e w' => e = .returned (.int .i64 r) ∧ Drawn0 w w' := by
  have H : (thwartref02_zero.l0 k a0 0) = some r := h
  clear h
  have H' := Aside0.mk H
  clear H
  go_enter Tryd.func96, Tryd.ntmps96
  go_wp2
  go_loopg [3] k (fun kq v3 w' => ∃ (x3_1 : Int), v3 = .int .i64 x3_1 ∧ Aside0 (thwartref02_zero.l0 kq a0 x3_1 = some r) ∧ Aside0 (kq ≤ k) ∧ Drawn0 w w')
  case atStart => exact ⟨(0), (by first | rfl | (simp; done) | (simp [*]; done)), H', ⟨Nat.le_refl _⟩, by repeat (first | exact Drawn0.refl _ | apply Drawn0.step)⟩
  case round =>
    clear H'
    obtain ⟨x3_1, rfl, HA, HK1, ⟨m1, rfl⟩⟩ := hrel
    cases gk with
    | zero => exact absurd HA.out (by simp [thwartref02_zero.l0])
    | succ k1 =>
      have H := HA.out
      clear HA
      simp only [thwartref02_zero.l0] at H
      by_cases c2 : x3_1 < (a0.size : Int)
      · rw [if_pos c2] at H
        have c2b0 : decide (x3_1 < (a0.size : Int)) = true := decide_eq_true c2
        clear c2
        by_cases c3 : 0 ≤ x3_1
        · rw [if_pos c3] at H
          have c3b0 : decide (0 ≤ x3_1) = true := decide_eq_true c3
          clear c3
          by_cases c5 : (bt a0 x3_1) = 0
          · rw [if_pos c5] at H
            have c5b0 : ((bt a0 x3_1) == 0) = true := beq_iff_eq.mpr c5
            have c5b1 : ((bt a0 x3_1) != 0) = false := bne_eq_false_iff_eq.mpr c5
            clear c5
            obtain rfl := Option.some.inj H
            have p4 : 0 ≤ (x3_1 : Int) := of_decide_eq_true (by first | (with_reducible assumption) | assumption)
            have q4 : x3_1 < (a0.size : Int) := of_decide_eq_true (by first | (with_reducible assumption) | assumption)
            have hx4 := bt_at a0 x3_1
            replace p4 := eq_true p4
            replace q4 := eq_true q4
            go_wp2
            go_ret
            exact ⟨by first | rfl | (simp; done) | (simp [*]; done), by repeat (first | exact Drawn0.refl _ | apply Drawn0.step)⟩
          · rw [if_neg c5] at H
            have c5b0 : ((bt a0 x3_1) == 0) = false := beq_eq_false_iff_ne.mpr c5
            have c5b1 : ((bt a0 x3_1) != 0) = true := bne_iff_ne.mpr c5
            have H' := Aside0.mk H
            clear H
            have p4 : 0 ≤ (x3_1 : Int) := of_decide_eq_true (by first | (with_reducible assumption) | assumption)
            have q4 : x3_1 < (a0.size : Int) := of_decide_eq_true (by first | (with_reducible assumption) | assumption)
            have hx4 := bt_at a0 x3_1
            replace p4 := eq_true p4
            replace q4 := eq_true q4
            go_wp2
            go_roundg k1
            case measure => have := HK1.out; omega
            case rel => exact ⟨(wrap64 (x3_1 + 1)), (by first | rfl | (simp; done) | (simp [*]; done)), H', ⟨by have := HK1.out; omega⟩, by repeat (first | exact Drawn0.refl _ | apply Drawn0.step)⟩
        · rw [if_neg c3] at H
          exact absurd H (by simp)
      · rw [if_neg c2] at H
        have c2b0 : decide (x3_1 < (a0.size : Int)) = false := decide_eq_false c2
        clear c2
        obtain rfl := Option.some.inj H
        go_wp2
        go_ret
        exact ⟨by first | rfl | (simp; done) | (simp [*]; done), by repeat (first | exact Drawn0.refl _ | apply Drawn0.step)⟩

end Go.Proofs.YthjljkdiglpbaaaDoor.P
