-- Written by xprint.py (a program of this session's, over the kit's printer) out of the translation. Not trusted: Lean checks it.
import Derived.Test.YtpjanlpjjemenaaDoorF0base
namespace Go.Proofs.YtpjanlpjjemenaaDoor.P
open Go.RowKit Go.Proofs.YtpjanlpjjemenaaDoorW.PrintWords Go.Proofs.YtpjanlpjjemenaaDoorW.PrintLast Go.Proofs.YtpjanlpjjemenaaDoorW.PrintMore Go.Proofs.YtpjanlpjjemenaaDoor.Hand
attribute [local go_sem] max2_int min2_int max_two min_two max_three min_three max_four min_four   -- for this text's walks alone
set_option linter.unusedVariables false
set_option linter.unusedSimpArgs false

/-! ### numf_unbase: function 95 -/
mutual
def numf_unbase.j0 : Nat → List Int → Int → Option (Int × Int)
  | 0, _, _ => none
  | k + 1, x1, x6 => numf_unbase.l0 k x1 x6 (wrap64 (IntKind.i8.wrap (x6))) x1 (x1.length : Int) 0
def numf_unbase.l0 : Nat → List Int → Int → Int → List Int → Int → Int → Option (Int × Int)
  | 0, _, _, _, _, _, _ => none
  | k + 1, x1, x6, x7, x16, x17, x18 => if x18 < x17 then (if 0 ≤ x18 then (if x18 < (x16.length : Int) then (if (wrap64 ((x1.length : Int) - x18)) > 8 then (if (rd x16 x18) = x6 then (if (wrap64 ((x1.length : Int) - x18)) = 8 then (if (Go.bits .and .u8 (Go.bits .xor .u8 (rd x16 x18) x6) 128) = 0 then (numf_unbase.l0 k x1 x6 (Go.bits .or .i64 (wrap64 (x7 * 256)) (wrap64 (rd x16 x18))) x16 x17 (wrap64 (x18 + 1))) else (some (0, 10))) else (numf_unbase.l0 k x1 x6 (Go.bits .or .i64 (wrap64 (x7 * 256)) (wrap64 (rd x16 x18))) x16 x17 (wrap64 (x18 + 1)))) else (some (0, 10))) else (if (wrap64 ((x1.length : Int) - x18)) = 8 then (if (Go.bits .and .u8 (Go.bits .xor .u8 (rd x16 x18) x6) 128) = 0 then (numf_unbase.l0 k x1 x6 (Go.bits .or .i64 (wrap64 (x7 * 256)) (wrap64 (rd x16 x18))) x16 x17 (wrap64 (x18 + 1))) else (some (0, 10))) else (numf_unbase.l0 k x1 x6 (Go.bits .or .i64 (wrap64 (x7 * 256)) (wrap64 (rd x16 x18))) x16 x17 (wrap64 (x18 + 1))))) else (none)) else (none)) else (some (x7, 0))
end
def numf_unbase.f (k : Nat) (a0 : Int) (l1 : List Int) : Option (Int × Int) := if a0 = 255 then (numf_unbase.j0 k l1 255) else (numf_unbase.j0 k l1 0)
theorem numf_unbase.mono_l : ∀ k, (∀ y0 y1, LeO (numf_unbase.j0 k y0 y1) (numf_unbase.j0 (k + 1) y0 y1)) ∧ (∀ y0 y1 y2 y3 y4 y5, LeO (numf_unbase.l0 k y0 y1 y2 y3 y4 y5) (numf_unbase.l0 (k + 1) y0 y1 y2 y3 y4 y5))
  | 0 => ⟨fun _ _ r h => by simp [numf_unbase.j0] at h, fun _ _ _ _ _ _ r h => by simp [numf_unbase.l0] at h⟩
  | k + 1 => by
    obtain ⟨ih0, ih1⟩ := numf_unbase.mono_l k
    refine ⟨?_, ?_⟩
    · intro y0 y1
      unfold numf_unbase.j0
      repeat' first
      | (with_reducible exact ih0 _ _)
      | (with_reducible exact ih1 _ _ _ _ _ _)
      | (with_reducible exact LeO.refl _)
      | (with_reducible exact LeO.none _)
      | (with_reducible refine LeO.ite ?_ ?_)
      | (with_reducible refine LeO.bind ?_ (fun _ => ?_))
      | exact ih0 _ _
      | exact ih1 _ _ _ _ _ _
      | exact LeO.none _
      | refine LeO.ite ?_ ?_
      | refine LeO.bind ?_ (fun _ => ?_)
    · intro y0 y1 y2 y3 y4 y5
      unfold numf_unbase.l0
      repeat' first
      | (with_reducible exact ih0 _ _)
      | (with_reducible exact ih1 _ _ _ _ _ _)
      | (with_reducible exact LeO.refl _)
      | (with_reducible exact LeO.none _)
      | (with_reducible refine LeO.ite ?_ ?_)
      | (with_reducible refine LeO.bind ?_ (fun _ => ?_))
      | exact ih0 _ _
      | exact ih1 _ _ _ _ _ _
      | exact LeO.none _
      | refine LeO.ite ?_ ?_
      | refine LeO.bind ?_ (fun _ => ?_)
theorem numf_unbase.mono : ∀ a0 a1 k, LeO (numf_unbase.f k a0 a1) (numf_unbase.f (k + 1) a0 a1) := by
  intro a0 a1 k
  obtain ⟨ih0, ih1⟩ := numf_unbase.mono_l k
  unfold numf_unbase.f
  repeat' first
      | (with_reducible exact ih0 _ _)
      | (with_reducible exact ih1 _ _ _ _ _ _)
      | (with_reducible exact LeO.refl _)
      | (with_reducible exact LeO.none _)
      | (with_reducible refine LeO.ite ?_ ?_)
      | (with_reducible refine LeO.bind ?_ (fun _ => ?_))
      | exact ih0 _ _
      | exact ih1 _ _ _ _ _ _
      | exact LeO.none _
      | refine LeO.ite ?_ ?_
      | refine LeO.bind ?_ (fun _ => ?_)
set_option maxHeartbeats 8000000 in
set_option maxRecDepth 100000 in
theorem numf_unbase.calls (k : Nat) (a0 : Int) (A1 : Option Addr) (c1 : Nat) (l1 : List Int) (r1 : Int) (r2 : Int) (w : World) (hr1 : Kd.C (Kd.int .u8) w A1 l1.length l1) (hc1 : l1.length ≤ c1) (h : numf_unbase.f k a0 l1 = some (r1, r2)) :
    Calls Tryd.prog 95 #[.int .u8 a0, .slice A1 l1.length c1] w fun e w' => e = .returned (.tuple #[.int .i64 r1, .int .i64 r2]) ∧ Drawn0 w w' := by
  have HR1 := Aside0.mk hr1
  have HC1 := Aside0.mk hc1
  clear hr1 hc1
  have H : (if a0 = 255 then (numf_unbase.j0 k l1 255) else (numf_unbase.j0 k l1 0)) = some (r1, r2) := h
  clear h
  have HC3 := Aside0.mk H
  clear H
  go_enter Tryd.func95, Tryd.ntmps95
  go_upto_if 12 with (fail)
  go_cut [6] (fun v6 wc => ∃ (kq : Nat) (x6_2 : Int), v6 = .int .u8 x6_2 ∧ Aside0 (numf_unbase.j0 kq l1 x6_2 = some (r1, r2)) ∧ Aside0 (kq ≤ k) ∧ Drawn0 w wc)
  case first =>
    have H := HC3.out
    clear HC3
    by_cases c4 : a0 = 255
    · rw [if_pos c4] at H
      have c4b0 : (a0 == 255) = true := beq_iff_eq.mpr c4
      have c4b1 : (a0 != 255) = false := bne_eq_false_iff_eq.mpr c4
      clear c4
      (first | rw [c4b0] | (simp only [i64_w, i32_w]; rw [c4b0]) | skip)
      have H' := Aside0.mk H
      clear H
      go_wp2
      go_meet
      case rel => exact ⟨_, (255), (by first | rfl | (simp; done) | (simp [*]; done)), H', ⟨by first | omega | exact Nat.le_refl _⟩, by repeat (first | exact Drawn0.refl _ | apply Drawn0.step)⟩
    · rw [if_neg c4] at H
      have c4b0 : (a0 == 255) = false := beq_eq_false_iff_ne.mpr c4
      have c4b1 : (a0 != 255) = true := bne_iff_ne.mpr c4
      (first | rw [c4b0] | (simp only [i64_w, i32_w]; rw [c4b0]) | skip)
      have H' := Aside0.mk H
      clear H
      go_wp2
      go_meet
      case rel => exact ⟨_, (0), (by first | rfl | (simp; done) | (simp [*]; done)), H', ⟨by first | omega | exact Nat.le_refl _⟩, by repeat (first | exact Drawn0.refl _ | apply Drawn0.step)⟩
  case rest =>
    clear HC3
    try clear c1
    try clear p2
    try clear c4
    try clear c4b0
    try clear c4b1
    obtain ⟨kq, x6_2, rfl, HA, HJ2, ⟨mc2, rfl⟩⟩ := hcut
    cases kq with
    | zero => exact absurd HA.out (by simp [numf_unbase.j0])
    | succ kj2 =>
      have H := HA.out
      clear HA
      simp only [numf_unbase.j0] at H
      have H' := Aside0.mk H
      clear H
      go_wp2
      go_loopg [7, 18] kj2 (fun kq v7 v18 w' => ∃ (x7_2 : Int) (x18_2 : Int), v7 = .int .i64 x7_2 ∧ v18 = .int .i64 x18_2 ∧ Aside0 (numf_unbase.l0 kq l1 x6_2 x7_2 l1 (l1.length : Int) x18_2 = some (r1, r2)) ∧ Aside0 (kq ≤ kj2) ∧ Drawn0 w w')
      case atStart => exact ⟨(wrap64 (IntKind.i8.wrap (x6_2))), (0), (by first | rfl | (simp; done) | (simp [*]; done)), (by first | rfl | (simp; done) | (simp [*]; done)), H', ⟨Nat.le_refl _⟩, by repeat (first | exact Drawn0.refl _ | apply Drawn0.step)⟩
      case round =>
        clear H'
        try clear c1
        try clear c2
        try clear p2
        try clear c4
        try clear c4b0
        try clear c4b1
        try clear p2
        obtain ⟨x7_2, x18_2, rfl, rfl, HA, HK2, ⟨m2, rfl⟩⟩ := hrel
        cases gk with
        | zero => exact absurd HA.out (by simp [numf_unbase.l0])
        | succ k2 =>
          have H := HA.out
          clear HA
          simp only [numf_unbase.l0] at H
          by_cases c5 : x18_2 < (l1.length : Int)
          · rw [if_pos c5] at H
            have c5b0 : decide (x18_2 < (l1.length : Int)) = true := decide_eq_true c5
            clear c5
            by_cases c6 : 0 ≤ x18_2
            · rw [if_pos c6] at H
              have c6b0 : decide (0 ≤ x18_2) = true := decide_eq_true c6
              clear c6
              by_cases c7 : x18_2 < (l1.length : Int)
              · rw [if_pos c7] at H
                have c7b0 : decide (x18_2 < (l1.length : Int)) = true := decide_eq_true c7
                clear c7
                by_cases c8 : (wrap64 ((l1.length : Int) - x18_2)) > 8
                · rw [if_pos c8] at H
                  have c8b0 : decide (8 < (wrap64 ((l1.length : Int) - x18_2))) = true := decide_eq_true c8
                  clear c8
                  by_cases c9 : (rd l1 x18_2) = x6_2
                  · rw [if_pos c9] at H
                    have c9b0 : ((rd l1 x18_2) == x6_2) = true := beq_iff_eq.mpr c9
                    have c9b1 : ((rd l1 x18_2) != x6_2) = false := bne_eq_false_iff_eq.mpr c9
                    clear c9
                    by_cases c10 : (wrap64 ((l1.length : Int) - x18_2)) = 8
                    · rw [if_pos c10] at H
                      have c10b0 : ((wrap64 ((l1.length : Int) - x18_2)) == 8) = true := beq_iff_eq.mpr c10
                      have c10b1 : ((wrap64 ((l1.length : Int) - x18_2)) != 8) = false := bne_eq_false_iff_eq.mpr c10
                      clear c10
                      by_cases c11 : (Go.bits .and .u8 (Go.bits .xor .u8 (rd l1 x18_2) x6_2) 128) = 0
                      · rw [if_pos c11] at H
                        have c11b0 : ((Go.bits .and .u8 (Go.bits .xor .u8 (rd l1 x18_2) x6_2) 128) == 0) = true := beq_iff_eq.mpr c11
                        have c11b1 : ((Go.bits .and .u8 (Go.bits .xor .u8 (rd l1 x18_2) x6_2) 128) != 0) = false := bne_eq_false_iff_eq.mpr c11
                        clear c11
                        have H' := Aside0.mk H
                        clear H
                        have p577 : 0 ≤ (x18_2 : Int) := of_decide_eq_true (by first | (with_reducible assumption) | assumption)
                        have q577 : x18_2 < (l1.length : Int) := of_decide_eq_true (by first | (with_reducible assumption) | assumption)
                        obtain ⟨ad577, e577, hx577_0⟩ := Kd.at_int HR1.out x18_2 p577 q577
                        cases e577
                        replace p577 := eq_true p577
                        replace q577 := eq_true q577
                        go_wp2
                        go_roundg k2
                        case measure => have := HJ2.out; have := HK2.out; omega
                        case rel => exact ⟨(Go.bits .or .i64 (wrap64 (x7_2 * 256)) (wrap64 (rd l1 x18_2))), (wrap64 (x18_2 + 1)), (by first | rfl | (simp; done) | (simp [*]; done)), (by first | rfl | (simp; done) | (simp [*]; done)), H', ⟨by have := HJ2.out; have := HK2.out; omega⟩, by repeat (first | exact Drawn0.refl _ | apply Drawn0.step)⟩
                      · rw [if_neg c11] at H
                        have c11b0 : ((Go.bits .and .u8 (Go.bits .xor .u8 (rd l1 x18_2) x6_2) 128) == 0) = false := beq_eq_false_iff_ne.mpr c11
                        have c11b1 : ((Go.bits .and .u8 (Go.bits .xor .u8 (rd l1 x18_2) x6_2) 128) != 0) = true := bne_iff_ne.mpr c11
                        simp only [Option.some.injEq, Prod.mk.injEq] at H
                        obtain ⟨rfl, rfl⟩ := H
                        have p577 : 0 ≤ (x18_2 : Int) := of_decide_eq_true (by first | (with_reducible assumption) | assumption)
                        have q577 : x18_2 < (l1.length : Int) := of_decide_eq_true (by first | (with_reducible assumption) | assumption)
                        obtain ⟨ad577, e577, hx577_0⟩ := Kd.at_int HR1.out x18_2 p577 q577
                        cases e577
                        replace p577 := eq_true p577
                        replace q577 := eq_true q577
                        go_wp2
                        go_ret2
                        exact ⟨by first | rfl | (simp; done) | (simp [*]; done), by repeat (first | exact Drawn0.refl _ | apply Drawn0.step)⟩
                    · rw [if_neg c10] at H
                      have c10b0 : ((wrap64 ((l1.length : Int) - x18_2)) == 8) = false := beq_eq_false_iff_ne.mpr c10
                      have c10b1 : ((wrap64 ((l1.length : Int) - x18_2)) != 8) = true := bne_iff_ne.mpr c10
                      have H' := Aside0.mk H
                      clear H
                      have p577 : 0 ≤ (x18_2 : Int) := of_decide_eq_true (by first | (with_reducible assumption) | assumption)
                      have q577 : x18_2 < (l1.length : Int) := of_decide_eq_true (by first | (with_reducible assumption) | assumption)
                      obtain ⟨ad577, e577, hx577_0⟩ := Kd.at_int HR1.out x18_2 p577 q577
                      cases e577
                      replace p577 := eq_true p577
                      replace q577 := eq_true q577
                      go_wp2
                      go_roundg k2
                      case measure => have := HJ2.out; have := HK2.out; omega
                      case rel => exact ⟨(Go.bits .or .i64 (wrap64 (x7_2 * 256)) (wrap64 (rd l1 x18_2))), (wrap64 (x18_2 + 1)), (by first | rfl | (simp; done) | (simp [*]; done)), (by first | rfl | (simp; done) | (simp [*]; done)), H', ⟨by have := HJ2.out; have := HK2.out; omega⟩, by repeat (first | exact Drawn0.refl _ | apply Drawn0.step)⟩
                  · rw [if_neg c9] at H
                    have c9b0 : ((rd l1 x18_2) == x6_2) = false := beq_eq_false_iff_ne.mpr c9
                    have c9b1 : ((rd l1 x18_2) != x6_2) = true := bne_iff_ne.mpr c9
                    simp only [Option.some.injEq, Prod.mk.injEq] at H
                    obtain ⟨rfl, rfl⟩ := H
                    have p577 : 0 ≤ (x18_2 : Int) := of_decide_eq_true (by first | (with_reducible assumption) | assumption)
                    have q577 : x18_2 < (l1.length : Int) := of_decide_eq_true (by first | (with_reducible assumption) | assumption)
                    obtain ⟨ad577, e577, hx577_0⟩ := Kd.at_int HR1.out x18_2 p577 q577
                    cases e577
                    replace p577 := eq_true p577
                    replace q577 := eq_true q577
                    go_wp2
                    go_ret2
                    exact ⟨by first | rfl | (simp; done) | (simp [*]; done), by repeat (first | exact Drawn0.refl _ | apply Drawn0.step)⟩
                · rw [if_neg c8] at H
                  have c8b0 : decide (8 < (wrap64 ((l1.length : Int) - x18_2))) = false := decide_eq_false c8
                  clear c8
                  by_cases c12 : (wrap64 ((l1.length : Int) - x18_2)) = 8
                  · rw [if_pos c12] at H
                    have c12b0 : ((wrap64 ((l1.length : Int) - x18_2)) == 8) = true := beq_iff_eq.mpr c12
                    have c12b1 : ((wrap64 ((l1.length : Int) - x18_2)) != 8) = false := bne_eq_false_iff_eq.mpr c12
                    clear c12
                    by_cases c13 : (Go.bits .and .u8 (Go.bits .xor .u8 (rd l1 x18_2) x6_2) 128) = 0
                    · rw [if_pos c13] at H
                      have c13b0 : ((Go.bits .and .u8 (Go.bits .xor .u8 (rd l1 x18_2) x6_2) 128) == 0) = true := beq_iff_eq.mpr c13
                      have c13b1 : ((Go.bits .and .u8 (Go.bits .xor .u8 (rd l1 x18_2) x6_2) 128) != 0) = false := bne_eq_false_iff_eq.mpr c13
                      clear c13
                      have H' := Aside0.mk H
                      clear H
                      have p577 : 0 ≤ (x18_2 : Int) := of_decide_eq_true (by first | (with_reducible assumption) | assumption)
                      have q577 : x18_2 < (l1.length : Int) := of_decide_eq_true (by first | (with_reducible assumption) | assumption)
                      obtain ⟨ad577, e577, hx577_0⟩ := Kd.at_int HR1.out x18_2 p577 q577
                      cases e577
                      replace p577 := eq_true p577
                      replace q577 := eq_true q577
                      go_wp2
                      go_roundg k2
                      case measure => have := HJ2.out; have := HK2.out; omega
                      case rel => exact ⟨(Go.bits .or .i64 (wrap64 (x7_2 * 256)) (wrap64 (rd l1 x18_2))), (wrap64 (x18_2 + 1)), (by first | rfl | (simp; done) | (simp [*]; done)), (by first | rfl | (simp; done) | (simp [*]; done)), H', ⟨by have := HJ2.out; have := HK2.out; omega⟩, by repeat (first | exact Drawn0.refl _ | apply Drawn0.step)⟩
                    · rw [if_neg c13] at H
                      have c13b0 : ((Go.bits .and .u8 (Go.bits .xor .u8 (rd l1 x18_2) x6_2) 128) == 0) = false := beq_eq_false_iff_ne.mpr c13
                      have c13b1 : ((Go.bits .and .u8 (Go.bits .xor .u8 (rd l1 x18_2) x6_2) 128) != 0) = true := bne_iff_ne.mpr c13
                      simp only [Option.some.injEq, Prod.mk.injEq] at H
                      obtain ⟨rfl, rfl⟩ := H
                      have p577 : 0 ≤ (x18_2 : Int) := of_decide_eq_true (by first | (with_reducible assumption) | assumption)
                      have q577 : x18_2 < (l1.length : Int) := of_decide_eq_true (by first | (with_reducible assumption) | assumption)
                      obtain ⟨ad577, e577, hx577_0⟩ := Kd.at_int HR1.out x18_2 p577 q577
                      cases e577
                      replace p577 := eq_true p577
                      replace q577 := eq_true q577
                      go_wp2
                      go_ret2
                      exact ⟨by first | rfl | (simp; done) | (simp [*]; done), by repeat (first | exact Drawn0.refl _ | apply Drawn0.step)⟩
                  · rw [if_neg c12] at H
                    have c12b0 : ((wrap64 ((l1.length : Int) - x18_2)) == 8) = false := beq_eq_false_iff_ne.mpr c12
                    have c12b1 : ((wrap64 ((l1.length : Int) - x18_2)) != 8) = true := bne_iff_ne.mpr c12
                    have H' := Aside0.mk H
                    clear H
                    have p577 : 0 ≤ (x18_2 : Int) := of_decide_eq_true (by first | (with_reducible assumption) | assumption)
                    have q577 : x18_2 < (l1.length : Int) := of_decide_eq_true (by first | (with_reducible assumption) | assumption)
                    obtain ⟨ad577, e577, hx577_0⟩ := Kd.at_int HR1.out x18_2 p577 q577
                    cases e577
                    replace p577 := eq_true p577
                    replace q577 := eq_true q577
                    go_wp2
                    go_roundg k2
                    case measure => have := HJ2.out; have := HK2.out; omega
                    case rel => exact ⟨(Go.bits .or .i64 (wrap64 (x7_2 * 256)) (wrap64 (rd l1 x18_2))), (wrap64 (x18_2 + 1)), (by first | rfl | (simp; done) | (simp [*]; done)), (by first | rfl | (simp; done) | (simp [*]; done)), H', ⟨by have := HJ2.out; have := HK2.out; omega⟩, by repeat (first | exact Drawn0.refl _ | apply Drawn0.step)⟩
              · rw [if_neg c7] at H
                exact absurd H (by simp)
            · rw [if_neg c6] at H
              exact absurd H (by simp)
          · rw [if_neg c5] at H
            have c5b0 : decide (x18_2 < (l1.length : Int)) = false := decide_eq_false c5
            clear c5
            simp only [Option.some.injEq, Prod.mk.injEq] at H
            obtain ⟨rfl, rfl⟩ := H
            go_wp2
            go_ret2
            exact ⟨by first | rfl | (simp; done) | (simp [*]; done), by repeat (first | exact Drawn0.refl _ | apply Drawn0.step)⟩

end Go.Proofs.YtpjanlpjjemenaaDoor.P
