-- Written by xprint.py (a program of this session's, over the kit's printer) out of the translation. Not trusted: Lean checks it.
import Derived.Test.YtpjanlpjjemenaaDoorF0base
import Derived.Test.YtpjanlpjjemenaaDoorF108
import Derived.Test.YtpjanlpjjemenaaDoorHLess
namespace Go.Proofs.YtpjanlpjjemenaaDoor.P
open Go.RowKit Go.Proofs.YtpjanlpjjemenaaDoorW.PrintWords Go.Proofs.YtpjanlpjjemenaaDoorW.PrintLast Go.Proofs.YtpjanlpjjemenaaDoorW.PrintMore Go.Proofs.YtpjanlpjjemenaaDoor.Hand
attribute [local go_sem] max2_int min2_int max_two min_two max_three min_three max_four min_four   -- for this text's walks alone
set_option linter.unusedVariables false
set_option linter.unusedSimpArgs false

/-! ### globs_fits: function 83 -/
mutual
def globs_fits.l0 : Nat → ByteArray → ByteArray → ByteArray → ByteArray → Bool → Option (Bool)
  | 0, _, _, _, _, _ => none
  | k + 1, x0, x1, x5, x6, x7 => if x0.toList = ([] : List UInt8) then (globs_fits.j1 k x0 x1 x5 x6 x7 false) else (if 0 < (x0.size : Int) then (globs_fits.j1 k x0 x1 x5 x6 x7 ((bt x0 0) == 42)) else (none))
def globs_fits.j1 : Nat → ByteArray → ByteArray → ByteArray → ByteArray → Bool → Bool → Option (Bool)
  | 0, _, _, _, _, _, _ => none
  | k + 1, x0, x1, x5, x6, x7, x10 => if x10 = true then (if 1 ≤ (x0.size : Int) then (globs_fits.l0 k (x0.extract 1 x0.size) x1 (x0.extract 1 x0.size) x1 true) else (none)) else (if x0.toList = ([] : List UInt8) then (globs_fits.j2 k x0 x1 x5 x6 x7 false) else (globs_fits.j2 k x0 x1 x5 x6 x7 (x1.toList != ([] : List UInt8))))
def globs_fits.j2 : Nat → ByteArray → ByteArray → ByteArray → ByteArray → Bool → Bool → Option (Bool)
  | 0, _, _, _, _, _, _ => none
  | k + 1, x0, x1, x5, x6, x7, x22 => if x22 = true then (if 0 < (x1.size : Int) then ((globs_first.f x0 (bt x1 0)).bind fun bt455 => (if bt455.2 = true then (if 0 ≤ bt455.1 then (if bt455.1 ≤ (x0.size : Int) then (if 1 ≤ (x1.size : Int) then (globs_fits.l0 k (x0.extract (bt455.1 : Int).toNat x0.size) (x1.extract 1 x1.size) x5 x6 x7) else (none)) else (none)) else (none)) else (if x7 = true then (if x6.toList = ([] : List UInt8) then (some false) else (if 1 ≤ (x6.size : Int) then (globs_fits.l0 k x5 (x6.extract 1 x6.size) x5 (x6.extract 1 x6.size) x7) else (none))) else (some false)))) else (none)) else (if x0.toList = ([] : List UInt8) then (globs_fits.j3 k x5 x6 x7 (x1.toList == ([] : List UInt8))) else (globs_fits.j3 k x5 x6 x7 false))
def globs_fits.j3 : Nat → ByteArray → ByteArray → Bool → Bool → Option (Bool)
  | 0, _, _, _, _ => none
  | k + 1, x5, x6, x7, x42 => if x42 = true then (some true) else (if x7 = true then (if x6.toList = ([] : List UInt8) then (some false) else (if 1 ≤ (x6.size : Int) then (globs_fits.l0 k x5 (x6.extract 1 x6.size) x5 (x6.extract 1 x6.size) x7) else (none))) else (some false))
end
def globs_fits.f (k : Nat) (a0 : ByteArray) (a1 : ByteArray) : Option (Bool) := globs_fits.l0 k a0 a1 (⟨#[]⟩ : ByteArray) (⟨#[]⟩ : ByteArray) false
theorem globs_fits.mono_l : ∀ k, (∀ y0 y1 y2 y3 y4, LeO (globs_fits.l0 k y0 y1 y2 y3 y4) (globs_fits.l0 (k + 1) y0 y1 y2 y3 y4)) ∧ (∀ y0 y1 y2 y3 y4 y5, LeO (globs_fits.j1 k y0 y1 y2 y3 y4 y5) (globs_fits.j1 (k + 1) y0 y1 y2 y3 y4 y5)) ∧ (∀ y0 y1 y2 y3 y4 y5, LeO (globs_fits.j2 k y0 y1 y2 y3 y4 y5) (globs_fits.j2 (k + 1) y0 y1 y2 y3 y4 y5)) ∧ (∀ y0 y1 y2 y3, LeO (globs_fits.j3 k y0 y1 y2 y3) (globs_fits.j3 (k + 1) y0 y1 y2 y3))
  | 0 => ⟨fun _ _ _ _ _ r h => by simp [globs_fits.l0] at h, fun _ _ _ _ _ _ r h => by simp [globs_fits.j1] at h, fun _ _ _ _ _ _ r h => by simp [globs_fits.j2] at h, fun _ _ _ _ r h => by simp [globs_fits.j3] at h⟩
  | k + 1 => by
    obtain ⟨ih0, ih1, ih2, ih3⟩ := globs_fits.mono_l k
    refine ⟨?_, ?_, ?_, ?_⟩
    · intro y0 y1 y2 y3 y4
      unfold globs_fits.l0
      repeat' first
      | (with_reducible exact ih0 _ _ _ _ _)
      | (with_reducible exact ih1 _ _ _ _ _ _)
      | (with_reducible exact ih2 _ _ _ _ _ _)
      | (with_reducible exact ih3 _ _ _ _)
      | (with_reducible exact LeO.refl _)
      | (with_reducible exact LeO.none _)
      | (with_reducible refine LeO.ite ?_ ?_)
      | (with_reducible refine LeO.bind ?_ (fun _ => ?_))
      | exact ih0 _ _ _ _ _
      | exact ih1 _ _ _ _ _ _
      | exact ih2 _ _ _ _ _ _
      | exact ih3 _ _ _ _
      | exact LeO.none _
      | refine LeO.ite ?_ ?_
      | refine LeO.bind ?_ (fun _ => ?_)
    · intro y0 y1 y2 y3 y4 y5
      unfold globs_fits.j1
      repeat' first
      | (with_reducible exact ih0 _ _ _ _ _)
      | (with_reducible exact ih1 _ _ _ _ _ _)
      | (with_reducible exact ih2 _ _ _ _ _ _)
      | (with_reducible exact ih3 _ _ _ _)
      | (with_reducible exact LeO.refl _)
      | (with_reducible exact LeO.none _)
      | (with_reducible refine LeO.ite ?_ ?_)
      | (with_reducible refine LeO.bind ?_ (fun _ => ?_))
      | exact ih0 _ _ _ _ _
      | exact ih1 _ _ _ _ _ _
      | exact ih2 _ _ _ _ _ _
      | exact ih3 _ _ _ _
      | exact LeO.none _
      | refine LeO.ite ?_ ?_
      | refine LeO.bind ?_ (fun _ => ?_)
    · intro y0 y1 y2 y3 y4 y5
      unfold globs_fits.j2
      repeat' first
      | (with_reducible exact ih0 _ _ _ _ _)
      | (with_reducible exact ih1 _ _ _ _ _ _)
      | (with_reducible exact ih2 _ _ _ _ _ _)
      | (with_reducible exact ih3 _ _ _ _)
      | (with_reducible exact LeO.refl _)
      | (with_reducible exact LeO.none _)
      | (with_reducible refine LeO.ite ?_ ?_)
      | (with_reducible refine LeO.bind ?_ (fun _ => ?_))
      | exact ih0 _ _ _ _ _
      | exact ih1 _ _ _ _ _ _
      | exact ih2 _ _ _ _ _ _
      | exact ih3 _ _ _ _
      | exact LeO.none _
      | refine LeO.ite ?_ ?_
      | refine LeO.bind ?_ (fun _ => ?_)
    · intro y0 y1 y2 y3
      unfold globs_fits.j3
      repeat' first
      | (with_reducible exact ih0 _ _ _ _ _)
      | (with_reducible exact ih1 _ _ _ _ _ _)
      | (with_reducible exact ih2 _ _ _ _ _ _)
      | (with_reducible exact ih3 _ _ _ _)
      | (with_reducible exact LeO.refl _)
      | (with_reducible exact LeO.none _)
      | (with_reducible refine LeO.ite ?_ ?_)
      | (with_reducible refine LeO.bind ?_ (fun _ => ?_))
      | exact ih0 _ _ _ _ _
      | exact ih1 _ _ _ _ _ _
      | exact ih2 _ _ _ _ _ _
      | exact ih3 _ _ _ _
      | exact LeO.none _
      | refine LeO.ite ?_ ?_
      | refine LeO.bind ?_ (fun _ => ?_)
theorem globs_fits.mono : ∀ a0 a1 k, LeO (globs_fits.f k a0 a1) (globs_fits.f (k + 1) a0 a1) := by
  intro a0 a1 k
  obtain ⟨ih0, ih1, ih2, ih3⟩ := globs_fits.mono_l k
  unfold globs_fits.f
  repeat' first
      | (with_reducible exact ih0 _ _ _ _ _)
      | (with_reducible exact ih1 _ _ _ _ _ _)
      | (with_reducible exact ih2 _ _ _ _ _ _)
      | (with_reducible exact ih3 _ _ _ _)
      | (with_reducible exact LeO.refl _)
      | (with_reducible exact LeO.none _)
      | (with_reducible refine LeO.ite ?_ ?_)
      | (with_reducible refine LeO.bind ?_ (fun _ => ?_))
      | exact ih0 _ _ _ _ _
      | exact ih1 _ _ _ _ _ _
      | exact ih2 _ _ _ _ _ _
      | exact ih3 _ _ _ _
      | exact LeO.none _
      | refine LeO.ite ?_ ?_
      | refine LeO.bind ?_ (fun _ => ?_)
set_option maxHeartbeats 8000000 in
set_option maxRecDepth 100000 in
theorem globs_fits.calls (k : Nat) (a0 : ByteArray) (a1 : ByteArray) (r : Bool) (w : World) (h : globs_fits.f k a0 a1 = some r) :
    Calls Tryd.prog 83 #[.string a0, .string a1] w fun e w' => e = .returned (.bool r) ∧ Drawn0 w w' := by
  have H : (globs_fits.l0 k a0 a1 (⟨#[]⟩ : ByteArray) (⟨#[]⟩ : ByteArray) false) = some r := h
  clear h
  have H' := Aside0.mk H
  clear H
  go_enter Tryd.func83, Tryd.ntmps83
  go_wp2
  repeat (go_quiet (fail); try go_wp2)
  go_loopg [0, 1, 5, 6, 7] k (fun kq v0 v1 v5 v6 v7 w' => ∃ (x0_1 : ByteArray) (x1_1 : ByteArray) (x5_1 : ByteArray) (x6_1 : ByteArray) (x7_1 : Bool), v0 = .string x0_1 ∧ v1 = .string x1_1 ∧ v5 = .string x5_1 ∧ v6 = .string x6_1 ∧ v7 = .bool x7_1 ∧ Aside0 (globs_fits.l0 kq x0_1 x1_1 x5_1 x6_1 x7_1 = some r) ∧ Aside0 (kq ≤ k) ∧ Drawn0 w w')
  case atStart => exact ⟨(a0), (a1), ((⟨#[]⟩ : ByteArray)), ((⟨#[]⟩ : ByteArray)), (false), (by first | rfl | (simp; done) | (simp [*]; done) | (simp only [bytes_ne, bytes_eq] <;> rfl)), (by first | rfl | (simp; done) | (simp [*]; done) | (simp only [bytes_ne, bytes_eq] <;> rfl)), (by first | rfl | (simp; done) | (simp [*]; done) | (simp only [bytes_ne, bytes_eq] <;> rfl)), (by first | rfl | (simp; done) | (simp [*]; done) | (simp only [bytes_ne, bytes_eq] <;> rfl)), (by first | rfl | (simp; done) | (simp [*]; done) | (simp only [bytes_ne, bytes_eq] <;> rfl)), H', ⟨Nat.le_refl _⟩, by repeat (first | exact Drawn0.refl _ | apply Drawn0.step)⟩
  case round =>
    clear H'
    try clear p2
    obtain ⟨x0_1, x1_1, x5_1, x6_1, x7_1, rfl, rfl, rfl, rfl, rfl, HA, HK1, ⟨m1, rfl⟩⟩ := hrel
    cases gk with
    | zero => exact absurd HA.out (by simp [globs_fits.l0])
    | succ k1 =>
      have H := HA.out
      clear HA
      simp only [globs_fits.l0] at H
      have HC3 := Aside0.mk H
      clear H
      go_upto_region 3 with (fail)
      repeat (go_quiet (fail); go_upto_region 3 with (fail))
      go_cut [10] (fun v10 wc => ∃ (kq : Nat) (x10_2 : Bool), v10 = .bool x10_2 ∧ Aside0 (globs_fits.j1 kq x0_1 x1_1 x5_1 x6_1 x7_1 x10_2 = some r) ∧ Aside0 (kq ≤ k1) ∧ Drawn0 w wc)
      case first =>
        have H := HC3.out
        clear HC3
        by_cases c4 : x0_1.toList = ([] : List UInt8)
        · rw [if_pos c4] at H
          have c4b0 : (x0_1.toList == ([] : List UInt8)) = true := beq_iff_eq.mpr c4
          have c4b1 : (x0_1.toList != ([] : List UInt8)) = false := bne_eq_false_iff_eq.mpr c4
          clear c4
          (first | rw [c4b0] | (simp only [i64_w, i32_w]; rw [c4b0]) | skip)
          have H' := Aside0.mk H
          clear H
          go_wp2
          repeat (go_quiet (fail); try go_wp2)
          go_meet
          case rel => exact ⟨_, (false), (by first | rfl | (simp; done) | (simp [*]; done) | (simp only [bytes_ne, bytes_eq] <;> rfl)), H', ⟨by have := HK1.out; first | omega | exact Nat.le_refl _⟩, by repeat (first | exact Drawn0.refl _ | apply Drawn0.step)⟩
        · rw [if_neg c4] at H
          have c4b0 : (x0_1.toList == ([] : List UInt8)) = false := beq_eq_false_iff_ne.mpr c4
          have c4b1 : (x0_1.toList != ([] : List UInt8)) = true := bne_iff_ne.mpr c4
          (first | rw [c4b0] | (simp only [i64_w, i32_w]; rw [c4b0]) | skip)
          by_cases c5 : 0 < (x0_1.size : Int)
          · rw [if_pos c5] at H
            have c5b0 : decide (0 < (x0_1.size : Int)) = true := decide_eq_true c5
            have c5b1 : decide (0 < x0_1.size) = true := decide_eq_true (by omega)
            clear c5
            have H' := Aside0.mk H
            clear H
            have p6 : 0 ≤ (0 : Int) := (by omega)
            have q6 : 0 < x0_1.size := (by have : (0 : Int) < (x0_1.size : Int) := of_decide_eq_true (by first | (with_reducible assumption) | assumption); omega)
            have hx6 : ∀ h : 0 < x0_1.size, ((x0_1[0]'h).toNat : Int) = bt x0_1 0 := bt_at x0_1 0
            clear p6
            have qi6 : (0 < (x0_1.size : Int)) = True := eq_true (of_decide_eq_true (by first | (with_reducible assumption) | assumption))
            replace q6 := eq_true q6
            go_wp2
            repeat (go_quiet (fail); try go_wp2)
            go_meet
            case rel => exact ⟨_, (((bt x0_1 0) == 42)), (by first | rfl | (simp; done) | (simp [*]; done) | (simp only [bytes_ne, bytes_eq] <;> rfl)), H', ⟨by have := HK1.out; first | omega | exact Nat.le_refl _⟩, by repeat (first | exact Drawn0.refl _ | apply Drawn0.step)⟩
          · rw [if_neg c5] at H
            exact absurd H (by simp)
      case rest =>
        clear HC3
        try clear p2
        try clear c4
        try clear c4b0
        try clear c4b1
        try clear c5
        try clear c5b0
        try clear c5b1
        try clear p6
        try clear q6
        try clear hx6
        try clear qi6
        try clear p2
        try clear p6
        try clear q6
        obtain ⟨kq, x10_2, rfl, HA, HJ2, ⟨mc2, rfl⟩⟩ := hcut
        cases kq with
        | zero => exact absurd HA.out (by simp [globs_fits.j1])
        | succ kj2 =>
          have H := HA.out
          clear HA
          simp only [globs_fits.j1] at H
          by_cases c7 : x10_2 = true
          · subst c7
            have H1 : (if 1 ≤ (x0_1.size : Int) then (globs_fits.l0 kj2 (x0_1.extract 1 x0_1.size) x1_1 (x0_1.extract 1 x0_1.size) x1_1 true) else (none)) = some r := by rw [if_pos rfl] at H; exact H
            clear H
            have H := H1
            clear H1
            by_cases c8 : 1 ≤ (x0_1.size : Int)
            · rw [if_pos c8] at H
              have c8b0 := eq_true c8
              have c8b1 : decide (1 ≤ (x0_1.size : Int)) = true := decide_eq_true c8
              clear c8
              have H' := Aside0.mk H
              clear H
              go_wp2
              repeat (go_quiet (fail); try go_wp2)
              go_roundg kj2
              case measure => have := HK1.out; have := HJ2.out; omega
              case rel => exact ⟨(x0_1.extract 1 x0_1.size), (x1_1), (x0_1.extract 1 x0_1.size), (x1_1), (true), (by first | rfl | (simp; done) | (simp [*]; done) | (simp only [bytes_ne, bytes_eq] <;> rfl)), (by first | rfl | (simp; done) | (simp [*]; done) | (simp only [bytes_ne, bytes_eq] <;> rfl)), (by first | rfl | (simp; done) | (simp [*]; done) | (simp only [bytes_ne, bytes_eq] <;> rfl)), (by first | rfl | (simp; done) | (simp [*]; done) | (simp only [bytes_ne, bytes_eq] <;> rfl)), (by first | rfl | (simp; done) | (simp [*]; done) | (simp only [bytes_ne, bytes_eq] <;> rfl)), H', ⟨by have := HK1.out; have := HJ2.out; omega⟩, by repeat (first | exact Drawn0.refl _ | apply Drawn0.step)⟩
            · rw [if_neg c8] at H
              exact absurd H (by simp)
          · replace c7 := Bool.eq_false_iff.mpr c7
            subst c7
            have H1 : (if x0_1.toList = ([] : List UInt8) then (globs_fits.j2 kj2 x0_1 x1_1 x5_1 x6_1 x7_1 false) else (globs_fits.j2 kj2 x0_1 x1_1 x5_1 x6_1 x7_1 (x1_1.toList != ([] : List UInt8)))) = some r := by rw [if_neg (show ¬ (false = true) by decide)] at H; exact H
            clear H
            have H := H1
            clear H1
            have HC9 := Aside0.mk H
            clear H
            go_upto_region 6 with (fail)
            repeat (go_quiet (fail); go_upto_region 6 with (fail))
            go_cut [22] (fun v22 wc => ∃ (kq : Nat) (x22_8 : Bool), v22 = .bool x22_8 ∧ Aside0 (globs_fits.j2 kq x0_1 x1_1 x5_1 x6_1 x7_1 x22_8 = some r) ∧ Aside0 (kq ≤ kj2) ∧ Drawn0 w wc)
            case first =>
              have H := HC9.out
              clear HC9
              by_cases c10 : x0_1.toList = ([] : List UInt8)
              · rw [if_pos c10] at H
                have c10b0 : (x0_1.toList == ([] : List UInt8)) = true := beq_iff_eq.mpr c10
                have c10b1 : (x0_1.toList != ([] : List UInt8)) = false := bne_eq_false_iff_eq.mpr c10
                clear c10
                (first | rw [c10b0] | (simp only [i64_w, i32_w]; rw [c10b0]) | skip)
                have H' := Aside0.mk H
                clear H
                go_wp2
                repeat (go_quiet (fail); try go_wp2)
                go_meet
                case rel => exact ⟨_, (false), (by first | rfl | (simp; done) | (simp [*]; done) | (simp only [bytes_ne, bytes_eq] <;> rfl)), H', ⟨by have := HK1.out; have := HJ2.out; first | omega | exact Nat.le_refl _⟩, by repeat (first | exact Drawn0.refl _ | apply Drawn0.step)⟩
              · rw [if_neg c10] at H
                have c10b0 : (x0_1.toList == ([] : List UInt8)) = false := beq_eq_false_iff_ne.mpr c10
                have c10b1 : (x0_1.toList != ([] : List UInt8)) = true := bne_iff_ne.mpr c10
                (first | rw [c10b0] | (simp only [i64_w, i32_w]; rw [c10b0]) | skip)
                have H' := Aside0.mk H
                clear H
                go_wp2
                repeat (go_quiet (fail); try go_wp2)
                go_meet
                case rel => exact ⟨_, ((x1_1.toList != ([] : List UInt8))), (by first | rfl | (simp; done) | (simp [*]; done) | (simp only [bytes_ne, bytes_eq] <;> rfl)), H', ⟨by have := HK1.out; have := HJ2.out; first | omega | exact Nat.le_refl _⟩, by repeat (first | exact Drawn0.refl _ | apply Drawn0.step)⟩
            case rest =>
              clear HC9
              try clear c1
              try clear c2
              try clear p2
              try clear c4
              try clear c4b0
              try clear c4b1
              try clear c5
              try clear c5b0
              try clear c5b1
              try clear p6
              try clear q6
              try clear hx6
              try clear qi6
              try clear c7
              try clear c8
              try clear c8b0
              try clear c8b1
              try clear c10
              try clear c10b0
              try clear c10b1
              try clear p2
              try clear p6
              try clear q6
              obtain ⟨kq, x22_8, rfl, HA, HJ8, ⟨mc8, rfl⟩⟩ := hcut
              cases kq with
              | zero => exact absurd HA.out (by simp [globs_fits.j2])
              | succ kj8 =>
                have H := HA.out
                clear HA
                simp only [globs_fits.j2] at H
                by_cases c11 : x22_8 = true
                · subst c11
                  have H1 : (if 0 < (x1_1.size : Int) then ((globs_first.f x0_1 (bt x1_1 0)).bind fun bt455 => (if bt455.2 = true then (if 0 ≤ bt455.1 then (if bt455.1 ≤ (x0_1.size : Int) then (if 1 ≤ (x1_1.size : Int) then (globs_fits.l0 kj8 (x0_1.extract (bt455.1 : Int).toNat x0_1.size) (x1_1.extract 1 x1_1.size) x5_1 x6_1 x7_1) else (none)) else (none)) else (none)) else (if x7_1 = true then (if x6_1.toList = ([] : List UInt8) then (some false) else (if 1 ≤ (x6_1.size : Int) then (globs_fits.l0 kj8 x5_1 (x6_1.extract 1 x6_1.size) x5_1 (x6_1.extract 1 x6_1.size) x7_1) else (none))) else (some false)))) else (none)) = some r := by rw [if_pos rfl] at H; exact H
                  clear H
                  have H := H1
                  clear H1
                  by_cases c12 : 0 < (x1_1.size : Int)
                  · rw [if_pos c12] at H
                    have c12b0 : decide (0 < (x1_1.size : Int)) = true := decide_eq_true c12
                    have c12b1 : decide (0 < x1_1.size) = true := decide_eq_true (by omega)
                    clear c12
                    replace H := Option.bind_eq_some_iff.mp H
                    obtain ⟨⟨t455, t456⟩, A140, H⟩ := H
                    replace H : (if t456 = true then (if 0 ≤ t455 then (if t455 ≤ (x0_1.size : Int) then (if 1 ≤ (x1_1.size : Int) then (globs_fits.l0 kj8 (x0_1.extract (t455 : Int).toNat x0_1.size) (x1_1.extract 1 x1_1.size) x5_1 x6_1 x7_1) else (none)) else (none)) else (none)) else (if x7_1 = true then (if x6_1.toList = ([] : List UInt8) then (some false) else (if 1 ≤ (x6_1.size : Int) then (globs_fits.l0 kj8 x5_1 (x6_1.extract 1 x6_1.size) x5_1 (x6_1.extract 1 x6_1.size) x7_1) else (none))) else (some false))) = some r := H
                    have A14 := Aside0.mk A140
                    clear A140
                    by_cases c15 : t456 = true
                    · subst c15
                      have H1 : (if 0 ≤ t455 then (if t455 ≤ (x0_1.size : Int) then (if 1 ≤ (x1_1.size : Int) then (globs_fits.l0 kj8 (x0_1.extract (t455 : Int).toNat x0_1.size) (x1_1.extract 1 x1_1.size) x5_1 x6_1 x7_1) else (none)) else (none)) else (none)) = some r := by rw [if_pos rfl] at H; exact H
                      clear H
                      have H := H1
                      clear H1
                      by_cases c16 : 0 ≤ t455
                      · rw [if_pos c16] at H
                        have c16b0 := eq_true c16
                        have c16b1 : decide (0 ≤ t455) = true := decide_eq_true c16
                        clear c16
                        by_cases c17 : t455 ≤ (x0_1.size : Int)
                        · rw [if_pos c17] at H
                          have c17b0 := eq_true c17
                          have c17b1 : decide (t455 ≤ (x0_1.size : Int)) = true := decide_eq_true c17
                          clear c17
                          by_cases c18 : 1 ≤ (x1_1.size : Int)
                          · rw [if_pos c18] at H
                            have c18b0 := eq_true c18
                            have c18b1 : decide (1 ≤ (x1_1.size : Int)) = true := decide_eq_true c18
                            clear c18
                            have H' := Aside0.mk H
                            clear H
                            have p13 : 0 ≤ (0 : Int) := (by omega)
                            have q13 : 0 < x1_1.size := (by have : (0 : Int) < (x1_1.size : Int) := of_decide_eq_true (by first | (with_reducible assumption) | assumption); omega)
                            have hx13 : ∀ h : 0 < x1_1.size, ((x1_1[0]'h).toNat : Int) = bt x1_1 0 := bt_at x1_1 0
                            clear p13
                            have qi13 : (0 < (x1_1.size : Int)) = True := eq_true (of_decide_eq_true (by first | (with_reducible assumption) | assumption))
                            replace q13 := eq_true q13
                            go_wp2_with (first | (go_at_call 108; (with_reducible refine (globs_first.calls x0_1 (bt x1_1 0) t455 true _ A14.out).mono ?_); rintro e w' ⟨rfl, ⟨nd, rfl⟩⟩; (try first | exact ⟨rfl, _, World.drewN_drewN _ _ _⟩ | exact ⟨rfl, _, Eq.trans (World.drewN_drewN _ _ _) (congrArg (World.drewN _) (Nat.add_assoc _ _ _))⟩)))
                            repeat (go_quiet (first | (go_at_call 108; (with_reducible refine (globs_first.calls x0_1 (bt x1_1 0) t455 true _ A14.out).mono ?_); rintro e w' ⟨rfl, ⟨nd, rfl⟩⟩; (try first | exact ⟨rfl, _, World.drewN_drewN _ _ _⟩ | exact ⟨rfl, _, Eq.trans (World.drewN_drewN _ _ _) (congrArg (World.drewN _) (Nat.add_assoc _ _ _))⟩))); try go_wp2_with (first | (go_at_call 108; (with_reducible refine (globs_first.calls x0_1 (bt x1_1 0) t455 true _ A14.out).mono ?_); rintro e w' ⟨rfl, ⟨nd, rfl⟩⟩; (try first | exact ⟨rfl, _, World.drewN_drewN _ _ _⟩ | exact ⟨rfl, _, Eq.trans (World.drewN_drewN _ _ _) (congrArg (World.drewN _) (Nat.add_assoc _ _ _))⟩))))
                            go_roundg kj8
                            case measure => have := HK1.out; have := HJ2.out; have := HJ8.out; omega
                            case rel => exact ⟨(x0_1.extract (t455 : Int).toNat x0_1.size), (x1_1.extract 1 x1_1.size), (x5_1), (x6_1), (x7_1), (by first | rfl | (simp; done) | (simp [*]; done) | (simp only [bytes_ne, bytes_eq] <;> rfl)), (by first | rfl | (simp; done) | (simp [*]; done) | (simp only [bytes_ne, bytes_eq] <;> rfl)), (by first | rfl | (simp; done) | (simp [*]; done) | (simp only [bytes_ne, bytes_eq] <;> rfl)), (by first | rfl | (simp; done) | (simp [*]; done) | (simp only [bytes_ne, bytes_eq] <;> rfl)), (by first | rfl | (simp; done) | (simp [*]; done) | (simp only [bytes_ne, bytes_eq] <;> rfl)), H', ⟨by have := HK1.out; have := HJ2.out; have := HJ8.out; omega⟩, by repeat (first | exact Drawn0.refl _ | apply Drawn0.step)⟩
                          · rw [if_neg c18] at H
                            exact absurd H (by simp)
                        · rw [if_neg c17] at H
                          exact absurd H (by simp)
                      · rw [if_neg c16] at H
                        exact absurd H (by simp)
                    · replace c15 := Bool.eq_false_iff.mpr c15
                      subst c15
                      have H1 : (if x7_1 = true then (if x6_1.toList = ([] : List UInt8) then (some false) else (if 1 ≤ (x6_1.size : Int) then (globs_fits.l0 kj8 x5_1 (x6_1.extract 1 x6_1.size) x5_1 (x6_1.extract 1 x6_1.size) x7_1) else (none))) else (some false)) = some r := by rw [if_neg (show ¬ (false = true) by decide)] at H; exact H
                      clear H
                      have H := H1
                      clear H1
                      by_cases c19 : x7_1 = true
                      · subst c19
                        have H1 : (if x6_1.toList = ([] : List UInt8) then (some false) else (if 1 ≤ (x6_1.size : Int) then (globs_fits.l0 kj8 x5_1 (x6_1.extract 1 x6_1.size) x5_1 (x6_1.extract 1 x6_1.size) true) else (none))) = some r := by rw [if_pos rfl] at H; exact H
                        clear H
                        have H := H1
                        clear H1
                        by_cases c20 : x6_1.toList = ([] : List UInt8)
                        · rw [if_pos c20] at H
                          have c20b0 : (x6_1.toList == ([] : List UInt8)) = true := beq_iff_eq.mpr c20
                          have c20b1 : (x6_1.toList != ([] : List UInt8)) = false := bne_eq_false_iff_eq.mpr c20
                          clear c20
                          obtain rfl := Option.some.inj H
                          have p13 : 0 ≤ (0 : Int) := (by omega)
                          have q13 : 0 < x1_1.size := (by have : (0 : Int) < (x1_1.size : Int) := of_decide_eq_true (by first | (with_reducible assumption) | assumption); omega)
                          have hx13 : ∀ h : 0 < x1_1.size, ((x1_1[0]'h).toNat : Int) = bt x1_1 0 := bt_at x1_1 0
                          clear p13
                          have qi13 : (0 < (x1_1.size : Int)) = True := eq_true (of_decide_eq_true (by first | (with_reducible assumption) | assumption))
                          replace q13 := eq_true q13
                          go_wp2_with (first | (go_at_call 108; (with_reducible refine (globs_first.calls x0_1 (bt x1_1 0) t455 false _ A14.out).mono ?_); rintro e w' ⟨rfl, ⟨nd, rfl⟩⟩; (try first | exact ⟨rfl, _, World.drewN_drewN _ _ _⟩ | exact ⟨rfl, _, Eq.trans (World.drewN_drewN _ _ _) (congrArg (World.drewN _) (Nat.add_assoc _ _ _))⟩)))
                          repeat (go_quiet (first | (go_at_call 108; (with_reducible refine (globs_first.calls x0_1 (bt x1_1 0) t455 false _ A14.out).mono ?_); rintro e w' ⟨rfl, ⟨nd, rfl⟩⟩; (try first | exact ⟨rfl, _, World.drewN_drewN _ _ _⟩ | exact ⟨rfl, _, Eq.trans (World.drewN_drewN _ _ _) (congrArg (World.drewN _) (Nat.add_assoc _ _ _))⟩))); try go_wp2_with (first | (go_at_call 108; (with_reducible refine (globs_first.calls x0_1 (bt x1_1 0) t455 false _ A14.out).mono ?_); rintro e w' ⟨rfl, ⟨nd, rfl⟩⟩; (try first | exact ⟨rfl, _, World.drewN_drewN _ _ _⟩ | exact ⟨rfl, _, Eq.trans (World.drewN_drewN _ _ _) (congrArg (World.drewN _) (Nat.add_assoc _ _ _))⟩))))
                          go_ret
                          exact ⟨by first | rfl | (simp; done) | (simp [*]; done) | (simp only [bytes_ne, bytes_eq] <;> rfl), by repeat (first | exact Drawn0.refl _ | apply Drawn0.step)⟩
                        · rw [if_neg c20] at H
                          have c20b0 : (x6_1.toList == ([] : List UInt8)) = false := beq_eq_false_iff_ne.mpr c20
                          have c20b1 : (x6_1.toList != ([] : List UInt8)) = true := bne_iff_ne.mpr c20
                          by_cases c21 : 1 ≤ (x6_1.size : Int)
                          · rw [if_pos c21] at H
                            have c21b0 := eq_true c21
                            have c21b1 : decide (1 ≤ (x6_1.size : Int)) = true := decide_eq_true c21
                            clear c21
                            have H' := Aside0.mk H
                            clear H
                            have p13 : 0 ≤ (0 : Int) := (by omega)
                            have q13 : 0 < x1_1.size := (by have : (0 : Int) < (x1_1.size : Int) := of_decide_eq_true (by first | (with_reducible assumption) | assumption); omega)
                            have hx13 : ∀ h : 0 < x1_1.size, ((x1_1[0]'h).toNat : Int) = bt x1_1 0 := bt_at x1_1 0
                            clear p13
                            have qi13 : (0 < (x1_1.size : Int)) = True := eq_true (of_decide_eq_true (by first | (with_reducible assumption) | assumption))
                            replace q13 := eq_true q13
                            go_wp2_with (first | (go_at_call 108; (with_reducible refine (globs_first.calls x0_1 (bt x1_1 0) t455 false _ A14.out).mono ?_); rintro e w' ⟨rfl, ⟨nd, rfl⟩⟩; (try first | exact ⟨rfl, _, World.drewN_drewN _ _ _⟩ | exact ⟨rfl, _, Eq.trans (World.drewN_drewN _ _ _) (congrArg (World.drewN _) (Nat.add_assoc _ _ _))⟩)))
                            repeat (go_quiet (first | (go_at_call 108; (with_reducible refine (globs_first.calls x0_1 (bt x1_1 0) t455 false _ A14.out).mono ?_); rintro e w' ⟨rfl, ⟨nd, rfl⟩⟩; (try first | exact ⟨rfl, _, World.drewN_drewN _ _ _⟩ | exact ⟨rfl, _, Eq.trans (World.drewN_drewN _ _ _) (congrArg (World.drewN _) (Nat.add_assoc _ _ _))⟩))); try go_wp2_with (first | (go_at_call 108; (with_reducible refine (globs_first.calls x0_1 (bt x1_1 0) t455 false _ A14.out).mono ?_); rintro e w' ⟨rfl, ⟨nd, rfl⟩⟩; (try first | exact ⟨rfl, _, World.drewN_drewN _ _ _⟩ | exact ⟨rfl, _, Eq.trans (World.drewN_drewN _ _ _) (congrArg (World.drewN _) (Nat.add_assoc _ _ _))⟩))))
                            go_roundg kj8
                            case measure => have := HK1.out; have := HJ2.out; have := HJ8.out; omega
                            case rel => exact ⟨(x5_1), (x6_1.extract 1 x6_1.size), (x5_1), (x6_1.extract 1 x6_1.size), (true), (by first | rfl | (simp; done) | (simp [*]; done) | (simp only [bytes_ne, bytes_eq] <;> rfl)), (by first | rfl | (simp; done) | (simp [*]; done) | (simp only [bytes_ne, bytes_eq] <;> rfl)), (by first | rfl | (simp; done) | (simp [*]; done) | (simp only [bytes_ne, bytes_eq] <;> rfl)), (by first | rfl | (simp; done) | (simp [*]; done) | (simp only [bytes_ne, bytes_eq] <;> rfl)), (by first | rfl | (simp; done) | (simp [*]; done) | (simp only [bytes_ne, bytes_eq] <;> rfl)), H', ⟨by have := HK1.out; have := HJ2.out; have := HJ8.out; omega⟩, by repeat (first | exact Drawn0.refl _ | apply Drawn0.step)⟩
                          · rw [if_neg c21] at H
                            exact absurd H (by simp)
                      · replace c19 := Bool.eq_false_iff.mpr c19
                        subst c19
                        have H1 : (some false) = some r := by rw [if_neg (show ¬ (false = true) by decide)] at H; exact H
                        clear H
                        have H := H1
                        clear H1
                        obtain rfl := Option.some.inj H
                        have p13 : 0 ≤ (0 : Int) := (by omega)
                        have q13 : 0 < x1_1.size := (by have : (0 : Int) < (x1_1.size : Int) := of_decide_eq_true (by first | (with_reducible assumption) | assumption); omega)
                        have hx13 : ∀ h : 0 < x1_1.size, ((x1_1[0]'h).toNat : Int) = bt x1_1 0 := bt_at x1_1 0
                        clear p13
                        have qi13 : (0 < (x1_1.size : Int)) = True := eq_true (of_decide_eq_true (by first | (with_reducible assumption) | assumption))
                        replace q13 := eq_true q13
                        go_wp2_with (first | (go_at_call 108; (with_reducible refine (globs_first.calls x0_1 (bt x1_1 0) t455 false _ A14.out).mono ?_); rintro e w' ⟨rfl, ⟨nd, rfl⟩⟩; (try first | exact ⟨rfl, _, World.drewN_drewN _ _ _⟩ | exact ⟨rfl, _, Eq.trans (World.drewN_drewN _ _ _) (congrArg (World.drewN _) (Nat.add_assoc _ _ _))⟩)))
                        repeat (go_quiet (first | (go_at_call 108; (with_reducible refine (globs_first.calls x0_1 (bt x1_1 0) t455 false _ A14.out).mono ?_); rintro e w' ⟨rfl, ⟨nd, rfl⟩⟩; (try first | exact ⟨rfl, _, World.drewN_drewN _ _ _⟩ | exact ⟨rfl, _, Eq.trans (World.drewN_drewN _ _ _) (congrArg (World.drewN _) (Nat.add_assoc _ _ _))⟩))); try go_wp2_with (first | (go_at_call 108; (with_reducible refine (globs_first.calls x0_1 (bt x1_1 0) t455 false _ A14.out).mono ?_); rintro e w' ⟨rfl, ⟨nd, rfl⟩⟩; (try first | exact ⟨rfl, _, World.drewN_drewN _ _ _⟩ | exact ⟨rfl, _, Eq.trans (World.drewN_drewN _ _ _) (congrArg (World.drewN _) (Nat.add_assoc _ _ _))⟩))))
                        go_ret
                        exact ⟨by first | rfl | (simp; done) | (simp [*]; done) | (simp only [bytes_ne, bytes_eq] <;> rfl), by repeat (first | exact Drawn0.refl _ | apply Drawn0.step)⟩
                  · rw [if_neg c12] at H
                    exact absurd H (by simp)
                · replace c11 := Bool.eq_false_iff.mpr c11
                  subst c11
                  have H1 : (if x0_1.toList = ([] : List UInt8) then (globs_fits.j3 kj8 x5_1 x6_1 x7_1 (x1_1.toList == ([] : List UInt8))) else (globs_fits.j3 kj8 x5_1 x6_1 x7_1 false)) = some r := by rw [if_neg (show ¬ (false = true) by decide)] at H; exact H
                  clear H
                  have H := H1
                  clear H1
                  have HC22 := Aside0.mk H
                  clear H
                  go_upto_region 10 with (fail)
                  repeat (go_quiet (fail); go_upto_region 10 with (fail))
                  go_cut [42] (fun v42 wc => ∃ (kq : Nat) (x42_21 : Bool), v42 = .bool x42_21 ∧ Aside0 (globs_fits.j3 kq x5_1 x6_1 x7_1 x42_21 = some r) ∧ Aside0 (kq ≤ kj8) ∧ Drawn0 w wc)
                  case first =>
                    have H := HC22.out
                    clear HC22
                    by_cases c23 : x0_1.toList = ([] : List UInt8)
                    · rw [if_pos c23] at H
                      have c23b0 : (x0_1.toList == ([] : List UInt8)) = true := beq_iff_eq.mpr c23
                      have c23b1 : (x0_1.toList != ([] : List UInt8)) = false := bne_eq_false_iff_eq.mpr c23
                      clear c23
                      (first | rw [c23b0] | (simp only [i64_w, i32_w]; rw [c23b0]) | skip)
                      have H' := Aside0.mk H
                      clear H
                      go_wp2
                      repeat (go_quiet (fail); try go_wp2)
                      go_meet
                      case rel => exact ⟨_, ((x1_1.toList == ([] : List UInt8))), (by first | rfl | (simp; done) | (simp [*]; done) | (simp only [bytes_ne, bytes_eq] <;> rfl)), H', ⟨by have := HK1.out; have := HJ2.out; have := HJ8.out; first | omega | exact Nat.le_refl _⟩, by repeat (first | exact Drawn0.refl _ | apply Drawn0.step)⟩
                    · rw [if_neg c23] at H
                      have c23b0 : (x0_1.toList == ([] : List UInt8)) = false := beq_eq_false_iff_ne.mpr c23
                      have c23b1 : (x0_1.toList != ([] : List UInt8)) = true := bne_iff_ne.mpr c23
                      (first | rw [c23b0] | (simp only [i64_w, i32_w]; rw [c23b0]) | skip)
                      have H' := Aside0.mk H
                      clear H
                      go_wp2
                      repeat (go_quiet (fail); try go_wp2)
                      go_meet
                      case rel => exact ⟨_, (false), (by first | rfl | (simp; done) | (simp [*]; done) | (simp only [bytes_ne, bytes_eq] <;> rfl)), H', ⟨by have := HK1.out; have := HJ2.out; have := HJ8.out; first | omega | exact Nat.le_refl _⟩, by repeat (first | exact Drawn0.refl _ | apply Drawn0.step)⟩
                  case rest =>
                    clear HC22
                    try clear c1
                    try clear p1
                    try clear q1
                    try clear hx1
                    try clear qi1
                    try clear c2
                    try clear p2
                    try clear c4
                    try clear c4b0
                    try clear c4b1
                    try clear c5
                    try clear c5b0
                    try clear c5b1
                    try clear p6
                    try clear q6
                    try clear hx6
                    try clear qi6
                    try clear c7
                    try clear c8
                    try clear c8b0
                    try clear c8b1
                    try clear c10
                    try clear c10b0
                    try clear c10b1
                    try clear c11
                    try clear c12
                    try clear c12b0
                    try clear c12b1
                    try clear p13
                    try clear q13
                    try clear hx13
                    try clear qi13
                    try clear c15
                    try clear c16
                    try clear c16b0
                    try clear c16b1
                    try clear c17
                    try clear c17b0
                    try clear c17b1
                    try clear c18
                    try clear c18b0
                    try clear c18b1
                    try clear c19
                    try clear c20
                    try clear c20b0
                    try clear c20b1
                    try clear c21
                    try clear c21b0
                    try clear c21b1
                    try clear c23
                    try clear c23b0
                    try clear c23b1
                    try clear p13
                    try clear p2
                    try clear p6
                    try clear q13
                    try clear q6
                    obtain ⟨kq, x42_21, rfl, HA, HJ21, ⟨mc21, rfl⟩⟩ := hcut
                    cases kq with
                    | zero => exact absurd HA.out (by simp [globs_fits.j3])
                    | succ kj21 =>
                      have H := HA.out
                      clear HA
                      simp only [globs_fits.j3] at H
                      by_cases c24 : x42_21 = true
                      · subst c24
                        have H1 : (some true) = some r := by rw [if_pos rfl] at H; exact H
                        clear H
                        have H := H1
                        clear H1
                        obtain rfl := Option.some.inj H
                        go_wp2
                        repeat (go_quiet (fail); try go_wp2)
                        go_ret
                        exact ⟨by first | rfl | (simp; done) | (simp [*]; done) | (simp only [bytes_ne, bytes_eq] <;> rfl), by repeat (first | exact Drawn0.refl _ | apply Drawn0.step)⟩
                      · replace c24 := Bool.eq_false_iff.mpr c24
                        subst c24
                        have H1 : (if x7_1 = true then (if x6_1.toList = ([] : List UInt8) then (some false) else (if 1 ≤ (x6_1.size : Int) then (globs_fits.l0 kj21 x5_1 (x6_1.extract 1 x6_1.size) x5_1 (x6_1.extract 1 x6_1.size) x7_1) else (none))) else (some false)) = some r := by rw [if_neg (show ¬ (false = true) by decide)] at H; exact H
                        clear H
                        have H := H1
                        clear H1
                        by_cases c25 : x7_1 = true
                        · subst c25
                          have H1 : (if x6_1.toList = ([] : List UInt8) then (some false) else (if 1 ≤ (x6_1.size : Int) then (globs_fits.l0 kj21 x5_1 (x6_1.extract 1 x6_1.size) x5_1 (x6_1.extract 1 x6_1.size) true) else (none))) = some r := by rw [if_pos rfl] at H; exact H
                          clear H
                          have H := H1
                          clear H1
                          by_cases c26 : x6_1.toList = ([] : List UInt8)
                          · rw [if_pos c26] at H
                            have c26b0 : (x6_1.toList == ([] : List UInt8)) = true := beq_iff_eq.mpr c26
                            have c26b1 : (x6_1.toList != ([] : List UInt8)) = false := bne_eq_false_iff_eq.mpr c26
                            clear c26
                            obtain rfl := Option.some.inj H
                            go_wp2
                            repeat (go_quiet (fail); try go_wp2)
                            go_ret
                            exact ⟨by first | rfl | (simp; done) | (simp [*]; done) | (simp only [bytes_ne, bytes_eq] <;> rfl), by repeat (first | exact Drawn0.refl _ | apply Drawn0.step)⟩
                          · rw [if_neg c26] at H
                            have c26b0 : (x6_1.toList == ([] : List UInt8)) = false := beq_eq_false_iff_ne.mpr c26
                            have c26b1 : (x6_1.toList != ([] : List UInt8)) = true := bne_iff_ne.mpr c26
                            by_cases c27 : 1 ≤ (x6_1.size : Int)
                            · rw [if_pos c27] at H
                              have c27b0 := eq_true c27
                              have c27b1 : decide (1 ≤ (x6_1.size : Int)) = true := decide_eq_true c27
                              clear c27
                              have H' := Aside0.mk H
                              clear H
                              go_wp2
                              repeat (go_quiet (fail); try go_wp2)
                              go_roundg kj21
                              case measure => have := HK1.out; have := HJ2.out; have := HJ8.out; have := HJ21.out; omega
                              case rel => exact ⟨(x5_1), (x6_1.extract 1 x6_1.size), (x5_1), (x6_1.extract 1 x6_1.size), (true), (by first | rfl | (simp; done) | (simp [*]; done) | (simp only [bytes_ne, bytes_eq] <;> rfl)), (by first | rfl | (simp; done) | (simp [*]; done) | (simp only [bytes_ne, bytes_eq] <;> rfl)), (by first | rfl | (simp; done) | (simp [*]; done) | (simp only [bytes_ne, bytes_eq] <;> rfl)), (by first | rfl | (simp; done) | (simp [*]; done) | (simp only [bytes_ne, bytes_eq] <;> rfl)), (by first | rfl | (simp; done) | (simp [*]; done) | (simp only [bytes_ne, bytes_eq] <;> rfl)), H', ⟨by have := HK1.out; have := HJ2.out; have := HJ8.out; have := HJ21.out; omega⟩, by repeat (first | exact Drawn0.refl _ | apply Drawn0.step)⟩
                            · rw [if_neg c27] at H
                              exact absurd H (by simp)
                        · replace c25 := Bool.eq_false_iff.mpr c25
                          subst c25
                          have H1 : (some false) = some r := by rw [if_neg (show ¬ (false = true) by decide)] at H; exact H
                          clear H
                          have H := H1
                          clear H1
                          obtain rfl := Option.some.inj H
                          go_wp2
                          repeat (go_quiet (fail); try go_wp2)
                          go_ret
                          exact ⟨by first | rfl | (simp; done) | (simp [*]; done) | (simp only [bytes_ne, bytes_eq] <;> rfl), by repeat (first | exact Drawn0.refl _ | apply Drawn0.step)⟩

end Go.Proofs.YtpjanlpjjemenaaDoor.P
