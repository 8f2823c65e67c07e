-- Written by xprint.py (a program of this session's, over the kit's printer) out of the translation. Not trusted: Lean checks it.
import Derived.Test.YtpjanlpjjemenaaDoorF0base
import Derived.Test.YtpjanlpjjemenaaDoorF37
import Derived.Test.YtpjanlpjjemenaaDoorF40
import Derived.Test.YtpjanlpjjemenaaDoorF53
import Derived.Test.YtpjanlpjjemenaaDoorF54
import Derived.Test.YtpjanlpjjemenaaDoorF56
import Derived.Test.YtpjanlpjjemenaaDoorF58
import Derived.Test.YtpjanlpjjemenaaDoorF59
import Derived.Test.YtpjanlpjjemenaaDoorHGlobs
namespace Go.Proofs.YtpjanlpjjemenaaDoor.P
open Go.RowKit Go.Proofs.YtpjanlpjjemenaaDoorW.PrintWords Go.Proofs.YtpjanlpjjemenaaDoorW.PrintLast Go.Proofs.YtpjanlpjjemenaaDoorW.PrintMore Go.Proofs.YtpjanlpjjemenaaDoor.Hand
attribute [local go_sem] max2_int min2_int max_two min_two max_three min_three max_four min_four   -- for this text's walks alone
set_option linter.unusedVariables false
set_option linter.unusedSimpArgs false

/-! ### thwartlaw34_GlobsAny: function 13 -/
mutual
def thwartlaw34_GlobsAny.j0 : Nat → ByteArray → ByteArray → ByteArray → Bool → Option (Bool)
  | 0, _, _, _, _ => none
  | k + 1, x0, x1, x2, x24 => if x24 = true then ((thwartlaw34_alive.f k).bind fun t519 => (some t519)) else ((thwartref04_Parts.f k x0).bind fun bt520 => ((thwartref04_Parts.f k x1).bind fun bt524 => ((globs_Match.f k (⟨#[42, 42]⟩ : ByteArray) x0).bind fun t528 => (if (t528 != (bt520.2 == 0)) = true then (some false) else ((globs_Quote.f k x1).bind fun t529 => (if t529.size + 3 ≤ 9223372036854775807 then (if bt520.2 = 0 then (if bt524.2 = 0 then ((globs_Check.f (t529 ++ (⟨#[47, 42, 42]⟩ : ByteArray))).bind fun t530 => (if t530 = 0 then (if x1.size + 1 ≤ 9223372036854775807 then (if (x1 ++ (⟨#[47]⟩ : ByteArray)).size + x0.size ≤ 9223372036854775807 then ((globs_Match.f k (t529 ++ (⟨#[47, 42, 42]⟩ : ByteArray)) ((x1 ++ (⟨#[47]⟩ : ByteArray)) ++ x0)).bind fun t531 => (if t531 = true then ((globs_Match.f k (t529 ++ (⟨#[47, 42, 42]⟩ : ByteArray)) x1).bind fun t532 => (thwartlaw34_GlobsAny.j1 k x0 x2 (!t532))) else (thwartlaw34_GlobsAny.j1 k x0 x2 true))) else (none)) else (none)) else (thwartlaw34_GlobsAny.j1 k x0 x2 false))) else (thwartlaw34_GlobsAny.j1 k x0 x2 false)) else (thwartlaw34_GlobsAny.j1 k x0 x2 false)) else (none)))))))
def thwartlaw34_GlobsAny.j1 : Nat → ByteArray → ByteArray → Bool → Option (Bool)
  | 0, _, _, _ => none
  | k + 1, x0, x2, x69 => if x69 = true then (some false) else ((thwartref04_Name.f k x0).bind fun t533 => (if t533 = true then ((globs_Name.f k x2 x0).bind fun t534 => ((globs_Match.f k x2 x0).bind fun t535 => (if (t534 == t535) = true then ((thwartlaw34_alive.f k).bind fun t536 => (some t536)) else ((thwartref04_Cut.f k x2).bind fun t537 => (if (t537.length : Int) > 1 then ((thwartlaw34_alive.f k).bind fun t540 => (some t540)) else (some false)))))) else ((thwartlaw34_alive.f k).bind fun t541 => (some t541))))
end
def thwartlaw34_GlobsAny.f (k : Nat) (a0 : ByteArray) (a1 : ByteArray) (a2 : ByteArray) : Option (Bool) := if (a0.size : Int) > 150 then (thwartlaw34_GlobsAny.j0 k a0 a1 a2 true) else (if (a1.size : Int) > 100 then (thwartlaw34_GlobsAny.j0 k a0 a1 a2 true) else (thwartlaw34_GlobsAny.j0 k a0 a1 a2 (decide ((a2.size : Int) > 150))))
theorem thwartlaw34_GlobsAny.mono_l : ∀ k, (∀ y0 y1 y2 y3, LeO (thwartlaw34_GlobsAny.j0 k y0 y1 y2 y3) (thwartlaw34_GlobsAny.j0 (k + 1) y0 y1 y2 y3)) ∧ (∀ y0 y1 y2, LeO (thwartlaw34_GlobsAny.j1 k y0 y1 y2) (thwartlaw34_GlobsAny.j1 (k + 1) y0 y1 y2))
  | 0 => ⟨fun _ _ _ _ r h => by simp [thwartlaw34_GlobsAny.j0] at h, fun _ _ _ r h => by simp [thwartlaw34_GlobsAny.j1] at h⟩
  | k + 1 => by
    obtain ⟨ih0, ih1⟩ := thwartlaw34_GlobsAny.mono_l k
    refine ⟨?_, ?_⟩
    · intro y0 y1 y2 y3
      unfold thwartlaw34_GlobsAny.j0
      repeat' first
      | (with_reducible exact ih0 _ _ _ _)
      | (with_reducible exact ih1 _ _ _)
      | (with_reducible exact globs_Match.mono _ _ _)
      | (with_reducible exact globs_Name.mono _ _ _)
      | (with_reducible exact globs_Quote.mono _ _)
      | (with_reducible exact thwartlaw34_alive.mono _)
      | (with_reducible exact thwartref04_Cut.mono _ _)
      | (with_reducible exact thwartref04_Name.mono _ _)
      | (with_reducible exact thwartref04_Parts.mono _ _)
      | (with_reducible exact LeO.refl _)
      | (with_reducible exact LeO.none _)
      | (with_reducible refine LeO.ite ?_ ?_)
      | (with_reducible refine LeO.bind ?_ (fun _ => ?_))
      | exact ih0 _ _ _ _
      | exact ih1 _ _ _
      | exact globs_Match.mono _ _ _
      | exact globs_Name.mono _ _ _
      | exact globs_Quote.mono _ _
      | exact thwartlaw34_alive.mono _
      | exact thwartref04_Cut.mono _ _
      | exact thwartref04_Name.mono _ _
      | exact thwartref04_Parts.mono _ _
      | exact LeO.none _
      | refine LeO.ite ?_ ?_
      | refine LeO.bind ?_ (fun _ => ?_)
    · intro y0 y1 y2
      unfold thwartlaw34_GlobsAny.j1
      repeat' first
      | (with_reducible exact ih0 _ _ _ _)
      | (with_reducible exact ih1 _ _ _)
      | (with_reducible exact globs_Match.mono _ _ _)
      | (with_reducible exact globs_Name.mono _ _ _)
      | (with_reducible exact globs_Quote.mono _ _)
      | (with_reducible exact thwartlaw34_alive.mono _)
      | (with_reducible exact thwartref04_Cut.mono _ _)
      | (with_reducible exact thwartref04_Name.mono _ _)
      | (with_reducible exact thwartref04_Parts.mono _ _)
      | (with_reducible exact LeO.refl _)
      | (with_reducible exact LeO.none _)
      | (with_reducible refine LeO.ite ?_ ?_)
      | (with_reducible refine LeO.bind ?_ (fun _ => ?_))
      | exact ih0 _ _ _ _
      | exact ih1 _ _ _
      | exact globs_Match.mono _ _ _
      | exact globs_Name.mono _ _ _
      | exact globs_Quote.mono _ _
      | exact thwartlaw34_alive.mono _
      | exact thwartref04_Cut.mono _ _
      | exact thwartref04_Name.mono _ _
      | exact thwartref04_Parts.mono _ _
      | exact LeO.none _
      | refine LeO.ite ?_ ?_
      | refine LeO.bind ?_ (fun _ => ?_)
theorem thwartlaw34_GlobsAny.mono : ∀ a0 a1 a2 k, LeO (thwartlaw34_GlobsAny.f k a0 a1 a2) (thwartlaw34_GlobsAny.f (k + 1) a0 a1 a2) := by
  intro a0 a1 a2 k
  obtain ⟨ih0, ih1⟩ := thwartlaw34_GlobsAny.mono_l k
  unfold thwartlaw34_GlobsAny.f
  repeat' first
      | (with_reducible exact ih0 _ _ _ _)
      | (with_reducible exact ih1 _ _ _)
      | (with_reducible exact globs_Match.mono _ _ _)
      | (with_reducible exact globs_Name.mono _ _ _)
      | (with_reducible exact globs_Quote.mono _ _)
      | (with_reducible exact thwartlaw34_alive.mono _)
      | (with_reducible exact thwartref04_Cut.mono _ _)
      | (with_reducible exact thwartref04_Name.mono _ _)
      | (with_reducible exact thwartref04_Parts.mono _ _)
      | (with_reducible exact LeO.refl _)
      | (with_reducible exact LeO.none _)
      | (with_reducible refine LeO.ite ?_ ?_)
      | (with_reducible refine LeO.bind ?_ (fun _ => ?_))
      | exact ih0 _ _ _ _
      | exact ih1 _ _ _
      | exact globs_Match.mono _ _ _
      | exact globs_Name.mono _ _ _
      | exact globs_Quote.mono _ _
      | exact thwartlaw34_alive.mono _
      | exact thwartref04_Cut.mono _ _
      | exact thwartref04_Name.mono _ _
      | exact thwartref04_Parts.mono _ _
      | exact LeO.none _
      | refine LeO.ite ?_ ?_
      | refine LeO.bind ?_ (fun _ => ?_)
set_option maxHeartbeats 8000000 in
set_option maxRecDepth 100000 in
theorem thwartlaw34_GlobsAny.calls (k : Nat) (a0 : ByteArray) (a1 : ByteArray) (a2 : ByteArray) (r : Bool) (w : World) (h : thwartlaw34_GlobsAny.f k a0 a1 a2 = some r) :
    Calls Tryd.prog 13 #[.string a0, .string a1, .string a2] w fun e w' => e = .returned (.bool r) ∧ Below w.heap.size w w' := by
  have HB := Aside0.mk (Below.refl w.heap.size w)
  have H : (if (a0.size : Int) > 150 then (thwartlaw34_GlobsAny.j0 k a0 a1 a2 true) else (if (a1.size : Int) > 100 then (thwartlaw34_GlobsAny.j0 k a0 a1 a2 true) else (thwartlaw34_GlobsAny.j0 k a0 a1 a2 (decide ((a2.size : Int) > 150))))) = some r := h
  clear h
  have HC4 := Aside0.mk H
  clear H
  go_enter Tryd.func13, Tryd.ntmps13
  go_upto_region 1 with (fail)
  go_cut [24] (fun v24 wc => ∃ (kq : Nat) (x24_3 : Bool), v24 = .bool x24_3 ∧ Aside0 (thwartlaw34_GlobsAny.j0 kq a0 a1 a2 x24_3 = some r) ∧ Aside0 (kq ≤ k) ∧ Aside0 (Below w.heap.size w wc))
  case first =>
    have H := HC4.out
    clear HC4
    by_cases c5 : (a0.size : Int) > 150
    · rw [if_pos c5] at H
      have c5b0 : decide (150 < (a0.size : Int)) = true := decide_eq_true c5
      have c5b1 : decide (150 < a0.size) = true := decide_eq_true (by omega)
      clear c5
      (first | rw [c5b0] | (simp only [i64_w, i32_w]; rw [c5b0]) | skip)
      have H' := Aside0.mk H
      clear H
      go_wp2
      go_meet
      case rel => exact ⟨_, (true), (by first | rfl | (simp; done) | (simp [*]; done)), H', ⟨by first | omega | exact Nat.le_refl _⟩, ⟨by repeat (first | (with_reducible first | exact HB.out | apply below_alloc | apply pw_below_drewN | apply below_drew1) | exact HB.out)⟩⟩
    · rw [if_neg c5] at H
      have c5b0 : decide (150 < (a0.size : Int)) = false := decide_eq_false c5
      have c5b1 : decide (150 < a0.size) = false := decide_eq_false (by omega)
      clear c5
      (first | rw [c5b0] | (simp only [i64_w, i32_w]; rw [c5b0]) | skip)
      by_cases c6 : (a1.size : Int) > 100
      · rw [if_pos c6] at H
        have c6b0 : decide (100 < (a1.size : Int)) = true := decide_eq_true c6
        have c6b1 : decide (100 < a1.size) = true := decide_eq_true (by omega)
        clear c6
        have H' := Aside0.mk H
        clear H
        go_wp2
        go_meet
        case rel => exact ⟨_, (true), (by first | rfl | (simp; done) | (simp [*]; done)), H', ⟨by first | omega | exact Nat.le_refl _⟩, ⟨by repeat (first | (with_reducible first | exact HB.out | apply below_alloc | apply pw_below_drewN | apply below_drew1) | exact HB.out)⟩⟩
      · rw [if_neg c6] at H
        have c6b0 : decide (100 < (a1.size : Int)) = false := decide_eq_false c6
        have c6b1 : decide (100 < a1.size) = false := decide_eq_false (by omega)
        clear c6
        have H' := Aside0.mk H
        clear H
        go_wp2
        go_meet
        case rel => exact ⟨_, (decide ((a2.size : Int) > 150)), (by first | rfl | (simp; done) | (simp [*]; done)), H', ⟨by first | omega | exact Nat.le_refl _⟩, ⟨by repeat (first | (with_reducible first | exact HB.out | apply below_alloc | apply pw_below_drewN | apply below_drew1) | exact HB.out)⟩⟩
  case rest =>
    clear HC4
    try clear c1
    try clear p2
    try clear c5
    try clear c5b0
    try clear c5b1
    try clear c6
    try clear c6b0
    try clear c6b1
    obtain ⟨kq, x24_3, rfl, HA, HJ3, HB⟩ := hcut
    cases kq with
    | zero => exact absurd HA.out (by simp [thwartlaw34_GlobsAny.j0])
    | succ kj3 =>
      have H := HA.out
      clear HA
      simp only [thwartlaw34_GlobsAny.j0] at H
      by_cases c7 : x24_3 = true
      · subst c7
        have H1 : ((thwartlaw34_alive.f kj3).bind fun t519 => (some t519)) = some r := by rw [if_pos rfl] at H; exact H
        clear H
        have H := H1
        clear H1
        replace H := Option.bind_eq_some_iff.mp H
        obtain ⟨t519, A80, H⟩ := H
        replace H : (some t519) = some r := H
        have A8 := Aside0.mk A80
        clear A80
        obtain rfl := Option.some.inj H
        go_wp2_with (first | ((with_reducible refine gate_callee (f := 53) rfl ?_); refine goesL_ (some 25) rfl rfl Tryd.func53 (by kernel_rfl) rfl #[] rfl (by (try simp only [List.map_toArray, List.map_cons, List.map_nil]); first | done | rfl | (simp only [List.length_drop, List.length_take]; rfl)) ?_; (with_reducible refine (thwartlaw34_alive.calls kj3  t519 _ A8.out).mono ?_); rintro e w9 ⟨rfl, hb⟩; refine ⟨_, rfl, ?_⟩; have n0_ := Aside0.mk (below_step (by repeat (first | (with_reducible first | exact HB.out | apply below_alloc | apply pw_below_drewN | apply below_drew1) | exact HB.out)) hb); clear HB; have HB := n0_; clear n0_; (try clear hb); (try clear hb2); (try clear hk); (try clear hi)))
        go_ret
        exact ⟨by first | rfl | (simp [errW_none, errW_some] <;> rfl) | (simp [*, errW_none, errW_some] <;> rfl), by repeat (first | (with_reducible first | exact HB.out | apply below_alloc | apply pw_below_drewN | apply below_drew1) | exact HB.out)⟩
      · replace c7 := Bool.eq_false_iff.mpr c7
        subst c7
        have H1 : ((thwartref04_Parts.f kj3 a0).bind fun bt520 => ((thwartref04_Parts.f kj3 a1).bind fun bt524 => ((globs_Match.f kj3 (⟨#[42, 42]⟩ : ByteArray) a0).bind fun t528 => (if (t528 != (bt520.2 == 0)) = true then (some false) else ((globs_Quote.f kj3 a1).bind fun t529 => (if t529.size + 3 ≤ 9223372036854775807 then (if bt520.2 = 0 then (if bt524.2 = 0 then ((globs_Check.f (t529 ++ (⟨#[47, 42, 42]⟩ : ByteArray))).bind fun t530 => (if t530 = 0 then (if a1.size + 1 ≤ 9223372036854775807 then (if (a1 ++ (⟨#[47]⟩ : ByteArray)).size + a0.size ≤ 9223372036854775807 then ((globs_Match.f kj3 (t529 ++ (⟨#[47, 42, 42]⟩ : ByteArray)) ((a1 ++ (⟨#[47]⟩ : ByteArray)) ++ a0)).bind fun t531 => (if t531 = true then ((globs_Match.f kj3 (t529 ++ (⟨#[47, 42, 42]⟩ : ByteArray)) a1).bind fun t532 => (thwartlaw34_GlobsAny.j1 kj3 a0 a2 (!t532))) else (thwartlaw34_GlobsAny.j1 kj3 a0 a2 true))) else (none)) else (none)) else (thwartlaw34_GlobsAny.j1 kj3 a0 a2 false))) else (thwartlaw34_GlobsAny.j1 kj3 a0 a2 false)) else (thwartlaw34_GlobsAny.j1 kj3 a0 a2 false)) else (none))))))) = some r := by rw [if_neg (show ¬ (false = true) by decide)] at H; exact H
        clear H
        have H := H1
        clear H1
        replace H := Option.bind_eq_some_iff.mp H
        obtain ⟨⟨t520, t521⟩, A100, H⟩ := H
        replace H : ((thwartref04_Parts.f kj3 a1).bind fun bt524 => ((globs_Match.f kj3 (⟨#[42, 42]⟩ : ByteArray) a0).bind fun t528 => (if (t528 != (t521 == 0)) = true then (some false) else ((globs_Quote.f kj3 a1).bind fun t529 => (if t529.size + 3 ≤ 9223372036854775807 then (if t521 = 0 then (if bt524.2 = 0 then ((globs_Check.f (t529 ++ (⟨#[47, 42, 42]⟩ : ByteArray))).bind fun t530 => (if t530 = 0 then (if a1.size + 1 ≤ 9223372036854775807 then (if (a1 ++ (⟨#[47]⟩ : ByteArray)).size + a0.size ≤ 9223372036854775807 then ((globs_Match.f kj3 (t529 ++ (⟨#[47, 42, 42]⟩ : ByteArray)) ((a1 ++ (⟨#[47]⟩ : ByteArray)) ++ a0)).bind fun t531 => (if t531 = true then ((globs_Match.f kj3 (t529 ++ (⟨#[47, 42, 42]⟩ : ByteArray)) a1).bind fun t532 => (thwartlaw34_GlobsAny.j1 kj3 a0 a2 (!t532))) else (thwartlaw34_GlobsAny.j1 kj3 a0 a2 true))) else (none)) else (none)) else (thwartlaw34_GlobsAny.j1 kj3 a0 a2 false))) else (thwartlaw34_GlobsAny.j1 kj3 a0 a2 false)) else (thwartlaw34_GlobsAny.j1 kj3 a0 a2 false)) else (none)))))) = some r := H
        have A10 := Aside0.mk A100
        clear A100
        replace H := Option.bind_eq_some_iff.mp H
        obtain ⟨⟨t524, t525⟩, A110, H⟩ := H
        replace H : ((globs_Match.f kj3 (⟨#[42, 42]⟩ : ByteArray) a0).bind fun t528 => (if (t528 != (t521 == 0)) = true then (some false) else ((globs_Quote.f kj3 a1).bind fun t529 => (if t529.size + 3 ≤ 9223372036854775807 then (if t521 = 0 then (if t525 = 0 then ((globs_Check.f (t529 ++ (⟨#[47, 42, 42]⟩ : ByteArray))).bind fun t530 => (if t530 = 0 then (if a1.size + 1 ≤ 9223372036854775807 then (if (a1 ++ (⟨#[47]⟩ : ByteArray)).size + a0.size ≤ 9223372036854775807 then ((globs_Match.f kj3 (t529 ++ (⟨#[47, 42, 42]⟩ : ByteArray)) ((a1 ++ (⟨#[47]⟩ : ByteArray)) ++ a0)).bind fun t531 => (if t531 = true then ((globs_Match.f kj3 (t529 ++ (⟨#[47, 42, 42]⟩ : ByteArray)) a1).bind fun t532 => (thwartlaw34_GlobsAny.j1 kj3 a0 a2 (!t532))) else (thwartlaw34_GlobsAny.j1 kj3 a0 a2 true))) else (none)) else (none)) else (thwartlaw34_GlobsAny.j1 kj3 a0 a2 false))) else (thwartlaw34_GlobsAny.j1 kj3 a0 a2 false)) else (thwartlaw34_GlobsAny.j1 kj3 a0 a2 false)) else (none))))) = some r := H
        have A11 := Aside0.mk A110
        clear A110
        replace H := Option.bind_eq_some_iff.mp H
        obtain ⟨t528, A120, H⟩ := H
        replace H : (if (t528 != (t521 == 0)) = true then (some false) else ((globs_Quote.f kj3 a1).bind fun t529 => (if t529.size + 3 ≤ 9223372036854775807 then (if t521 = 0 then (if t525 = 0 then ((globs_Check.f (t529 ++ (⟨#[47, 42, 42]⟩ : ByteArray))).bind fun t530 => (if t530 = 0 then (if a1.size + 1 ≤ 9223372036854775807 then (if (a1 ++ (⟨#[47]⟩ : ByteArray)).size + a0.size ≤ 9223372036854775807 then ((globs_Match.f kj3 (t529 ++ (⟨#[47, 42, 42]⟩ : ByteArray)) ((a1 ++ (⟨#[47]⟩ : ByteArray)) ++ a0)).bind fun t531 => (if t531 = true then ((globs_Match.f kj3 (t529 ++ (⟨#[47, 42, 42]⟩ : ByteArray)) a1).bind fun t532 => (thwartlaw34_GlobsAny.j1 kj3 a0 a2 (!t532))) else (thwartlaw34_GlobsAny.j1 kj3 a0 a2 true))) else (none)) else (none)) else (thwartlaw34_GlobsAny.j1 kj3 a0 a2 false))) else (thwartlaw34_GlobsAny.j1 kj3 a0 a2 false)) else (thwartlaw34_GlobsAny.j1 kj3 a0 a2 false)) else (none)))) = some r := H
        have A12 := Aside0.mk A120
        clear A120
        by_cases c13 : (t528 != (t521 == 0)) = true
        · rw [if_pos c13] at H
          have c13b0 : (t528 != (t521 == 0)) = true := c13
          (try (have c13b1 : decide (t528 = (t521 == 0)) = false := by simpa using c13))
          (try (have c13b2 : (t528 == (t521 == 0)) = false := by simpa using c13))
          (try (have c13b3 : ¬ (t528 = (t521 == 0)) := by simpa using c13))
          clear c13
          obtain rfl := Option.some.inj H
          go_wp2_with (first | ((with_reducible refine gate_callee (f := 37) rfl ?_); refine goesL_ (some 28) rfl rfl Tryd.func37 (by kernel_rfl) rfl #[.string a0] rfl (by (try simp only [List.map_toArray, List.map_cons, List.map_nil]); first | done | rfl | (simp only [List.length_drop, List.length_take]; rfl)) ?_; (with_reducible refine (thwartref04_Parts.calls kj3 a0 t520 t521 _ A10.out).mono ?_); rintro e w14 ⟨v522, rfl, ho0, hb⟩; refine ⟨_, rfl, ?_⟩; have n0_ := Aside0.mk (Kd.R_lower ho0 (below_size (by repeat (first | (with_reducible first | exact HB.out | apply below_alloc | apply pw_below_drewN | apply below_drew1) | exact HB.out)))); have n1_ := Aside0.mk (below_step (by repeat (first | (with_reducible first | exact HB.out | apply below_alloc | apply pw_below_drewN | apply below_drew1) | exact HB.out)) hb); clear HB; have HO523 := n0_; have HB := n1_; clear n0_ n1_; (try clear hb); (try clear hb2); (try clear hk); (try clear hi); (try clear ho0)) | ((with_reducible refine gate_callee (f := 37) rfl ?_); refine goesL_ (some 33) rfl rfl Tryd.func37 (by kernel_rfl) rfl #[.string a1] rfl (by (try simp only [List.map_toArray, List.map_cons, List.map_nil]); first | done | rfl | (simp only [List.length_drop, List.length_take]; rfl)) ?_; (with_reducible refine (thwartref04_Parts.calls kj3 a1 t524 t525 _ A11.out).mono ?_); rintro e w15 ⟨v526, rfl, ho0, hb⟩; refine ⟨_, rfl, ?_⟩; have n0_ := Aside0.mk (Kd.R_elder' (by (with_reducible repeat (first | apply Kd.R_alloc | apply Kd.R_drewN | apply Kd.R_drew)); exact HO523.out) (Kd.R_base ho0) hb); have n1_ := Aside0.mk (Kd.R_lower (Kd.R_new' ho0 (Kd.R_lt (by (with_reducible repeat (first | apply Kd.R_alloc | apply Kd.R_drewN | apply Kd.R_drew)); exact HO523.out))) (below_size (by repeat (first | (with_reducible first | exact HB.out | apply below_alloc | apply pw_below_drewN | apply below_drew1) | exact HB.out)))); have n2_ := Aside0.mk (below_step (by repeat (first | (with_reducible first | exact HB.out | apply below_alloc | apply pw_below_drewN | apply below_drew1) | exact HB.out)) hb); clear HO523; clear HB; have HO523 := n0_; have HO527 := n1_; have HB := n2_; clear n0_ n1_ n2_; (try clear hb); (try clear hb2); (try clear hk); (try clear hi); (try clear ho0)) | ((with_reducible refine gate_callee (f := 56) rfl ?_); refine goesL_ (some 37) rfl rfl Tryd.func56 (by kernel_rfl) rfl #[.string (⟨#[42, 42]⟩ : ByteArray), .string a0] rfl (by (try simp only [List.map_toArray, List.map_cons, List.map_nil]); first | done | rfl | (simp only [List.length_drop, List.length_take]; rfl)) ?_; (with_reducible refine (globs_Match.calls kj3 (⟨#[42, 42]⟩ : ByteArray) a0 t528 _ A12.out).mono ?_); rintro e w16 ⟨rfl, hb⟩; refine ⟨_, rfl, ?_⟩; have n0_ := Aside0.mk (Kd.R_below (by (with_reducible repeat (first | apply Kd.R_alloc | apply Kd.R_drewN | apply Kd.R_drew)); exact HO523.out) hb); have n1_ := Aside0.mk (Kd.R_below (by (with_reducible repeat (first | apply Kd.R_alloc | apply Kd.R_drewN | apply Kd.R_drew)); exact HO527.out) hb); have n2_ := Aside0.mk (below_step (by repeat (first | (with_reducible first | exact HB.out | apply below_alloc | apply pw_below_drewN | apply below_drew1) | exact HB.out)) hb); clear HO523; clear HO527; clear HB; have HO523 := n0_; have HO527 := n1_; have HB := n2_; clear n0_ n1_ n2_; (try clear hb); (try clear hb2); (try clear hk); (try clear hi)))
          go_ret
          exact ⟨by first | rfl | (simp [errW_none, errW_some] <;> rfl) | (simp [*, errW_none, errW_some] <;> rfl), by repeat (first | (with_reducible first | exact HB.out | apply below_alloc | apply pw_below_drewN | apply below_drew1) | exact HB.out)⟩
        · rw [if_neg c13] at H
          have c13b0 : (t528 != (t521 == 0)) = false := by simpa using c13
          (try (have c13b1 : decide (t528 = (t521 == 0)) = true := by simpa using c13))
          (try (have c13b2 : (t528 == (t521 == 0)) = true := by simpa using c13))
          clear c13
          replace H := Option.bind_eq_some_iff.mp H
          obtain ⟨t529, A170, H⟩ := H
          replace H : (if t529.size + 3 ≤ 9223372036854775807 then (if t521 = 0 then (if t525 = 0 then ((globs_Check.f (t529 ++ (⟨#[47, 42, 42]⟩ : ByteArray))).bind fun t530 => (if t530 = 0 then (if a1.size + 1 ≤ 9223372036854775807 then (if (a1 ++ (⟨#[47]⟩ : ByteArray)).size + a0.size ≤ 9223372036854775807 then ((globs_Match.f kj3 (t529 ++ (⟨#[47, 42, 42]⟩ : ByteArray)) ((a1 ++ (⟨#[47]⟩ : ByteArray)) ++ a0)).bind fun t531 => (if t531 = true then ((globs_Match.f kj3 (t529 ++ (⟨#[47, 42, 42]⟩ : ByteArray)) a1).bind fun t532 => (thwartlaw34_GlobsAny.j1 kj3 a0 a2 (!t532))) else (thwartlaw34_GlobsAny.j1 kj3 a0 a2 true))) else (none)) else (none)) else (thwartlaw34_GlobsAny.j1 kj3 a0 a2 false))) else (thwartlaw34_GlobsAny.j1 kj3 a0 a2 false)) else (thwartlaw34_GlobsAny.j1 kj3 a0 a2 false)) else (none)) = some r := H
          have A17 := Aside0.mk A170
          clear A170
          by_cases c18 : t529.size + 3 ≤ 9223372036854775807
          · rw [if_pos c18] at H
            have c18b0 := eq_true c18
            have c18b1 : decide (t529.size + 3 ≤ 9223372036854775807) = true := decide_eq_true c18
            try have c18b2 : (9223372036854775807 < t529.size + 3) = False := eq_false (Nat.not_lt.2 c18)
            have HC19 := Aside0.mk H
            clear H
            go_upto_region 8 with (first | ((with_reducible refine gate_callee (f := 37) rfl ?_); refine goesL_ (some 28) rfl rfl Tryd.func37 (by kernel_rfl) rfl #[.string a0] rfl (by (try simp only [List.map_toArray, List.map_cons, List.map_nil]); first | done | rfl | (simp only [List.length_drop, List.length_take]; rfl)) ?_; (with_reducible refine (thwartref04_Parts.calls kj3 a0 t520 t521 _ A10.out).mono ?_); rintro e w20 ⟨v522, rfl, ho0, hb⟩; refine ⟨_, rfl, ?_⟩; have n0_ := Aside0.mk (Kd.R_lower ho0 (below_size (by repeat (first | (with_reducible first | exact HB.out | apply below_alloc | apply pw_below_drewN | apply below_drew1) | exact HB.out)))); have n1_ := Aside0.mk (below_step (by repeat (first | (with_reducible first | exact HB.out | apply below_alloc | apply pw_below_drewN | apply below_drew1) | exact HB.out)) hb); clear HB; have HO523 := n0_; have HB := n1_; clear n0_ n1_; (try clear hb); (try clear hb2); (try clear hk); (try clear hi); (try clear ho0)) | ((with_reducible refine gate_callee (f := 37) rfl ?_); refine goesL_ (some 33) rfl rfl Tryd.func37 (by kernel_rfl) rfl #[.string a1] rfl (by (try simp only [List.map_toArray, List.map_cons, List.map_nil]); first | done | rfl | (simp only [List.length_drop, List.length_take]; rfl)) ?_; (with_reducible refine (thwartref04_Parts.calls kj3 a1 t524 t525 _ A11.out).mono ?_); rintro e w21 ⟨v526, rfl, ho0, hb⟩; refine ⟨_, rfl, ?_⟩; have n0_ := Aside0.mk (Kd.R_elder' (by (with_reducible repeat (first | apply Kd.R_alloc | apply Kd.R_drewN | apply Kd.R_drew)); exact HO523.out) (Kd.R_base ho0) hb); have n1_ := Aside0.mk (Kd.R_lower (Kd.R_new' ho0 (Kd.R_lt (by (with_reducible repeat (first | apply Kd.R_alloc | apply Kd.R_drewN | apply Kd.R_drew)); exact HO523.out))) (below_size (by repeat (first | (with_reducible first | exact HB.out | apply below_alloc | apply pw_below_drewN | apply below_drew1) | exact HB.out)))); have n2_ := Aside0.mk (below_step (by repeat (first | (with_reducible first | exact HB.out | apply below_alloc | apply pw_below_drewN | apply below_drew1) | exact HB.out)) hb); clear HO523; clear HB; have HO523 := n0_; have HO527 := n1_; have HB := n2_; clear n0_ n1_ n2_; (try clear hb); (try clear hb2); (try clear hk); (try clear hi); (try clear ho0)) | ((with_reducible refine gate_callee (f := 56) rfl ?_); refine goesL_ (some 37) rfl rfl Tryd.func56 (by kernel_rfl) rfl #[.string (⟨#[42, 42]⟩ : ByteArray), .string a0] rfl (by (try simp only [List.map_toArray, List.map_cons, List.map_nil]); first | done | rfl | (simp only [List.length_drop, List.length_take]; rfl)) ?_; (with_reducible refine (globs_Match.calls kj3 (⟨#[42, 42]⟩ : ByteArray) a0 t528 _ A12.out).mono ?_); rintro e w22 ⟨rfl, hb⟩; refine ⟨_, rfl, ?_⟩; have n0_ := Aside0.mk (Kd.R_below (by (with_reducible repeat (first | apply Kd.R_alloc | apply Kd.R_drewN | apply Kd.R_drew)); exact HO523.out) hb); have n1_ := Aside0.mk (Kd.R_below (by (with_reducible repeat (first | apply Kd.R_alloc | apply Kd.R_drewN | apply Kd.R_drew)); exact HO527.out) hb); have n2_ := Aside0.mk (below_step (by repeat (first | (with_reducible first | exact HB.out | apply below_alloc | apply pw_below_drewN | apply below_drew1) | exact HB.out)) hb); clear HO523; clear HO527; clear HB; have HO523 := n0_; have HO527 := n1_; have HB := n2_; clear n0_ n1_ n2_; (try clear hb); (try clear hb2); (try clear hk); (try clear hi)) | ((with_reducible refine gate_callee (f := 54) rfl ?_); refine goesL_ (some 42) rfl rfl Tryd.func54 (by kernel_rfl) rfl #[.string a1] rfl (by (try simp only [List.map_toArray, List.map_cons, List.map_nil]); first | done | rfl | (simp only [List.length_drop, List.length_take]; rfl)) ?_; (with_reducible refine (globs_Quote.calls kj3 a1 t529 _ A17.out).mono ?_); rintro e w23 ⟨rfl, hb⟩; refine ⟨_, rfl, ?_⟩; have n0_ := Aside0.mk (Kd.R_below (by (with_reducible repeat (first | apply Kd.R_alloc | apply Kd.R_drewN | apply Kd.R_drew)); exact HO523.out) hb); have n1_ := Aside0.mk (Kd.R_below (by (with_reducible repeat (first | apply Kd.R_alloc | apply Kd.R_drewN | apply Kd.R_drew)); exact HO527.out) hb); have n2_ := Aside0.mk (below_step (by repeat (first | (with_reducible first | exact HB.out | apply below_alloc | apply pw_below_drewN | apply below_drew1) | exact HB.out)) hb); clear HO523; clear HO527; clear HB; have HO523 := n0_; have HO527 := n1_; have HB := n2_; clear n0_ n1_ n2_; (try clear hb); (try clear hb2); (try clear hk); (try clear hi)))
            (try simp only [Act.put, List.setIfInBounds_toArray, List.set_cons_zero, List.set_cons_succ])
            go_cut [69] (fun v69 wc => ∃ (kq : Nat) (x69_18 : Bool), v69 = .bool x69_18 ∧ Aside0 (thwartlaw34_GlobsAny.j1 kq a0 a2 x69_18 = some r) ∧ Aside0 (kq ≤ kj3) ∧ Aside0 (Below w.heap.size w wc))
            case first =>
              have H := HC19.out
              clear HC19
              by_cases c24 : t521 = 0
              · rw [if_pos c24] at H
                have c24b0 : (t521 == 0) = true := beq_iff_eq.mpr c24
                have c24b1 : (t521 != 0) = false := bne_eq_false_iff_eq.mpr c24
                clear c24
                (first | rw [c24b0] | (simp only [i64_w, i32_w]; rw [c24b0]) | skip)
                by_cases c25 : t525 = 0
                · rw [if_pos c25] at H
                  have c25b0 : (t525 == 0) = true := beq_iff_eq.mpr c25
                  have c25b1 : (t525 != 0) = false := bne_eq_false_iff_eq.mpr c25
                  clear c25
                  replace H := Option.bind_eq_some_iff.mp H
                  obtain ⟨t530, A260, H⟩ := H
                  replace H : (if t530 = 0 then (if a1.size + 1 ≤ 9223372036854775807 then (if (a1 ++ (⟨#[47]⟩ : ByteArray)).size + a0.size ≤ 9223372036854775807 then ((globs_Match.f kj3 (t529 ++ (⟨#[47, 42, 42]⟩ : ByteArray)) ((a1 ++ (⟨#[47]⟩ : ByteArray)) ++ a0)).bind fun t531 => (if t531 = true then ((globs_Match.f kj3 (t529 ++ (⟨#[47, 42, 42]⟩ : ByteArray)) a1).bind fun t532 => (thwartlaw34_GlobsAny.j1 kj3 a0 a2 (!t532))) else (thwartlaw34_GlobsAny.j1 kj3 a0 a2 true))) else (none)) else (none)) else (thwartlaw34_GlobsAny.j1 kj3 a0 a2 false)) = some r := H
                  have A26 := Aside0.mk A260
                  clear A260
                  by_cases c27 : t530 = 0
                  · rw [if_pos c27] at H
                    have c27b0 : (t530 == 0) = true := beq_iff_eq.mpr c27
                    have c27b1 : (t530 != 0) = false := bne_eq_false_iff_eq.mpr c27
                    clear c27
                    by_cases c28 : a1.size + 1 ≤ 9223372036854775807
                    · rw [if_pos c28] at H
                      have c28b0 := eq_true c28
                      have c28b1 : decide (a1.size + 1 ≤ 9223372036854775807) = true := decide_eq_true c28
                      try have c28b2 : (9223372036854775807 < a1.size + 1) = False := eq_false (Nat.not_lt.2 c28)
                      by_cases c29 : (a1 ++ (⟨#[47]⟩ : ByteArray)).size + a0.size ≤ 9223372036854775807
                      · rw [if_pos c29] at H
                        have c29b0 := eq_true c29
                        have c29b1 : decide ((a1 ++ (⟨#[47]⟩ : ByteArray)).size + a0.size ≤ 9223372036854775807) = true := decide_eq_true c29
                        try have c29b2 : (9223372036854775807 < (a1 ++ (⟨#[47]⟩ : ByteArray)).size + a0.size) = False := eq_false (Nat.not_lt.2 c29)
                        replace H := Option.bind_eq_some_iff.mp H
                        obtain ⟨t531, A300, H⟩ := H
                        replace H : (if t531 = true then ((globs_Match.f kj3 (t529 ++ (⟨#[47, 42, 42]⟩ : ByteArray)) a1).bind fun t532 => (thwartlaw34_GlobsAny.j1 kj3 a0 a2 (!t532))) else (thwartlaw34_GlobsAny.j1 kj3 a0 a2 true)) = some r := H
                        have A30 := Aside0.mk A300
                        clear A300
                        by_cases c31 : t531 = true
                        · subst c31
                          have H1 : ((globs_Match.f kj3 (t529 ++ (⟨#[47, 42, 42]⟩ : ByteArray)) a1).bind fun t532 => (thwartlaw34_GlobsAny.j1 kj3 a0 a2 (!t532))) = some r := by rw [if_pos rfl] at H; exact H
                          clear H
                          have H := H1
                          clear H1
                          replace H := Option.bind_eq_some_iff.mp H
                          obtain ⟨t532, A320, H⟩ := H
                          replace H : (thwartlaw34_GlobsAny.j1 kj3 a0 a2 (!t532)) = some r := H
                          have A32 := Aside0.mk A320
                          clear A320
                          have H' := Aside0.mk H
                          clear H
                          go_wp2_with (first | (go_at_call 55; (with_reducible refine (globs_Check.calls (t529 ++ (⟨#[47, 42, 42]⟩ : ByteArray)) t530 _ A26.out).mono ?_); rintro e w33 ⟨rfl, hb⟩; have n0_ := Aside0.mk (Kd.R_below (by (with_reducible repeat (first | apply Kd.R_alloc | apply Kd.R_drewN | apply Kd.R_drew)); exact HO523.out) hb); have n1_ := Aside0.mk (Kd.R_below (by (with_reducible repeat (first | apply Kd.R_alloc | apply Kd.R_drewN | apply Kd.R_drew)); exact HO527.out) hb); have n2_ := Aside0.mk (below_step (by repeat (first | (with_reducible first | exact HB.out | apply below_alloc | apply pw_below_drewN | apply below_drew1) | exact HB.out)) hb); clear HO523; clear HO527; clear HB; have HO523 := n0_; have HO527 := n1_; have HB := n2_; clear n0_ n1_ n2_; (try clear hb); (try clear hb2); (try clear hk); (try clear hi)) | (go_at_call 56; (with_reducible refine (globs_Match.calls kj3 (t529 ++ (⟨#[47, 42, 42]⟩ : ByteArray)) ((a1 ++ (⟨#[47]⟩ : ByteArray)) ++ a0) true _ A30.out).mono ?_); rintro e w34 ⟨rfl, hb⟩; have n0_ := Aside0.mk (Kd.R_below (by (with_reducible repeat (first | apply Kd.R_alloc | apply Kd.R_drewN | apply Kd.R_drew)); exact HO523.out) hb); have n1_ := Aside0.mk (Kd.R_below (by (with_reducible repeat (first | apply Kd.R_alloc | apply Kd.R_drewN | apply Kd.R_drew)); exact HO527.out) hb); have n2_ := Aside0.mk (below_step (by repeat (first | (with_reducible first | exact HB.out | apply below_alloc | apply pw_below_drewN | apply below_drew1) | exact HB.out)) hb); clear HO523; clear HO527; clear HB; have HO523 := n0_; have HO527 := n1_; have HB := n2_; clear n0_ n1_ n2_; (try clear hb); (try clear hb2); (try clear hk); (try clear hi)) | (go_at_call 56; (with_reducible refine (globs_Match.calls kj3 (t529 ++ (⟨#[47, 42, 42]⟩ : ByteArray)) a1 t532 _ A32.out).mono ?_); rintro e w35 ⟨rfl, hb⟩; have n0_ := Aside0.mk (Kd.R_below (by (with_reducible repeat (first | apply Kd.R_alloc | apply Kd.R_drewN | apply Kd.R_drew)); exact HO523.out) hb); have n1_ := Aside0.mk (Kd.R_below (by (with_reducible repeat (first | apply Kd.R_alloc | apply Kd.R_drewN | apply Kd.R_drew)); exact HO527.out) hb); have n2_ := Aside0.mk (below_step (by repeat (first | (with_reducible first | exact HB.out | apply below_alloc | apply pw_below_drewN | apply below_drew1) | exact HB.out)) hb); clear HO523; clear HO527; clear HB; have HO523 := n0_; have HO527 := n1_; have HB := n2_; clear n0_ n1_ n2_; (try clear hb); (try clear hb2); (try clear hk); (try clear hi)))
                          go_meet
                          case rel => exact ⟨_, (!t532), (by first | rfl | (simp; done) | (simp [*]; done)), H', ⟨by have := HJ3.out; first | omega | exact Nat.le_refl _⟩, ⟨by repeat (first | (with_reducible first | exact HB.out | apply below_alloc | apply pw_below_drewN | apply below_drew1) | exact HB.out)⟩⟩
                        · replace c31 := Bool.eq_false_iff.mpr c31
                          subst c31
                          have H1 : (thwartlaw34_GlobsAny.j1 kj3 a0 a2 true) = some r := by rw [if_neg (show ¬ (false = true) by decide)] at H; exact H
                          clear H
                          have H := H1
                          clear H1
                          have H' := Aside0.mk H
                          clear H
                          go_wp2_with (first | (go_at_call 55; (with_reducible refine (globs_Check.calls (t529 ++ (⟨#[47, 42, 42]⟩ : ByteArray)) t530 _ A26.out).mono ?_); rintro e w36 ⟨rfl, hb⟩; have n0_ := Aside0.mk (Kd.R_below (by (with_reducible repeat (first | apply Kd.R_alloc | apply Kd.R_drewN | apply Kd.R_drew)); exact HO523.out) hb); have n1_ := Aside0.mk (Kd.R_below (by (with_reducible repeat (first | apply Kd.R_alloc | apply Kd.R_drewN | apply Kd.R_drew)); exact HO527.out) hb); have n2_ := Aside0.mk (below_step (by repeat (first | (with_reducible first | exact HB.out | apply below_alloc | apply pw_below_drewN | apply below_drew1) | exact HB.out)) hb); clear HO523; clear HO527; clear HB; have HO523 := n0_; have HO527 := n1_; have HB := n2_; clear n0_ n1_ n2_; (try clear hb); (try clear hb2); (try clear hk); (try clear hi)) | (go_at_call 56; (with_reducible refine (globs_Match.calls kj3 (t529 ++ (⟨#[47, 42, 42]⟩ : ByteArray)) ((a1 ++ (⟨#[47]⟩ : ByteArray)) ++ a0) false _ A30.out).mono ?_); rintro e w37 ⟨rfl, hb⟩; have n0_ := Aside0.mk (Kd.R_below (by (with_reducible repeat (first | apply Kd.R_alloc | apply Kd.R_drewN | apply Kd.R_drew)); exact HO523.out) hb); have n1_ := Aside0.mk (Kd.R_below (by (with_reducible repeat (first | apply Kd.R_alloc | apply Kd.R_drewN | apply Kd.R_drew)); exact HO527.out) hb); have n2_ := Aside0.mk (below_step (by repeat (first | (with_reducible first | exact HB.out | apply below_alloc | apply pw_below_drewN | apply below_drew1) | exact HB.out)) hb); clear HO523; clear HO527; clear HB; have HO523 := n0_; have HO527 := n1_; have HB := n2_; clear n0_ n1_ n2_; (try clear hb); (try clear hb2); (try clear hk); (try clear hi)))
                          go_meet
                          case rel => exact ⟨_, (true), (by first | rfl | (simp; done) | (simp [*]; done)), H', ⟨by have := HJ3.out; first | omega | exact Nat.le_refl _⟩, ⟨by repeat (first | (with_reducible first | exact HB.out | apply below_alloc | apply pw_below_drewN | apply below_drew1) | exact HB.out)⟩⟩
                      · rw [if_neg c29] at H
                        exact absurd H (by simp)
                    · rw [if_neg c28] at H
                      exact absurd H (by simp)
                  · rw [if_neg c27] at H
                    have c27b0 : (t530 == 0) = false := beq_eq_false_iff_ne.mpr c27
                    have c27b1 : (t530 != 0) = true := bne_iff_ne.mpr c27
                    have H' := Aside0.mk H
                    clear H
                    go_wp2_with (first | (go_at_call 55; (with_reducible refine (globs_Check.calls (t529 ++ (⟨#[47, 42, 42]⟩ : ByteArray)) t530 _ A26.out).mono ?_); rintro e w38 ⟨rfl, hb⟩; have n0_ := Aside0.mk (Kd.R_below (by (with_reducible repeat (first | apply Kd.R_alloc | apply Kd.R_drewN | apply Kd.R_drew)); exact HO523.out) hb); have n1_ := Aside0.mk (Kd.R_below (by (with_reducible repeat (first | apply Kd.R_alloc | apply Kd.R_drewN | apply Kd.R_drew)); exact HO527.out) hb); have n2_ := Aside0.mk (below_step (by repeat (first | (with_reducible first | exact HB.out | apply below_alloc | apply pw_below_drewN | apply below_drew1) | exact HB.out)) hb); clear HO523; clear HO527; clear HB; have HO523 := n0_; have HO527 := n1_; have HB := n2_; clear n0_ n1_ n2_; (try clear hb); (try clear hb2); (try clear hk); (try clear hi)))
                    go_meet
                    case rel => exact ⟨_, (false), (by first | rfl | (simp; done) | (simp [*]; done)), H', ⟨by have := HJ3.out; first | omega | exact Nat.le_refl _⟩, ⟨by repeat (first | (with_reducible first | exact HB.out | apply below_alloc | apply pw_below_drewN | apply below_drew1) | exact HB.out)⟩⟩
                · rw [if_neg c25] at H
                  have c25b0 : (t525 == 0) = false := beq_eq_false_iff_ne.mpr c25
                  have c25b1 : (t525 != 0) = true := bne_iff_ne.mpr c25
                  have H' := Aside0.mk H
                  clear H
                  go_wp2
                  go_meet
                  case rel => exact ⟨_, (false), (by first | rfl | (simp; done) | (simp [*]; done)), H', ⟨by have := HJ3.out; first | omega | exact Nat.le_refl _⟩, ⟨by repeat (first | (with_reducible first | exact HB.out | apply below_alloc | apply pw_below_drewN | apply below_drew1) | exact HB.out)⟩⟩
              · rw [if_neg c24] at H
                have c24b0 : (t521 == 0) = false := beq_eq_false_iff_ne.mpr c24
                have c24b1 : (t521 != 0) = true := bne_iff_ne.mpr c24
                (first | rw [c24b0] | (simp only [i64_w, i32_w]; rw [c24b0]) | skip)
                have H' := Aside0.mk H
                clear H
                go_wp2
                go_meet
                case rel => exact ⟨_, (false), (by first | rfl | (simp; done) | (simp [*]; done)), H', ⟨by have := HJ3.out; first | omega | exact Nat.le_refl _⟩, ⟨by repeat (first | (with_reducible first | exact HB.out | apply below_alloc | apply pw_below_drewN | apply below_drew1) | exact HB.out)⟩⟩
            case rest =>
              clear HC19
              try clear c1
              try clear c2
              try clear p2
              try clear c3
              try clear c5
              try clear c5b0
              try clear c5b1
              try clear c6
              try clear c6b0
              try clear c6b1
              try clear c7
              try clear c13
              try clear c13b0
              try clear c13b1
              try clear c13b2
              try clear c18
              try clear c18b0
              try clear c18b1
              try clear c18b2
              try clear c24
              try clear c24b0
              try clear c24b1
              try clear c25
              try clear c25b0
              try clear c25b1
              try clear c27
              try clear c27b0
              try clear c27b1
              try clear c28
              try clear c28b0
              try clear c28b1
              try clear c28b2
              try clear c29
              try clear c29b0
              try clear c29b1
              try clear c29b2
              try clear c31
              try clear c37
              try clear p2
              obtain ⟨kq, x69_18, rfl, HA, HJ18, HB⟩ := hcut
              cases kq with
              | zero => exact absurd HA.out (by simp [thwartlaw34_GlobsAny.j1])
              | succ kj18 =>
                have H := HA.out
                clear HA
                simp only [thwartlaw34_GlobsAny.j1] at H
                by_cases c39 : x69_18 = true
                · subst c39
                  have H1 : (some false) = some r := by rw [if_pos rfl] at H; exact H
                  clear H
                  have H := H1
                  clear H1
                  obtain rfl := Option.some.inj H
                  go_wp2
                  go_ret
                  exact ⟨by first | rfl | (simp [errW_none, errW_some] <;> rfl) | (simp [*, errW_none, errW_some] <;> rfl), by repeat (first | (with_reducible first | exact HB.out | apply below_alloc | apply pw_below_drewN | apply below_drew1) | exact HB.out)⟩
                · replace c39 := Bool.eq_false_iff.mpr c39
                  subst c39
                  have H1 : ((thwartref04_Name.f kj18 a0).bind fun t533 => (if t533 = true then ((globs_Name.f kj18 a2 a0).bind fun t534 => ((globs_Match.f kj18 a2 a0).bind fun t535 => (if (t534 == t535) = true then ((thwartlaw34_alive.f kj18).bind fun t536 => (some t536)) else ((thwartref04_Cut.f kj18 a2).bind fun t537 => (if (t537.length : Int) > 1 then ((thwartlaw34_alive.f kj18).bind fun t540 => (some t540)) else (some false)))))) else ((thwartlaw34_alive.f kj18).bind fun t541 => (some t541)))) = some r := by rw [if_neg (show ¬ (false = true) by decide)] at H; exact H
                  clear H
                  have H := H1
                  clear H1
                  replace H := Option.bind_eq_some_iff.mp H
                  obtain ⟨t533, A400, H⟩ := H
                  replace H : (if t533 = true then ((globs_Name.f kj18 a2 a0).bind fun t534 => ((globs_Match.f kj18 a2 a0).bind fun t535 => (if (t534 == t535) = true then ((thwartlaw34_alive.f kj18).bind fun t536 => (some t536)) else ((thwartref04_Cut.f kj18 a2).bind fun t537 => (if (t537.length : Int) > 1 then ((thwartlaw34_alive.f kj18).bind fun t540 => (some t540)) else (some false)))))) else ((thwartlaw34_alive.f kj18).bind fun t541 => (some t541))) = some r := H
                  have A40 := Aside0.mk A400
                  clear A400
                  by_cases c41 : t533 = true
                  · subst c41
                    have H1 : ((globs_Name.f kj18 a2 a0).bind fun t534 => ((globs_Match.f kj18 a2 a0).bind fun t535 => (if (t534 == t535) = true then ((thwartlaw34_alive.f kj18).bind fun t536 => (some t536)) else ((thwartref04_Cut.f kj18 a2).bind fun t537 => (if (t537.length : Int) > 1 then ((thwartlaw34_alive.f kj18).bind fun t540 => (some t540)) else (some false)))))) = some r := by rw [if_pos rfl] at H; exact H
                    clear H
                    have H := H1
                    clear H1
                    replace H := Option.bind_eq_some_iff.mp H
                    obtain ⟨t534, A420, H⟩ := H
                    replace H : ((globs_Match.f kj18 a2 a0).bind fun t535 => (if (t534 == t535) = true then ((thwartlaw34_alive.f kj18).bind fun t536 => (some t536)) else ((thwartref04_Cut.f kj18 a2).bind fun t537 => (if (t537.length : Int) > 1 then ((thwartlaw34_alive.f kj18).bind fun t540 => (some t540)) else (some false))))) = some r := H
                    have A42 := Aside0.mk A420
                    clear A420
                    replace H := Option.bind_eq_some_iff.mp H
                    obtain ⟨t535, A430, H⟩ := H
                    replace H : (if (t534 == t535) = true then ((thwartlaw34_alive.f kj18).bind fun t536 => (some t536)) else ((thwartref04_Cut.f kj18 a2).bind fun t537 => (if (t537.length : Int) > 1 then ((thwartlaw34_alive.f kj18).bind fun t540 => (some t540)) else (some false)))) = some r := H
                    have A43 := Aside0.mk A430
                    clear A430
                    by_cases c44 : (t534 == t535) = true
                    · rw [if_pos c44] at H
                      have c44b0 : (t534 == t535) = true := c44
                      (try (have c44b1 : decide (t534 = t535) = true := by simpa using c44))
                      (try (have c44b2 : (t534 == t535) = true := by simpa using c44))
                      clear c44
                      replace H := Option.bind_eq_some_iff.mp H
                      obtain ⟨t536, A450, H⟩ := H
                      replace H : (some t536) = some r := H
                      have A45 := Aside0.mk A450
                      clear A450
                      obtain rfl := Option.some.inj H
                      go_wp2_with (first | ((with_reducible refine gate_callee (f := 40) rfl ?_); refine goesL_ (some 71) rfl rfl Tryd.func40 (by kernel_rfl) rfl #[.string a0] rfl (by (try simp only [List.map_toArray, List.map_cons, List.map_nil]); first | done | rfl | (simp only [List.length_drop, List.length_take]; rfl)) ?_; (with_reducible refine (thwartref04_Name.calls kj18 a0 true _ A40.out).mono ?_); rintro e w' ⟨rfl, ⟨nd, rfl⟩⟩; refine ⟨_, rfl, ?_⟩) | (go_at_call 58; (with_reducible refine (globs_Name.calls kj18 a2 a0 t534 _ A42.out).mono ?_); rintro e w46 ⟨rfl, hb⟩; have n0_ := Aside0.mk (below_step (by repeat (first | (with_reducible first | exact HB.out | apply below_alloc | apply pw_below_drewN | apply below_drew1) | exact HB.out)) hb); clear HB; have HB := n0_; clear n0_; (try clear hb); (try clear hb2); (try clear hk); (try clear hi)) | (go_at_call 56; (with_reducible refine (globs_Match.calls kj18 a2 a0 t535 _ A43.out).mono ?_); rintro e w47 ⟨rfl, hb⟩; have n0_ := Aside0.mk (below_step (by repeat (first | (with_reducible first | exact HB.out | apply below_alloc | apply pw_below_drewN | apply below_drew1) | exact HB.out)) hb); clear HB; have HB := n0_; clear n0_; (try clear hb); (try clear hb2); (try clear hk); (try clear hi)) | (go_at_call 53; (with_reducible refine (thwartlaw34_alive.calls kj18  t536 _ A45.out).mono ?_); rintro e w48 ⟨rfl, hb⟩; have n0_ := Aside0.mk (below_step (by repeat (first | (with_reducible first | exact HB.out | apply below_alloc | apply pw_below_drewN | apply below_drew1) | exact HB.out)) hb); clear HB; have HB := n0_; clear n0_; (try clear hb); (try clear hb2); (try clear hk); (try clear hi)))
                      go_ret
                      exact ⟨by first | rfl | (simp [errW_none, errW_some] <;> rfl) | (simp [*, errW_none, errW_some] <;> rfl), by repeat (first | (with_reducible first | exact HB.out | apply below_alloc | apply pw_below_drewN | apply below_drew1) | exact HB.out)⟩
                    · rw [if_neg c44] at H
                      have c44b0 : (t534 == t535) = false := by simpa using c44
                      (try (have c44b1 : decide (t534 = t535) = false := by simpa using c44))
                      (try (have c44b2 : (t534 == t535) = false := by simpa using c44))
                      (try (have c44b3 : ¬ (t534 = t535) := by simpa using c44))
                      clear c44
                      replace H := Option.bind_eq_some_iff.mp H
                      obtain ⟨t537, A490, H⟩ := H
                      replace H : (if (t537.length : Int) > 1 then ((thwartlaw34_alive.f kj18).bind fun t540 => (some t540)) else (some false)) = some r := H
                      have A49 := Aside0.mk A490
                      clear A490
                      by_cases c50 : (t537.length : Int) > 1
                      · rw [if_pos c50] at H
                        have c50b0 : decide (1 < (t537.length : Int)) = true := decide_eq_true c50
                        have c50b1 : decide (1 < t537.length) = true := decide_eq_true (by omega)
                        clear c50
                        replace H := Option.bind_eq_some_iff.mp H
                        obtain ⟨t540, A510, H⟩ := H
                        replace H : (some t540) = some r := H
                        have A51 := Aside0.mk A510
                        clear A510
                        obtain rfl := Option.some.inj H
                        go_wp2_with (first | ((with_reducible refine gate_callee (f := 40) rfl ?_); refine goesL_ (some 71) rfl rfl Tryd.func40 (by kernel_rfl) rfl #[.string a0] rfl (by (try simp only [List.map_toArray, List.map_cons, List.map_nil]); first | done | rfl | (simp only [List.length_drop, List.length_take]; rfl)) ?_; (with_reducible refine (thwartref04_Name.calls kj18 a0 true _ A40.out).mono ?_); rintro e w' ⟨rfl, ⟨nd, rfl⟩⟩; refine ⟨_, rfl, ?_⟩) | (go_at_call 58; (with_reducible refine (globs_Name.calls kj18 a2 a0 t534 _ A42.out).mono ?_); rintro e w52 ⟨rfl, hb⟩; have n0_ := Aside0.mk (below_step (by repeat (first | (with_reducible first | exact HB.out | apply below_alloc | apply pw_below_drewN | apply below_drew1) | exact HB.out)) hb); clear HB; have HB := n0_; clear n0_; (try clear hb); (try clear hb2); (try clear hk); (try clear hi)) | (go_at_call 56; (with_reducible refine (globs_Match.calls kj18 a2 a0 t535 _ A43.out).mono ?_); rintro e w53 ⟨rfl, hb⟩; have n0_ := Aside0.mk (below_step (by repeat (first | (with_reducible first | exact HB.out | apply below_alloc | apply pw_below_drewN | apply below_drew1) | exact HB.out)) hb); clear HB; have HB := n0_; clear n0_; (try clear hb); (try clear hb2); (try clear hk); (try clear hi)) | (go_at_call 59; (with_reducible refine (thwartref04_Cut.calls kj18 a2 t537 _ A49.out).mono ?_); rintro e w54 ⟨v538, rfl, ho0, hb⟩; have n0_ := Aside0.mk (Kd.R_lower ho0 (below_size (by repeat (first | (with_reducible first | exact HB.out | apply below_alloc | apply pw_below_drewN | apply below_drew1) | exact HB.out)))); have n1_ := Aside0.mk (below_step (by repeat (first | (with_reducible first | exact HB.out | apply below_alloc | apply pw_below_drewN | apply below_drew1) | exact HB.out)) hb); clear HB; have HO539 := n0_; have HB := n1_; clear n0_ n1_; (try clear hb); (try clear hb2); (try clear hk); (try clear hi); (try clear ho0); obtain ⟨Ao55, co55, eo55⟩ := Kd.R_slice HO539.out; subst eo55) | (go_at_call 53; (with_reducible refine (thwartlaw34_alive.calls kj18  t540 _ A51.out).mono ?_); rintro e w56 ⟨rfl, hb⟩; have n0_ := Aside0.mk (Kd.R_below (by (with_reducible repeat (first | apply Kd.R_alloc | apply Kd.R_drewN | apply Kd.R_drew)); exact HO539.out) hb); have n1_ := Aside0.mk (below_step (by repeat (first | (with_reducible first | exact HB.out | apply below_alloc | apply pw_below_drewN | apply below_drew1) | exact HB.out)) hb); clear HO539; clear HB; have HO539 := n0_; have HB := n1_; clear n0_ n1_; (try clear hb); (try clear hb2); (try clear hk); (try clear hi)))
                        go_ret
                        exact ⟨by first | rfl | (simp [errW_none, errW_some] <;> rfl) | (simp [*, errW_none, errW_some] <;> rfl), by repeat (first | (with_reducible first | exact HB.out | apply below_alloc | apply pw_below_drewN | apply below_drew1) | exact HB.out)⟩
                      · rw [if_neg c50] at H
                        have c50b0 : decide (1 < (t537.length : Int)) = false := decide_eq_false c50
                        have c50b1 : decide (1 < t537.length) = false := decide_eq_false (by omega)
                        clear c50
                        obtain rfl := Option.some.inj H
                        go_wp2_with (first | ((with_reducible refine gate_callee (f := 40) rfl ?_); refine goesL_ (some 71) rfl rfl Tryd.func40 (by kernel_rfl) rfl #[.string a0] rfl (by (try simp only [List.map_toArray, List.map_cons, List.map_nil]); first | done | rfl | (simp only [List.length_drop, List.length_take]; rfl)) ?_; (with_reducible refine (thwartref04_Name.calls kj18 a0 true _ A40.out).mono ?_); rintro e w' ⟨rfl, ⟨nd, rfl⟩⟩; refine ⟨_, rfl, ?_⟩) | (go_at_call 58; (with_reducible refine (globs_Name.calls kj18 a2 a0 t534 _ A42.out).mono ?_); rintro e w57 ⟨rfl, hb⟩; have n0_ := Aside0.mk (below_step (by repeat (first | (with_reducible first | exact HB.out | apply below_alloc | apply pw_below_drewN | apply below_drew1) | exact HB.out)) hb); clear HB; have HB := n0_; clear n0_; (try clear hb); (try clear hb2); (try clear hk); (try clear hi)) | (go_at_call 56; (with_reducible refine (globs_Match.calls kj18 a2 a0 t535 _ A43.out).mono ?_); rintro e w58 ⟨rfl, hb⟩; have n0_ := Aside0.mk (below_step (by repeat (first | (with_reducible first | exact HB.out | apply below_alloc | apply pw_below_drewN | apply below_drew1) | exact HB.out)) hb); clear HB; have HB := n0_; clear n0_; (try clear hb); (try clear hb2); (try clear hk); (try clear hi)) | (go_at_call 59; (with_reducible refine (thwartref04_Cut.calls kj18 a2 t537 _ A49.out).mono ?_); rintro e w59 ⟨v538, rfl, ho0, hb⟩; have n0_ := Aside0.mk (Kd.R_lower ho0 (below_size (by repeat (first | (with_reducible first | exact HB.out | apply below_alloc | apply pw_below_drewN | apply below_drew1) | exact HB.out)))); have n1_ := Aside0.mk (below_step (by repeat (first | (with_reducible first | exact HB.out | apply below_alloc | apply pw_below_drewN | apply below_drew1) | exact HB.out)) hb); clear HB; have HO539 := n0_; have HB := n1_; clear n0_ n1_; (try clear hb); (try clear hb2); (try clear hk); (try clear hi); (try clear ho0); obtain ⟨Ao60, co60, eo60⟩ := Kd.R_slice HO539.out; subst eo60))
                        go_ret
                        exact ⟨by first | rfl | (simp [errW_none, errW_some] <;> rfl) | (simp [*, errW_none, errW_some] <;> rfl), by repeat (first | (with_reducible first | exact HB.out | apply below_alloc | apply pw_below_drewN | apply below_drew1) | exact HB.out)⟩
                  · replace c41 := Bool.eq_false_iff.mpr c41
                    subst c41
                    have H1 : ((thwartlaw34_alive.f kj18).bind fun t541 => (some t541)) = some r := by rw [if_neg (show ¬ (false = true) by decide)] at H; exact H
                    clear H
                    have H := H1
                    clear H1
                    replace H := Option.bind_eq_some_iff.mp H
                    obtain ⟨t541, A610, H⟩ := H
                    replace H : (some t541) = some r := H
                    have A61 := Aside0.mk A610
                    clear A610
                    obtain rfl := Option.some.inj H
                    go_wp2_with (first | ((with_reducible refine gate_callee (f := 40) rfl ?_); refine goesL_ (some 71) rfl rfl Tryd.func40 (by kernel_rfl) rfl #[.string a0] rfl (by (try simp only [List.map_toArray, List.map_cons, List.map_nil]); first | done | rfl | (simp only [List.length_drop, List.length_take]; rfl)) ?_; (with_reducible refine (thwartref04_Name.calls kj18 a0 false _ A40.out).mono ?_); rintro e w' ⟨rfl, ⟨nd, rfl⟩⟩; refine ⟨_, rfl, ?_⟩) | (go_at_call 53; (with_reducible refine (thwartlaw34_alive.calls kj18  t541 _ A61.out).mono ?_); rintro e w62 ⟨rfl, hb⟩; have n0_ := Aside0.mk (below_step (by repeat (first | (with_reducible first | exact HB.out | apply below_alloc | apply pw_below_drewN | apply below_drew1) | exact HB.out)) hb); clear HB; have HB := n0_; clear n0_; (try clear hb); (try clear hb2); (try clear hk); (try clear hi)))
                    go_ret
                    exact ⟨by first | rfl | (simp [errW_none, errW_some] <;> rfl) | (simp [*, errW_none, errW_some] <;> rfl), by repeat (first | (with_reducible first | exact HB.out | apply below_alloc | apply pw_below_drewN | apply below_drew1) | exact HB.out)⟩
          · rw [if_neg c18] at H
            exact absurd H (by simp)

/-- THE ONE PURE STATEMENT of thwartlaw34_GlobsAny: yours. -/
def thwartlaw34_GlobsAny.Pure : Prop := ∀ (a0 : ByteArray) (a1 : ByteArray) (a2 : ByteArray), a0.size ≤ 140737488351232 → a1.size ≤ 140737488351232 → a2.size ≤ 140737488351232 → ∃ k, thwartlaw34_GlobsAny.f k a0 a1 a2 = some true
theorem thwartlaw34_GlobsAny.walk (P : thwartlaw34_GlobsAny.Pure) (a0 : ByteArray) (a1 : ByteArray) (a2 : ByteArray) (w : World) (w0 : a0.size ≤ 140737488351232) (w1 : a1.size ≤ 140737488351232) (w2 : a2.size ≤ 140737488351232) :
    Calls Tryd.prog 13 #[.string a0, .string a1, .string a2] w fun e w' => e = .returned (.bool true) ∧ Below w.heap.size w w' := by
  obtain ⟨k, h⟩ := P a0 a1 a2 w0 w1 w2
  refine (thwartlaw34_GlobsAny.calls k a0 a1 a2 true w h).mono ?_
  rintro e w' ⟨rfl, hd⟩
  exact ⟨rfl, hd⟩

end Go.Proofs.YtpjanlpjjemenaaDoor.P
