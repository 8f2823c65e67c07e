-- Written by xprint.py (a program of this session's, over the kit's printer) out of the translation. Not trusted: Lean checks it.
import Derived.Test.YtpjanlpjjemenaaDoorF0base
import Derived.Test.YtpjanlpjjemenaaDoorF37
import Derived.Test.YtpjanlpjjemenaaDoorF52
import Derived.Test.YtpjanlpjjemenaaDoorF53
import Derived.Test.YtpjanlpjjemenaaDoorF54
import Derived.Test.YtpjanlpjjemenaaDoorF56
import Derived.Test.YtpjanlpjjemenaaDoorHGlobs
namespace Go.Proofs.YtpjanlpjjemenaaDoor.P
open Go.RowKit Go.Proofs.YtpjanlpjjemenaaDoorW.PrintWords Go.Proofs.YtpjanlpjjemenaaDoorW.PrintLast Go.Proofs.YtpjanlpjjemenaaDoorW.PrintMore Go.Proofs.YtpjanlpjjemenaaDoor.Hand
attribute [local go_sem] max2_int min2_int max_two min_two max_three min_three max_four min_four   -- for this text's walks alone
set_option linter.unusedVariables false
set_option linter.unusedSimpArgs false

/-! ### thwartlaw34_GlobsQuoted: function 12 -/
mutual
def thwartlaw34_GlobsQuoted.j0 : Nat → ByteArray → ByteArray → ByteArray → Bool → Option (Bool)
  | 0, _, _, _, _ => none
  | k + 1, x0, x1, x2, x26 => if x26 = true then ((thwartlaw34_alive.f k).bind fun t504 => (some t504)) else ((globs_Quote.f k x0).bind fun t505 => ((thwartref04_Parts.f k x0).bind fun bt506 => (if bt506.2 = 0 then ((globs_Check.f t505).bind fun t510 => (if t510 = 0 then ((globs_Match.f k t505 x0).bind fun t511 => (if t511 = true then (if x0.toList = x1.toList then ((globs_Least.f t505).bind fun t512 => (thwartlaw34_GlobsQuoted.j1 k x0 x2 (t512 != (x0.size : Int)))) else ((globs_Match.f k t505 x1).bind fun t513 => (if t513 = true then (thwartlaw34_GlobsQuoted.j1 k x0 x2 true) else ((globs_Least.f t505).bind fun t514 => (thwartlaw34_GlobsQuoted.j1 k x0 x2 (t514 != (x0.size : Int))))))) else (thwartlaw34_GlobsQuoted.j1 k x0 x2 true))) else (thwartlaw34_GlobsQuoted.j1 k x0 x2 false))) else (thwartlaw34_GlobsQuoted.j1 k x0 x2 false))))
def thwartlaw34_GlobsQuoted.j1 : Nat → ByteArray → ByteArray → Bool → Option (Bool)
  | 0, _, _, _ => none
  | k + 1, x0, x2, x64 => if x64 = true then (some false) else ((globs_Match.f k x2 x0).bind fun t515 => (if t515 = true then ((globs_Least.f x2).bind fun t516 => (if (x0.size : Int) ≥ t516 then ((thwartlaw34_alive.f k).bind fun t517 => (some t517)) else (some false))) else ((thwartlaw34_alive.f k).bind fun t518 => (some t518))))
end
def thwartlaw34_GlobsQuoted.f (k : Nat) (a0 : ByteArray) (a1 : ByteArray) (a2 : ByteArray) : Option (Bool) := if (a0.size : Int) > 320 then (thwartlaw34_GlobsQuoted.j0 k a0 a1 a2 true) else (if (a1.size : Int) > 320 then (thwartlaw34_GlobsQuoted.j0 k a0 a1 a2 true) else (if (a2.size : Int) > 320 then (thwartlaw34_GlobsQuoted.j0 k a0 a1 a2 true) else ((thwartlaw34_many.f k a2).bind fun t503 => (thwartlaw34_GlobsQuoted.j0 k a0 a1 a2 t503))))
theorem thwartlaw34_GlobsQuoted.mono_l : ∀ k, (∀ y0 y1 y2 y3, LeO (thwartlaw34_GlobsQuoted.j0 k y0 y1 y2 y3) (thwartlaw34_GlobsQuoted.j0 (k + 1) y0 y1 y2 y3)) ∧ (∀ y0 y1 y2, LeO (thwartlaw34_GlobsQuoted.j1 k y0 y1 y2) (thwartlaw34_GlobsQuoted.j1 (k + 1) y0 y1 y2))
  | 0 => ⟨fun _ _ _ _ r h => by simp [thwartlaw34_GlobsQuoted.j0] at h, fun _ _ _ r h => by simp [thwartlaw34_GlobsQuoted.j1] at h⟩
  | k + 1 => by
    obtain ⟨ih0, ih1⟩ := thwartlaw34_GlobsQuoted.mono_l k
    refine ⟨?_, ?_⟩
    · intro y0 y1 y2 y3
      unfold thwartlaw34_GlobsQuoted.j0
      repeat' first
      | (with_reducible exact ih0 _ _ _ _)
      | (with_reducible exact ih1 _ _ _)
      | (with_reducible exact globs_Match.mono _ _ _)
      | (with_reducible exact globs_Quote.mono _ _)
      | (with_reducible exact thwartlaw34_alive.mono _)
      | (with_reducible exact thwartlaw34_many.mono _ _)
      | (with_reducible exact thwartref04_Parts.mono _ _)
      | (with_reducible exact LeO.refl _)
      | (with_reducible exact LeO.none _)
      | (with_reducible refine LeO.ite ?_ ?_)
      | (with_reducible refine LeO.bind ?_ (fun _ => ?_))
      | exact ih0 _ _ _ _
      | exact ih1 _ _ _
      | exact globs_Match.mono _ _ _
      | exact globs_Quote.mono _ _
      | exact thwartlaw34_alive.mono _
      | exact thwartlaw34_many.mono _ _
      | exact thwartref04_Parts.mono _ _
      | exact LeO.none _
      | refine LeO.ite ?_ ?_
      | refine LeO.bind ?_ (fun _ => ?_)
    · intro y0 y1 y2
      unfold thwartlaw34_GlobsQuoted.j1
      repeat' first
      | (with_reducible exact ih0 _ _ _ _)
      | (with_reducible exact ih1 _ _ _)
      | (with_reducible exact globs_Match.mono _ _ _)
      | (with_reducible exact globs_Quote.mono _ _)
      | (with_reducible exact thwartlaw34_alive.mono _)
      | (with_reducible exact thwartlaw34_many.mono _ _)
      | (with_reducible exact thwartref04_Parts.mono _ _)
      | (with_reducible exact LeO.refl _)
      | (with_reducible exact LeO.none _)
      | (with_reducible refine LeO.ite ?_ ?_)
      | (with_reducible refine LeO.bind ?_ (fun _ => ?_))
      | exact ih0 _ _ _ _
      | exact ih1 _ _ _
      | exact globs_Match.mono _ _ _
      | exact globs_Quote.mono _ _
      | exact thwartlaw34_alive.mono _
      | exact thwartlaw34_many.mono _ _
      | exact thwartref04_Parts.mono _ _
      | exact LeO.none _
      | refine LeO.ite ?_ ?_
      | refine LeO.bind ?_ (fun _ => ?_)
theorem thwartlaw34_GlobsQuoted.mono : ∀ a0 a1 a2 k, LeO (thwartlaw34_GlobsQuoted.f k a0 a1 a2) (thwartlaw34_GlobsQuoted.f (k + 1) a0 a1 a2) := by
  intro a0 a1 a2 k
  obtain ⟨ih0, ih1⟩ := thwartlaw34_GlobsQuoted.mono_l k
  unfold thwartlaw34_GlobsQuoted.f
  repeat' first
      | (with_reducible exact ih0 _ _ _ _)
      | (with_reducible exact ih1 _ _ _)
      | (with_reducible exact globs_Match.mono _ _ _)
      | (with_reducible exact globs_Quote.mono _ _)
      | (with_reducible exact thwartlaw34_alive.mono _)
      | (with_reducible exact thwartlaw34_many.mono _ _)
      | (with_reducible exact thwartref04_Parts.mono _ _)
      | (with_reducible exact LeO.refl _)
      | (with_reducible exact LeO.none _)
      | (with_reducible refine LeO.ite ?_ ?_)
      | (with_reducible refine LeO.bind ?_ (fun _ => ?_))
      | exact ih0 _ _ _ _
      | exact ih1 _ _ _
      | exact globs_Match.mono _ _ _
      | exact globs_Quote.mono _ _
      | exact thwartlaw34_alive.mono _
      | exact thwartlaw34_many.mono _ _
      | exact thwartref04_Parts.mono _ _
      | exact LeO.none _
      | refine LeO.ite ?_ ?_
      | refine LeO.bind ?_ (fun _ => ?_)
set_option maxHeartbeats 8000000 in
set_option maxRecDepth 100000 in
theorem thwartlaw34_GlobsQuoted.calls (k : Nat) (a0 : ByteArray) (a1 : ByteArray) (a2 : ByteArray) (r : Bool) (w : World) (h : thwartlaw34_GlobsQuoted.f k a0 a1 a2 = some r) :
    Calls Tryd.prog 12 #[.string a0, .string a1, .string a2] w fun e w' => e = .returned (.bool r) ∧ Below w.heap.size w w' := by
  have HB := Aside0.mk (Below.refl w.heap.size w)
  have H : (if (a0.size : Int) > 320 then (thwartlaw34_GlobsQuoted.j0 k a0 a1 a2 true) else (if (a1.size : Int) > 320 then (thwartlaw34_GlobsQuoted.j0 k a0 a1 a2 true) else (if (a2.size : Int) > 320 then (thwartlaw34_GlobsQuoted.j0 k a0 a1 a2 true) else ((thwartlaw34_many.f k a2).bind fun t503 => (thwartlaw34_GlobsQuoted.j0 k a0 a1 a2 t503))))) = some r := h
  clear h
  have HC4 := Aside0.mk H
  clear H
  go_enter Tryd.func12, Tryd.ntmps12
  go_upto_region 1 with (fail)
  go_cut [26] (fun v26 wc => ∃ (kq : Nat) (x26_3 : Bool), v26 = .bool x26_3 ∧ Aside0 (thwartlaw34_GlobsQuoted.j0 kq a0 a1 a2 x26_3 = some r) ∧ Aside0 (kq ≤ k) ∧ Aside0 (Below w.heap.size w wc))
  case first =>
    have H := HC4.out
    clear HC4
    by_cases c5 : (a0.size : Int) > 320
    · rw [if_pos c5] at H
      have c5b0 : decide (320 < (a0.size : Int)) = true := decide_eq_true c5
      have c5b1 : decide (320 < a0.size) = true := decide_eq_true (by omega)
      clear c5
      (first | rw [c5b0] | (simp only [i64_w, i32_w]; rw [c5b0]) | skip)
      have H' := Aside0.mk H
      clear H
      go_wp2
      go_meet
      case rel => exact ⟨_, (true), (by first | rfl | (simp; done) | (simp [*]; done)), H', ⟨by first | omega | exact Nat.le_refl _⟩, ⟨by repeat (first | (with_reducible first | exact HB.out | apply below_alloc | apply pw_below_drewN | apply below_drew1) | exact HB.out)⟩⟩
    · rw [if_neg c5] at H
      have c5b0 : decide (320 < (a0.size : Int)) = false := decide_eq_false c5
      have c5b1 : decide (320 < a0.size) = false := decide_eq_false (by omega)
      clear c5
      (first | rw [c5b0] | (simp only [i64_w, i32_w]; rw [c5b0]) | skip)
      by_cases c6 : (a1.size : Int) > 320
      · rw [if_pos c6] at H
        have c6b0 : decide (320 < (a1.size : Int)) = true := decide_eq_true c6
        have c6b1 : decide (320 < a1.size) = true := decide_eq_true (by omega)
        clear c6
        have H' := Aside0.mk H
        clear H
        go_wp2
        go_meet
        case rel => exact ⟨_, (true), (by first | rfl | (simp; done) | (simp [*]; done)), H', ⟨by first | omega | exact Nat.le_refl _⟩, ⟨by repeat (first | (with_reducible first | exact HB.out | apply below_alloc | apply pw_below_drewN | apply below_drew1) | exact HB.out)⟩⟩
      · rw [if_neg c6] at H
        have c6b0 : decide (320 < (a1.size : Int)) = false := decide_eq_false c6
        have c6b1 : decide (320 < a1.size) = false := decide_eq_false (by omega)
        clear c6
        by_cases c7 : (a2.size : Int) > 320
        · rw [if_pos c7] at H
          have c7b0 : decide (320 < (a2.size : Int)) = true := decide_eq_true c7
          have c7b1 : decide (320 < a2.size) = true := decide_eq_true (by omega)
          clear c7
          have H' := Aside0.mk H
          clear H
          go_wp2
          go_meet
          case rel => exact ⟨_, (true), (by first | rfl | (simp; done) | (simp [*]; done)), H', ⟨by first | omega | exact Nat.le_refl _⟩, ⟨by repeat (first | (with_reducible first | exact HB.out | apply below_alloc | apply pw_below_drewN | apply below_drew1) | exact HB.out)⟩⟩
        · rw [if_neg c7] at H
          have c7b0 : decide (320 < (a2.size : Int)) = false := decide_eq_false c7
          have c7b1 : decide (320 < a2.size) = false := decide_eq_false (by omega)
          clear c7
          replace H := Option.bind_eq_some_iff.mp H
          obtain ⟨t503, A80, H⟩ := H
          replace H : (thwartlaw34_GlobsQuoted.j0 k a0 a1 a2 t503) = some r := H
          have A8 := Aside0.mk A80
          clear A80
          have H' := Aside0.mk H
          clear H
          go_wp2_with (first | (go_at_call 52; (with_reducible refine (thwartlaw34_many.calls k a2 t503 _ A8.out).mono ?_); rintro e w9 ⟨rfl, hb⟩; have n0_ := Aside0.mk (below_step (by repeat (first | (with_reducible first | exact HB.out | apply below_alloc | apply pw_below_drewN | apply below_drew1) | exact HB.out)) hb); clear HB; have HB := n0_; clear n0_; (try clear hb); (try clear hb2); (try clear hk); (try clear hi)))
          go_meet
          case rel => exact ⟨_, (t503), (by first | rfl | (simp; done) | (simp [*]; done)), H', ⟨by first | omega | exact Nat.le_refl _⟩, ⟨by repeat (first | (with_reducible first | exact HB.out | apply below_alloc | apply pw_below_drewN | apply below_drew1) | exact HB.out)⟩⟩
  case rest =>
    clear HC4
    try clear c1
    try clear p2
    try clear c5
    try clear c5b0
    try clear c5b1
    try clear c6
    try clear c6b0
    try clear c6b1
    try clear c7
    try clear c7b0
    try clear c7b1
    obtain ⟨kq, x26_3, rfl, HA, HJ3, HB⟩ := hcut
    cases kq with
    | zero => exact absurd HA.out (by simp [thwartlaw34_GlobsQuoted.j0])
    | succ kj3 =>
      have H := HA.out
      clear HA
      simp only [thwartlaw34_GlobsQuoted.j0] at H
      by_cases c10 : x26_3 = true
      · subst c10
        have H1 : ((thwartlaw34_alive.f kj3).bind fun t504 => (some t504)) = some r := by rw [if_pos rfl] at H; exact H
        clear H
        have H := H1
        clear H1
        replace H := Option.bind_eq_some_iff.mp H
        obtain ⟨t504, A110, H⟩ := H
        replace H : (some t504) = some r := H
        have A11 := Aside0.mk A110
        clear A110
        obtain rfl := Option.some.inj H
        go_wp2_with (first | ((with_reducible refine gate_callee (f := 53) rfl ?_); refine goesL_ (some 27) rfl rfl Tryd.func53 (by kernel_rfl) rfl #[] rfl (by (try simp only [List.map_toArray, List.map_cons, List.map_nil]); first | done | rfl | (simp only [List.length_drop, List.length_take]; rfl)) ?_; (with_reducible refine (thwartlaw34_alive.calls kj3  t504 _ A11.out).mono ?_); rintro e w12 ⟨rfl, hb⟩; refine ⟨_, rfl, ?_⟩; have n0_ := Aside0.mk (below_step (by repeat (first | (with_reducible first | exact HB.out | apply below_alloc | apply pw_below_drewN | apply below_drew1) | exact HB.out)) hb); clear HB; have HB := n0_; clear n0_; (try clear hb); (try clear hb2); (try clear hk); (try clear hi)))
        go_ret
        exact ⟨by first | rfl | (simp [errW_none, errW_some] <;> rfl) | (simp [*, errW_none, errW_some] <;> rfl), by repeat (first | (with_reducible first | exact HB.out | apply below_alloc | apply pw_below_drewN | apply below_drew1) | exact HB.out)⟩
      · replace c10 := Bool.eq_false_iff.mpr c10
        subst c10
        have H1 : ((globs_Quote.f kj3 a0).bind fun t505 => ((thwartref04_Parts.f kj3 a0).bind fun bt506 => (if bt506.2 = 0 then ((globs_Check.f t505).bind fun t510 => (if t510 = 0 then ((globs_Match.f kj3 t505 a0).bind fun t511 => (if t511 = true then (if a0.toList = a1.toList then ((globs_Least.f t505).bind fun t512 => (thwartlaw34_GlobsQuoted.j1 kj3 a0 a2 (t512 != (a0.size : Int)))) else ((globs_Match.f kj3 t505 a1).bind fun t513 => (if t513 = true then (thwartlaw34_GlobsQuoted.j1 kj3 a0 a2 true) else ((globs_Least.f t505).bind fun t514 => (thwartlaw34_GlobsQuoted.j1 kj3 a0 a2 (t514 != (a0.size : Int))))))) else (thwartlaw34_GlobsQuoted.j1 kj3 a0 a2 true))) else (thwartlaw34_GlobsQuoted.j1 kj3 a0 a2 false))) else (thwartlaw34_GlobsQuoted.j1 kj3 a0 a2 false)))) = some r := by rw [if_neg (show ¬ (false = true) by decide)] at H; exact H
        clear H
        have H := H1
        clear H1
        replace H := Option.bind_eq_some_iff.mp H
        obtain ⟨t505, A130, H⟩ := H
        replace H : ((thwartref04_Parts.f kj3 a0).bind fun bt506 => (if bt506.2 = 0 then ((globs_Check.f t505).bind fun t510 => (if t510 = 0 then ((globs_Match.f kj3 t505 a0).bind fun t511 => (if t511 = true then (if a0.toList = a1.toList then ((globs_Least.f t505).bind fun t512 => (thwartlaw34_GlobsQuoted.j1 kj3 a0 a2 (t512 != (a0.size : Int)))) else ((globs_Match.f kj3 t505 a1).bind fun t513 => (if t513 = true then (thwartlaw34_GlobsQuoted.j1 kj3 a0 a2 true) else ((globs_Least.f t505).bind fun t514 => (thwartlaw34_GlobsQuoted.j1 kj3 a0 a2 (t514 != (a0.size : Int))))))) else (thwartlaw34_GlobsQuoted.j1 kj3 a0 a2 true))) else (thwartlaw34_GlobsQuoted.j1 kj3 a0 a2 false))) else (thwartlaw34_GlobsQuoted.j1 kj3 a0 a2 false))) = some r := H
        have A13 := Aside0.mk A130
        clear A130
        replace H := Option.bind_eq_some_iff.mp H
        obtain ⟨⟨t506, t507⟩, A140, H⟩ := H
        replace H : (if t507 = 0 then ((globs_Check.f t505).bind fun t510 => (if t510 = 0 then ((globs_Match.f kj3 t505 a0).bind fun t511 => (if t511 = true then (if a0.toList = a1.toList then ((globs_Least.f t505).bind fun t512 => (thwartlaw34_GlobsQuoted.j1 kj3 a0 a2 (t512 != (a0.size : Int)))) else ((globs_Match.f kj3 t505 a1).bind fun t513 => (if t513 = true then (thwartlaw34_GlobsQuoted.j1 kj3 a0 a2 true) else ((globs_Least.f t505).bind fun t514 => (thwartlaw34_GlobsQuoted.j1 kj3 a0 a2 (t514 != (a0.size : Int))))))) else (thwartlaw34_GlobsQuoted.j1 kj3 a0 a2 true))) else (thwartlaw34_GlobsQuoted.j1 kj3 a0 a2 false))) else (thwartlaw34_GlobsQuoted.j1 kj3 a0 a2 false)) = some r := H
        have A14 := Aside0.mk A140
        clear A140
        have HC15 := Aside0.mk H
        clear H
        go_upto_region 5 with (first | ((with_reducible refine gate_callee (f := 54) rfl ?_); refine goesL_ (some 29) rfl rfl Tryd.func54 (by kernel_rfl) rfl #[.string a0] rfl (by (try simp only [List.map_toArray, List.map_cons, List.map_nil]); first | done | rfl | (simp only [List.length_drop, List.length_take]; rfl)) ?_; (with_reducible refine (globs_Quote.calls kj3 a0 t505 _ A13.out).mono ?_); rintro e w16 ⟨rfl, hb⟩; refine ⟨_, rfl, ?_⟩; have n0_ := Aside0.mk (below_step (by repeat (first | (with_reducible first | exact HB.out | apply below_alloc | apply pw_below_drewN | apply below_drew1) | exact HB.out)) hb); clear HB; have HB := n0_; clear n0_; (try clear hb); (try clear hb2); (try clear hk); (try clear hi)) | ((with_reducible refine gate_callee (f := 37) rfl ?_); refine goesL_ (some 32) rfl rfl Tryd.func37 (by kernel_rfl) rfl #[.string a0] rfl (by (try simp only [List.map_toArray, List.map_cons, List.map_nil]); first | done | rfl | (simp only [List.length_drop, List.length_take]; rfl)) ?_; (with_reducible refine (thwartref04_Parts.calls kj3 a0 t506 t507 _ A14.out).mono ?_); rintro e w17 ⟨v508, rfl, ho0, hb⟩; refine ⟨_, rfl, ?_⟩; have n0_ := Aside0.mk (Kd.R_lower ho0 (below_size (by repeat (first | (with_reducible first | exact HB.out | apply below_alloc | apply pw_below_drewN | apply below_drew1) | exact HB.out)))); have n1_ := Aside0.mk (below_step (by repeat (first | (with_reducible first | exact HB.out | apply below_alloc | apply pw_below_drewN | apply below_drew1) | exact HB.out)) hb); clear HB; have HO509 := n0_; have HB := n1_; clear n0_ n1_; (try clear hb); (try clear hb2); (try clear hk); (try clear hi); (try clear ho0)))
        (try simp only [Act.put, List.setIfInBounds_toArray, List.set_cons_zero, List.set_cons_succ])
        go_cut [64] (fun v64 wc => ∃ (kq : Nat) (x64_14 : Bool), v64 = .bool x64_14 ∧ Aside0 (thwartlaw34_GlobsQuoted.j1 kq a0 a2 x64_14 = some r) ∧ Aside0 (kq ≤ kj3) ∧ Aside0 (Below w.heap.size w wc))
        case first =>
          have H := HC15.out
          clear HC15
          by_cases c18 : t507 = 0
          · rw [if_pos c18] at H
            have c18b0 : (t507 == 0) = true := beq_iff_eq.mpr c18
            have c18b1 : (t507 != 0) = false := bne_eq_false_iff_eq.mpr c18
            clear c18
            (first | rw [c18b0] | (simp only [i64_w, i32_w]; rw [c18b0]) | skip)
            replace H := Option.bind_eq_some_iff.mp H
            obtain ⟨t510, A190, H⟩ := H
            replace H : (if t510 = 0 then ((globs_Match.f kj3 t505 a0).bind fun t511 => (if t511 = true then (if a0.toList = a1.toList then ((globs_Least.f t505).bind fun t512 => (thwartlaw34_GlobsQuoted.j1 kj3 a0 a2 (t512 != (a0.size : Int)))) else ((globs_Match.f kj3 t505 a1).bind fun t513 => (if t513 = true then (thwartlaw34_GlobsQuoted.j1 kj3 a0 a2 true) else ((globs_Least.f t505).bind fun t514 => (thwartlaw34_GlobsQuoted.j1 kj3 a0 a2 (t514 != (a0.size : Int))))))) else (thwartlaw34_GlobsQuoted.j1 kj3 a0 a2 true))) else (thwartlaw34_GlobsQuoted.j1 kj3 a0 a2 false)) = some r := H
            have A19 := Aside0.mk A190
            clear A190
            by_cases c20 : t510 = 0
            · rw [if_pos c20] at H
              have c20b0 : (t510 == 0) = true := beq_iff_eq.mpr c20
              have c20b1 : (t510 != 0) = false := bne_eq_false_iff_eq.mpr c20
              clear c20
              replace H := Option.bind_eq_some_iff.mp H
              obtain ⟨t511, A210, H⟩ := H
              replace H : (if t511 = true then (if a0.toList = a1.toList then ((globs_Least.f t505).bind fun t512 => (thwartlaw34_GlobsQuoted.j1 kj3 a0 a2 (t512 != (a0.size : Int)))) else ((globs_Match.f kj3 t505 a1).bind fun t513 => (if t513 = true then (thwartlaw34_GlobsQuoted.j1 kj3 a0 a2 true) else ((globs_Least.f t505).bind fun t514 => (thwartlaw34_GlobsQuoted.j1 kj3 a0 a2 (t514 != (a0.size : Int))))))) else (thwartlaw34_GlobsQuoted.j1 kj3 a0 a2 true)) = some r := H
              have A21 := Aside0.mk A210
              clear A210
              by_cases c22 : t511 = true
              · subst c22
                have H1 : (if a0.toList = a1.toList then ((globs_Least.f t505).bind fun t512 => (thwartlaw34_GlobsQuoted.j1 kj3 a0 a2 (t512 != (a0.size : Int)))) else ((globs_Match.f kj3 t505 a1).bind fun t513 => (if t513 = true then (thwartlaw34_GlobsQuoted.j1 kj3 a0 a2 true) else ((globs_Least.f t505).bind fun t514 => (thwartlaw34_GlobsQuoted.j1 kj3 a0 a2 (t514 != (a0.size : Int))))))) = some r := by rw [if_pos rfl] at H; exact H
                clear H
                have H := H1
                clear H1
                by_cases c23 : a0.toList = a1.toList
                · rw [if_pos c23] at H
                  have c23b0 : (a0.toList == a1.toList) = true := beq_iff_eq.mpr c23
                  have c23b1 : (a0.toList != a1.toList) = false := bne_eq_false_iff_eq.mpr c23
                  clear c23
                  replace H := Option.bind_eq_some_iff.mp H
                  obtain ⟨t512, A240, H⟩ := H
                  replace H : (thwartlaw34_GlobsQuoted.j1 kj3 a0 a2 (t512 != (a0.size : Int))) = some r := H
                  have A24 := Aside0.mk A240
                  clear A240
                  have H' := Aside0.mk H
                  clear H
                  go_wp2_with (first | (go_at_call 55; (with_reducible refine (globs_Check.calls t505 t510 _ A19.out).mono ?_); rintro e w25 ⟨rfl, hb⟩; have n0_ := Aside0.mk (Kd.R_below (by (with_reducible repeat (first | apply Kd.R_alloc | apply Kd.R_drewN | apply Kd.R_drew)); exact HO509.out) hb); have n1_ := Aside0.mk (below_step (by repeat (first | (with_reducible first | exact HB.out | apply below_alloc | apply pw_below_drewN | apply below_drew1) | exact HB.out)) hb); clear HO509; clear HB; have HO509 := n0_; have HB := n1_; clear n0_ n1_; (try clear hb); (try clear hb2); (try clear hk); (try clear hi)) | (go_at_call 56; (with_reducible refine (globs_Match.calls kj3 t505 a0 true _ A21.out).mono ?_); rintro e w26 ⟨rfl, hb⟩; have n0_ := Aside0.mk (Kd.R_below (by (with_reducible repeat (first | apply Kd.R_alloc | apply Kd.R_drewN | apply Kd.R_drew)); exact HO509.out) hb); have n1_ := Aside0.mk (below_step (by repeat (first | (with_reducible first | exact HB.out | apply below_alloc | apply pw_below_drewN | apply below_drew1) | exact HB.out)) hb); clear HO509; clear HB; have HO509 := n0_; have HB := n1_; clear n0_ n1_; (try clear hb); (try clear hb2); (try clear hk); (try clear hi)) | (go_at_call 57; (with_reducible refine (globs_Least.calls t505 t512 _ A24.out).mono ?_); rintro e w27 ⟨rfl, hb⟩; have n0_ := Aside0.mk (Kd.R_below (by (with_reducible repeat (first | apply Kd.R_alloc | apply Kd.R_drewN | apply Kd.R_drew)); exact HO509.out) hb); have n1_ := Aside0.mk (below_step (by repeat (first | (with_reducible first | exact HB.out | apply below_alloc | apply pw_below_drewN | apply below_drew1) | exact HB.out)) hb); clear HO509; clear HB; have HO509 := n0_; have HB := n1_; clear n0_ n1_; (try clear hb); (try clear hb2); (try clear hk); (try clear hi)))
                  go_meet
                  case rel => exact ⟨_, ((t512 != (a0.size : Int))), (by first | rfl | (simp; done) | (simp [*]; done)), H', ⟨by have := HJ3.out; first | omega | exact Nat.le_refl _⟩, ⟨by repeat (first | (with_reducible first | exact HB.out | apply below_alloc | apply pw_below_drewN | apply below_drew1) | exact HB.out)⟩⟩
                · rw [if_neg c23] at H
                  have c23b0 : (a0.toList == a1.toList) = false := beq_eq_false_iff_ne.mpr c23
                  have c23b1 : (a0.toList != a1.toList) = true := bne_iff_ne.mpr c23
                  replace H := Option.bind_eq_some_iff.mp H
                  obtain ⟨t513, A280, H⟩ := H
                  replace H : (if t513 = true then (thwartlaw34_GlobsQuoted.j1 kj3 a0 a2 true) else ((globs_Least.f t505).bind fun t514 => (thwartlaw34_GlobsQuoted.j1 kj3 a0 a2 (t514 != (a0.size : Int))))) = some r := H
                  have A28 := Aside0.mk A280
                  clear A280
                  by_cases c29 : t513 = true
                  · subst c29
                    have H1 : (thwartlaw34_GlobsQuoted.j1 kj3 a0 a2 true) = some r := by rw [if_pos rfl] at H; exact H
                    clear H
                    have H := H1
                    clear H1
                    have H' := Aside0.mk H
                    clear H
                    go_wp2_with (first | (go_at_call 55; (with_reducible refine (globs_Check.calls t505 t510 _ A19.out).mono ?_); rintro e w30 ⟨rfl, hb⟩; have n0_ := Aside0.mk (Kd.R_below (by (with_reducible repeat (first | apply Kd.R_alloc | apply Kd.R_drewN | apply Kd.R_drew)); exact HO509.out) hb); have n1_ := Aside0.mk (below_step (by repeat (first | (with_reducible first | exact HB.out | apply below_alloc | apply pw_below_drewN | apply below_drew1) | exact HB.out)) hb); clear HO509; clear HB; have HO509 := n0_; have HB := n1_; clear n0_ n1_; (try clear hb); (try clear hb2); (try clear hk); (try clear hi)) | (go_at_call 56; (with_reducible refine (globs_Match.calls kj3 t505 a0 true _ A21.out).mono ?_); rintro e w31 ⟨rfl, hb⟩; have n0_ := Aside0.mk (Kd.R_below (by (with_reducible repeat (first | apply Kd.R_alloc | apply Kd.R_drewN | apply Kd.R_drew)); exact HO509.out) hb); have n1_ := Aside0.mk (below_step (by repeat (first | (with_reducible first | exact HB.out | apply below_alloc | apply pw_below_drewN | apply below_drew1) | exact HB.out)) hb); clear HO509; clear HB; have HO509 := n0_; have HB := n1_; clear n0_ n1_; (try clear hb); (try clear hb2); (try clear hk); (try clear hi)) | (go_at_call 56; (with_reducible refine (globs_Match.calls kj3 t505 a1 true _ A28.out).mono ?_); rintro e w32 ⟨rfl, hb⟩; have n0_ := Aside0.mk (Kd.R_below (by (with_reducible repeat (first | apply Kd.R_alloc | apply Kd.R_drewN | apply Kd.R_drew)); exact HO509.out) hb); have n1_ := Aside0.mk (below_step (by repeat (first | (with_reducible first | exact HB.out | apply below_alloc | apply pw_below_drewN | apply below_drew1) | exact HB.out)) hb); clear HO509; clear HB; have HO509 := n0_; have HB := n1_; clear n0_ n1_; (try clear hb); (try clear hb2); (try clear hk); (try clear hi)))
                    go_meet
                    case rel => exact ⟨_, (true), (by first | rfl | (simp; done) | (simp [*]; done)), H', ⟨by have := HJ3.out; first | omega | exact Nat.le_refl _⟩, ⟨by repeat (first | (with_reducible first | exact HB.out | apply below_alloc | apply pw_below_drewN | apply below_drew1) | exact HB.out)⟩⟩
                  · replace c29 := Bool.eq_false_iff.mpr c29
                    subst c29
                    have H1 : ((globs_Least.f t505).bind fun t514 => (thwartlaw34_GlobsQuoted.j1 kj3 a0 a2 (t514 != (a0.size : Int)))) = some r := by rw [if_neg (show ¬ (false = true) by decide)] at H; exact H
                    clear H
                    have H := H1
                    clear H1
                    replace H := Option.bind_eq_some_iff.mp H
                    obtain ⟨t514, A330, H⟩ := H
                    replace H : (thwartlaw34_GlobsQuoted.j1 kj3 a0 a2 (t514 != (a0.size : Int))) = some r := H
                    have A33 := Aside0.mk A330
                    clear A330
                    have H' := Aside0.mk H
                    clear H
                    go_wp2_with (first | (go_at_call 55; (with_reducible refine (globs_Check.calls t505 t510 _ A19.out).mono ?_); rintro e w34 ⟨rfl, hb⟩; have n0_ := Aside0.mk (Kd.R_below (by (with_reducible repeat (first | apply Kd.R_alloc | apply Kd.R_drewN | apply Kd.R_drew)); exact HO509.out) hb); have n1_ := Aside0.mk (below_step (by repeat (first | (with_reducible first | exact HB.out | apply below_alloc | apply pw_below_drewN | apply below_drew1) | exact HB.out)) hb); clear HO509; clear HB; have HO509 := n0_; have HB := n1_; clear n0_ n1_; (try clear hb); (try clear hb2); (try clear hk); (try clear hi)) | (go_at_call 56; (with_reducible refine (globs_Match.calls kj3 t505 a0 true _ A21.out).mono ?_); rintro e w35 ⟨rfl, hb⟩; have n0_ := Aside0.mk (Kd.R_below (by (with_reducible repeat (first | apply Kd.R_alloc | apply Kd.R_drewN | apply Kd.R_drew)); exact HO509.out) hb); have n1_ := Aside0.mk (below_step (by repeat (first | (with_reducible first | exact HB.out | apply below_alloc | apply pw_below_drewN | apply below_drew1) | exact HB.out)) hb); clear HO509; clear HB; have HO509 := n0_; have HB := n1_; clear n0_ n1_; (try clear hb); (try clear hb2); (try clear hk); (try clear hi)) | (go_at_call 56; (with_reducible refine (globs_Match.calls kj3 t505 a1 false _ A28.out).mono ?_); rintro e w36 ⟨rfl, hb⟩; have n0_ := Aside0.mk (Kd.R_below (by (with_reducible repeat (first | apply Kd.R_alloc | apply Kd.R_drewN | apply Kd.R_drew)); exact HO509.out) hb); have n1_ := Aside0.mk (below_step (by repeat (first | (with_reducible first | exact HB.out | apply below_alloc | apply pw_below_drewN | apply below_drew1) | exact HB.out)) hb); clear HO509; clear HB; have HO509 := n0_; have HB := n1_; clear n0_ n1_; (try clear hb); (try clear hb2); (try clear hk); (try clear hi)) | (go_at_call 57; (with_reducible refine (globs_Least.calls t505 t514 _ A33.out).mono ?_); rintro e w37 ⟨rfl, hb⟩; have n0_ := Aside0.mk (Kd.R_below (by (with_reducible repeat (first | apply Kd.R_alloc | apply Kd.R_drewN | apply Kd.R_drew)); exact HO509.out) hb); have n1_ := Aside0.mk (below_step (by repeat (first | (with_reducible first | exact HB.out | apply below_alloc | apply pw_below_drewN | apply below_drew1) | exact HB.out)) hb); clear HO509; clear HB; have HO509 := n0_; have HB := n1_; clear n0_ n1_; (try clear hb); (try clear hb2); (try clear hk); (try clear hi)))
                    go_meet
                    case rel => exact ⟨_, ((t514 != (a0.size : Int))), (by first | rfl | (simp; done) | (simp [*]; done)), H', ⟨by have := HJ3.out; first | omega | exact Nat.le_refl _⟩, ⟨by repeat (first | (with_reducible first | exact HB.out | apply below_alloc | apply pw_below_drewN | apply below_drew1) | exact HB.out)⟩⟩
              · replace c22 := Bool.eq_false_iff.mpr c22
                subst c22
                have H1 : (thwartlaw34_GlobsQuoted.j1 kj3 a0 a2 true) = some r := by rw [if_neg (show ¬ (false = true) by decide)] at H; exact H
                clear H
                have H := H1
                clear H1
                have H' := Aside0.mk H
                clear H
                go_wp2_with (first | (go_at_call 55; (with_reducible refine (globs_Check.calls t505 t510 _ A19.out).mono ?_); rintro e w38 ⟨rfl, hb⟩; have n0_ := Aside0.mk (Kd.R_below (by (with_reducible repeat (first | apply Kd.R_alloc | apply Kd.R_drewN | apply Kd.R_drew)); exact HO509.out) hb); have n1_ := Aside0.mk (below_step (by repeat (first | (with_reducible first | exact HB.out | apply below_alloc | apply pw_below_drewN | apply below_drew1) | exact HB.out)) hb); clear HO509; clear HB; have HO509 := n0_; have HB := n1_; clear n0_ n1_; (try clear hb); (try clear hb2); (try clear hk); (try clear hi)) | (go_at_call 56; (with_reducible refine (globs_Match.calls kj3 t505 a0 false _ A21.out).mono ?_); rintro e w39 ⟨rfl, hb⟩; have n0_ := Aside0.mk (Kd.R_below (by (with_reducible repeat (first | apply Kd.R_alloc | apply Kd.R_drewN | apply Kd.R_drew)); exact HO509.out) hb); have n1_ := Aside0.mk (below_step (by repeat (first | (with_reducible first | exact HB.out | apply below_alloc | apply pw_below_drewN | apply below_drew1) | exact HB.out)) hb); clear HO509; clear HB; have HO509 := n0_; have HB := n1_; clear n0_ n1_; (try clear hb); (try clear hb2); (try clear hk); (try clear hi)))
                go_meet
                case rel => exact ⟨_, (true), (by first | rfl | (simp; done) | (simp [*]; done)), H', ⟨by have := HJ3.out; first | omega | exact Nat.le_refl _⟩, ⟨by repeat (first | (with_reducible first | exact HB.out | apply below_alloc | apply pw_below_drewN | apply below_drew1) | exact HB.out)⟩⟩
            · rw [if_neg c20] at H
              have c20b0 : (t510 == 0) = false := beq_eq_false_iff_ne.mpr c20
              have c20b1 : (t510 != 0) = true := bne_iff_ne.mpr c20
              have H' := Aside0.mk H
              clear H
              go_wp2_with (first | (go_at_call 55; (with_reducible refine (globs_Check.calls t505 t510 _ A19.out).mono ?_); rintro e w40 ⟨rfl, hb⟩; have n0_ := Aside0.mk (Kd.R_below (by (with_reducible repeat (first | apply Kd.R_alloc | apply Kd.R_drewN | apply Kd.R_drew)); exact HO509.out) hb); have n1_ := Aside0.mk (below_step (by repeat (first | (with_reducible first | exact HB.out | apply below_alloc | apply pw_below_drewN | apply below_drew1) | exact HB.out)) hb); clear HO509; clear HB; have HO509 := n0_; have HB := n1_; clear n0_ n1_; (try clear hb); (try clear hb2); (try clear hk); (try clear hi)))
              go_meet
              case rel => exact ⟨_, (false), (by first | rfl | (simp; done) | (simp [*]; done)), H', ⟨by have := HJ3.out; first | omega | exact Nat.le_refl _⟩, ⟨by repeat (first | (with_reducible first | exact HB.out | apply below_alloc | apply pw_below_drewN | apply below_drew1) | exact HB.out)⟩⟩
          · rw [if_neg c18] at H
            have c18b0 : (t507 == 0) = false := beq_eq_false_iff_ne.mpr c18
            have c18b1 : (t507 != 0) = true := bne_iff_ne.mpr c18
            (first | rw [c18b0] | (simp only [i64_w, i32_w]; rw [c18b0]) | skip)
            have H' := Aside0.mk H
            clear H
            go_wp2
            go_meet
            case rel => exact ⟨_, (false), (by first | rfl | (simp; done) | (simp [*]; done)), H', ⟨by have := HJ3.out; first | omega | exact Nat.le_refl _⟩, ⟨by repeat (first | (with_reducible first | exact HB.out | apply below_alloc | apply pw_below_drewN | apply below_drew1) | exact HB.out)⟩⟩
        case rest =>
          clear HC15
          try clear c1
          try clear c2
          try clear p2
          try clear c3
          try clear c5
          try clear c5b0
          try clear c5b1
          try clear c6
          try clear c6b0
          try clear c6b1
          try clear c7
          try clear c7b0
          try clear c7b1
          try clear c10
          try clear c12
          try clear c18
          try clear c18b0
          try clear c18b1
          try clear c20
          try clear c20b0
          try clear c20b1
          try clear c22
          try clear c23
          try clear c23b0
          try clear c23b1
          try clear c29
          try clear c37
          try clear p2
          obtain ⟨kq, x64_14, rfl, HA, HJ14, HB⟩ := hcut
          cases kq with
          | zero => exact absurd HA.out (by simp [thwartlaw34_GlobsQuoted.j1])
          | succ kj14 =>
            have H := HA.out
            clear HA
            simp only [thwartlaw34_GlobsQuoted.j1] at H
            by_cases c41 : x64_14 = true
            · subst c41
              have H1 : (some false) = some r := by rw [if_pos rfl] at H; exact H
              clear H
              have H := H1
              clear H1
              obtain rfl := Option.some.inj H
              go_wp2
              go_ret
              exact ⟨by first | rfl | (simp [errW_none, errW_some] <;> rfl) | (simp [*, errW_none, errW_some] <;> rfl), by repeat (first | (with_reducible first | exact HB.out | apply below_alloc | apply pw_below_drewN | apply below_drew1) | exact HB.out)⟩
            · replace c41 := Bool.eq_false_iff.mpr c41
              subst c41
              have H1 : ((globs_Match.f kj14 a2 a0).bind fun t515 => (if t515 = true then ((globs_Least.f a2).bind fun t516 => (if (a0.size : Int) ≥ t516 then ((thwartlaw34_alive.f kj14).bind fun t517 => (some t517)) else (some false))) else ((thwartlaw34_alive.f kj14).bind fun t518 => (some t518)))) = some r := by rw [if_neg (show ¬ (false = true) by decide)] at H; exact H
              clear H
              have H := H1
              clear H1
              replace H := Option.bind_eq_some_iff.mp H
              obtain ⟨t515, A420, H⟩ := H
              replace H : (if t515 = true then ((globs_Least.f a2).bind fun t516 => (if (a0.size : Int) ≥ t516 then ((thwartlaw34_alive.f kj14).bind fun t517 => (some t517)) else (some false))) else ((thwartlaw34_alive.f kj14).bind fun t518 => (some t518))) = some r := H
              have A42 := Aside0.mk A420
              clear A420
              by_cases c43 : t515 = true
              · subst c43
                have H1 : ((globs_Least.f a2).bind fun t516 => (if (a0.size : Int) ≥ t516 then ((thwartlaw34_alive.f kj14).bind fun t517 => (some t517)) else (some false))) = some r := by rw [if_pos rfl] at H; exact H
                clear H
                have H := H1
                clear H1
                replace H := Option.bind_eq_some_iff.mp H
                obtain ⟨t516, A440, H⟩ := H
                replace H : (if (a0.size : Int) ≥ t516 then ((thwartlaw34_alive.f kj14).bind fun t517 => (some t517)) else (some false)) = some r := H
                have A44 := Aside0.mk A440
                clear A440
                by_cases c45 : (a0.size : Int) ≥ t516
                · rw [if_pos c45] at H
                  have c45b0 : decide (t516 ≤ (a0.size : Int)) = true := decide_eq_true c45
                  clear c45
                  replace H := Option.bind_eq_some_iff.mp H
                  obtain ⟨t517, A460, H⟩ := H
                  replace H : (some t517) = some r := H
                  have A46 := Aside0.mk A460
                  clear A460
                  obtain rfl := Option.some.inj H
                  go_wp2_with (first | ((with_reducible refine gate_callee (f := 56) rfl ?_); refine goesL_ (some 67) rfl rfl Tryd.func56 (by kernel_rfl) rfl #[.string a2, .string a0] rfl (by (try simp only [List.map_toArray, List.map_cons, List.map_nil]); first | done | rfl | (simp only [List.length_drop, List.length_take]; rfl)) ?_; (with_reducible refine (globs_Match.calls kj14 a2 a0 true _ A42.out).mono ?_); rintro e w47 ⟨rfl, hb⟩; refine ⟨_, rfl, ?_⟩; have n0_ := Aside0.mk (below_step (by repeat (first | (with_reducible first | exact HB.out | apply below_alloc | apply pw_below_drewN | apply below_drew1) | exact HB.out)) hb); clear HB; have HB := n0_; clear n0_; (try clear hb); (try clear hb2); (try clear hk); (try clear hi)) | (go_at_call 57; (with_reducible refine (globs_Least.calls a2 t516 _ A44.out).mono ?_); rintro e w48 ⟨rfl, hb⟩; have n0_ := Aside0.mk (below_step (by repeat (first | (with_reducible first | exact HB.out | apply below_alloc | apply pw_below_drewN | apply below_drew1) | exact HB.out)) hb); clear HB; have HB := n0_; clear n0_; (try clear hb); (try clear hb2); (try clear hk); (try clear hi)) | (go_at_call 53; (with_reducible refine (thwartlaw34_alive.calls kj14  t517 _ A46.out).mono ?_); rintro e w49 ⟨rfl, hb⟩; have n0_ := Aside0.mk (below_step (by repeat (first | (with_reducible first | exact HB.out | apply below_alloc | apply pw_below_drewN | apply below_drew1) | exact HB.out)) hb); clear HB; have HB := n0_; clear n0_; (try clear hb); (try clear hb2); (try clear hk); (try clear hi)))
                  go_ret
                  exact ⟨by first | rfl | (simp [errW_none, errW_some] <;> rfl) | (simp [*, errW_none, errW_some] <;> rfl), by repeat (first | (with_reducible first | exact HB.out | apply below_alloc | apply pw_below_drewN | apply below_drew1) | exact HB.out)⟩
                · rw [if_neg c45] at H
                  have c45b0 : decide (t516 ≤ (a0.size : Int)) = false := decide_eq_false c45
                  clear c45
                  obtain rfl := Option.some.inj H
                  go_wp2_with (first | ((with_reducible refine gate_callee (f := 56) rfl ?_); refine goesL_ (some 67) rfl rfl Tryd.func56 (by kernel_rfl) rfl #[.string a2, .string a0] rfl (by (try simp only [List.map_toArray, List.map_cons, List.map_nil]); first | done | rfl | (simp only [List.length_drop, List.length_take]; rfl)) ?_; (with_reducible refine (globs_Match.calls kj14 a2 a0 true _ A42.out).mono ?_); rintro e w50 ⟨rfl, hb⟩; refine ⟨_, rfl, ?_⟩; have n0_ := Aside0.mk (below_step (by repeat (first | (with_reducible first | exact HB.out | apply below_alloc | apply pw_below_drewN | apply below_drew1) | exact HB.out)) hb); clear HB; have HB := n0_; clear n0_; (try clear hb); (try clear hb2); (try clear hk); (try clear hi)) | (go_at_call 57; (with_reducible refine (globs_Least.calls a2 t516 _ A44.out).mono ?_); rintro e w51 ⟨rfl, hb⟩; have n0_ := Aside0.mk (below_step (by repeat (first | (with_reducible first | exact HB.out | apply below_alloc | apply pw_below_drewN | apply below_drew1) | exact HB.out)) hb); clear HB; have HB := n0_; clear n0_; (try clear hb); (try clear hb2); (try clear hk); (try clear hi)))
                  go_ret
                  exact ⟨by first | rfl | (simp [errW_none, errW_some] <;> rfl) | (simp [*, errW_none, errW_some] <;> rfl), by repeat (first | (with_reducible first | exact HB.out | apply below_alloc | apply pw_below_drewN | apply below_drew1) | exact HB.out)⟩
              · replace c43 := Bool.eq_false_iff.mpr c43
                subst c43
                have H1 : ((thwartlaw34_alive.f kj14).bind fun t518 => (some t518)) = some r := by rw [if_neg (show ¬ (false = true) by decide)] at H; exact H
                clear H
                have H := H1
                clear H1
                replace H := Option.bind_eq_some_iff.mp H
                obtain ⟨t518, A520, H⟩ := H
                replace H : (some t518) = some r := H
                have A52 := Aside0.mk A520
                clear A520
                obtain rfl := Option.some.inj H
                go_wp2_with (first | ((with_reducible refine gate_callee (f := 56) rfl ?_); refine goesL_ (some 67) rfl rfl Tryd.func56 (by kernel_rfl) rfl #[.string a2, .string a0] rfl (by (try simp only [List.map_toArray, List.map_cons, List.map_nil]); first | done | rfl | (simp only [List.length_drop, List.length_take]; rfl)) ?_; (with_reducible refine (globs_Match.calls kj14 a2 a0 false _ A42.out).mono ?_); rintro e w53 ⟨rfl, hb⟩; refine ⟨_, rfl, ?_⟩; have n0_ := Aside0.mk (below_step (by repeat (first | (with_reducible first | exact HB.out | apply below_alloc | apply pw_below_drewN | apply below_drew1) | exact HB.out)) hb); clear HB; have HB := n0_; clear n0_; (try clear hb); (try clear hb2); (try clear hk); (try clear hi)) | (go_at_call 53; (with_reducible refine (thwartlaw34_alive.calls kj14  t518 _ A52.out).mono ?_); rintro e w54 ⟨rfl, hb⟩; have n0_ := Aside0.mk (below_step (by repeat (first | (with_reducible first | exact HB.out | apply below_alloc | apply pw_below_drewN | apply below_drew1) | exact HB.out)) hb); clear HB; have HB := n0_; clear n0_; (try clear hb); (try clear hb2); (try clear hk); (try clear hi)))
                go_ret
                exact ⟨by first | rfl | (simp [errW_none, errW_some] <;> rfl) | (simp [*, errW_none, errW_some] <;> rfl), by repeat (first | (with_reducible first | exact HB.out | apply below_alloc | apply pw_below_drewN | apply below_drew1) | exact HB.out)⟩

/-- THE ONE PURE STATEMENT of thwartlaw34_GlobsQuoted: yours. -/
def thwartlaw34_GlobsQuoted.Pure : Prop := ∀ (a0 : ByteArray) (a1 : ByteArray) (a2 : ByteArray), a0.size ≤ 140737488351232 → a1.size ≤ 140737488351232 → a2.size ≤ 140737488351232 → ∃ k, thwartlaw34_GlobsQuoted.f k a0 a1 a2 = some true
theorem thwartlaw34_GlobsQuoted.walk (P : thwartlaw34_GlobsQuoted.Pure) (a0 : ByteArray) (a1 : ByteArray) (a2 : ByteArray) (w : World) (w0 : a0.size ≤ 140737488351232) (w1 : a1.size ≤ 140737488351232) (w2 : a2.size ≤ 140737488351232) :
    Calls Tryd.prog 12 #[.string a0, .string a1, .string a2] w fun e w' => e = .returned (.bool true) ∧ Below w.heap.size w w' := by
  obtain ⟨k, h⟩ := P a0 a1 a2 w0 w1 w2
  refine (thwartlaw34_GlobsQuoted.calls k a0 a1 a2 true w h).mono ?_
  rintro e w' ⟨rfl, hd⟩
  exact ⟨rfl, hd⟩

end Go.Proofs.YtpjanlpjjemenaaDoor.P
