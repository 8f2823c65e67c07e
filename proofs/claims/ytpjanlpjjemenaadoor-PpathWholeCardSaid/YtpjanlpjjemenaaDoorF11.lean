-- Written by xprint.py (a program of this session's, over the kit's printer) out of the translation. Not trusted: Lean checks it.
import Derived.Test.YtpjanlpjjemenaaDoorF0base
import Derived.Test.YtpjanlpjjemenaaDoorF35
import Derived.Test.YtpjanlpjjemenaaDoorF38
import Derived.Test.YtpjanlpjjemenaaDoorF39
import Derived.Test.YtpjanlpjjemenaaDoorF43
import Derived.Test.YtpjanlpjjemenaaDoorF44
import Derived.Test.YtpjanlpjjemenaaDoorF47
import Derived.Test.YtpjanlpjjemenaaDoorF49
import Derived.Test.YtpjanlpjjemenaaDoorF51
import Derived.Test.YtpjanlpjjemenaaDoorHLess
namespace Go.Proofs.YtpjanlpjjemenaaDoor.P
open Go.RowKit Go.Proofs.YtpjanlpjjemenaaDoorW.PrintWords Go.Proofs.YtpjanlpjjemenaaDoorW.PrintLast Go.Proofs.YtpjanlpjjemenaaDoorW.PrintMore Go.Proofs.YtpjanlpjjemenaaDoor.Hand
attribute [local go_sem] max2_int min2_int max_two min_two max_three min_three max_four min_four   -- for this text's walks alone
set_option linter.unusedVariables false
set_option linter.unusedSimpArgs false

/-! ### thwartlaw04_PpathWhole: function 11 -/
mutual
def thwartlaw04_PpathWhole.j0 : Nat → ByteArray → ByteArray → Bool → Option (Bool)
  | 0, _, _, _ => none
  | k + 1, x0, x1, x14 => if x14 = true then ((thwartlaw04_alive.f k).bind fun t421 => (some t421)) else ((ppath_May.f x0).bind fun t422 => (if t422 = true then ((ppath_Parent.f x0).bind fun t423 => ((ppath_Base.f x0).bind fun t424 => ((ppath_Join.f t423 t424).bind fun t425 => (if t425.toList = x0.toList then ((ppath_Parent.f x0).bind fun t426 => ((ppath_Under.f x0 t426).bind fun t427 => (if t427 = true then ((ppath_Base.f x0).bind fun t428 => ((ppath_Name.f k t428).bind fun t429 => (thwartlaw04_PpathWhole.j1 k x0 x1 (!t429)))) else (thwartlaw04_PpathWhole.j1 k x0 x1 true)))) else (thwartlaw04_PpathWhole.j1 k x0 x1 true))))) else (thwartlaw04_PpathWhole.j1 k x0 x1 false)))
def thwartlaw04_PpathWhole.j1 : Nat → ByteArray → ByteArray → Bool → Option (Bool)
  | 0, _, _, _ => none
  | k + 1, x0, x1, x39 => if x39 = true then (some false) else ((ppath_Rest.f x0 x1).bind fun bt430 => (if bt430.2 = true then ((ppath_Join.f x1 bt430.1).bind fun t432 => (if t432.toList = x0.toList then ((ppath_Under.f x0 x1).bind fun t433 => (if (bt430.2 == t433) = true then ((thwartlaw04_alive.f k).bind fun t434 => (some t434)) else (some false))) else (if bt430.1.toList = ([] : List UInt8) then ((ppath_Under.f x0 x1).bind fun t435 => (if (bt430.2 == t435) = true then ((thwartlaw04_alive.f k).bind fun t436 => (some t436)) else (some false))) else (some false)))) else ((ppath_Under.f x0 x1).bind fun t437 => (if (bt430.2 == t437) = true then ((thwartlaw04_alive.f k).bind fun t438 => (some t438)) else (some false)))))
end
def thwartlaw04_PpathWhole.f (k : Nat) (a0 : ByteArray) (a1 : ByteArray) : Option (Bool) := if (a0.size : Int) > 600 then (thwartlaw04_PpathWhole.j0 k a0 a1 true) else (thwartlaw04_PpathWhole.j0 k a0 a1 (decide ((a1.size : Int) > 600)))
theorem thwartlaw04_PpathWhole.mono_l : ∀ k, (∀ y0 y1 y2, LeO (thwartlaw04_PpathWhole.j0 k y0 y1 y2) (thwartlaw04_PpathWhole.j0 (k + 1) y0 y1 y2)) ∧ (∀ y0 y1 y2, LeO (thwartlaw04_PpathWhole.j1 k y0 y1 y2) (thwartlaw04_PpathWhole.j1 (k + 1) y0 y1 y2))
  | 0 => ⟨fun _ _ _ r h => by simp [thwartlaw04_PpathWhole.j0] at h, fun _ _ _ r h => by simp [thwartlaw04_PpathWhole.j1] at h⟩
  | k + 1 => by
    obtain ⟨ih0, ih1⟩ := thwartlaw04_PpathWhole.mono_l k
    refine ⟨?_, ?_⟩
    · intro y0 y1 y2
      unfold thwartlaw04_PpathWhole.j0
      repeat' first
      | (with_reducible exact ih0 _ _ _)
      | (with_reducible exact ih1 _ _ _)
      | (with_reducible exact ppath_Name.mono _ _)
      | (with_reducible exact thwartlaw04_alive.mono _)
      | (with_reducible exact LeO.refl _)
      | (with_reducible exact LeO.none _)
      | (with_reducible refine LeO.ite ?_ ?_)
      | (with_reducible refine LeO.bind ?_ (fun _ => ?_))
      | exact ih0 _ _ _
      | exact ih1 _ _ _
      | exact ppath_Name.mono _ _
      | exact thwartlaw04_alive.mono _
      | exact LeO.none _
      | refine LeO.ite ?_ ?_
      | refine LeO.bind ?_ (fun _ => ?_)
    · intro y0 y1 y2
      unfold thwartlaw04_PpathWhole.j1
      repeat' first
      | (with_reducible exact ih0 _ _ _)
      | (with_reducible exact ih1 _ _ _)
      | (with_reducible exact ppath_Name.mono _ _)
      | (with_reducible exact thwartlaw04_alive.mono _)
      | (with_reducible exact LeO.refl _)
      | (with_reducible exact LeO.none _)
      | (with_reducible refine LeO.ite ?_ ?_)
      | (with_reducible refine LeO.bind ?_ (fun _ => ?_))
      | exact ih0 _ _ _
      | exact ih1 _ _ _
      | exact ppath_Name.mono _ _
      | exact thwartlaw04_alive.mono _
      | exact LeO.none _
      | refine LeO.ite ?_ ?_
      | refine LeO.bind ?_ (fun _ => ?_)
theorem thwartlaw04_PpathWhole.mono : ∀ a0 a1 k, LeO (thwartlaw04_PpathWhole.f k a0 a1) (thwartlaw04_PpathWhole.f (k + 1) a0 a1) := by
  intro a0 a1 k
  obtain ⟨ih0, ih1⟩ := thwartlaw04_PpathWhole.mono_l k
  unfold thwartlaw04_PpathWhole.f
  repeat' first
      | (with_reducible exact ih0 _ _ _)
      | (with_reducible exact ih1 _ _ _)
      | (with_reducible exact ppath_Name.mono _ _)
      | (with_reducible exact thwartlaw04_alive.mono _)
      | (with_reducible exact LeO.refl _)
      | (with_reducible exact LeO.none _)
      | (with_reducible refine LeO.ite ?_ ?_)
      | (with_reducible refine LeO.bind ?_ (fun _ => ?_))
      | exact ih0 _ _ _
      | exact ih1 _ _ _
      | exact ppath_Name.mono _ _
      | exact thwartlaw04_alive.mono _
      | exact LeO.none _
      | refine LeO.ite ?_ ?_
      | refine LeO.bind ?_ (fun _ => ?_)
set_option maxHeartbeats 8000000 in
set_option maxRecDepth 100000 in
theorem thwartlaw04_PpathWhole.calls (k : Nat) (a0 : ByteArray) (a1 : ByteArray) (r : Bool) (w : World) (h : thwartlaw04_PpathWhole.f k a0 a1 = some r) :
    Calls Tryd.prog 11 #[.string a0, .string a1] w fun e w' => e = .returned (.bool r) ∧ Below w.heap.size w w' := by
  have HB := Aside0.mk (Below.refl w.heap.size w)
  have H : (if (a0.size : Int) > 600 then (thwartlaw04_PpathWhole.j0 k a0 a1 true) else (thwartlaw04_PpathWhole.j0 k a0 a1 (decide ((a1.size : Int) > 600)))) = some r := h
  clear h
  have HC3 := Aside0.mk H
  clear H
  go_enter Tryd.func11, Tryd.ntmps11
  go_upto_region 1 with (fail)
  go_cut [14] (fun v14 wc => ∃ (kq : Nat) (x14_2 : Bool), v14 = .bool x14_2 ∧ Aside0 (thwartlaw04_PpathWhole.j0 kq a0 a1 x14_2 = some r) ∧ Aside0 (kq ≤ k) ∧ Aside0 (Below w.heap.size w wc))
  case first =>
    have H := HC3.out
    clear HC3
    by_cases c4 : (a0.size : Int) > 600
    · rw [if_pos c4] at H
      have c4b0 : decide (600 < (a0.size : Int)) = true := decide_eq_true c4
      have c4b1 : decide (600 < a0.size) = true := decide_eq_true (by omega)
      clear c4
      (first | rw [c4b0] | (simp only [i64_w, i32_w]; rw [c4b0]) | skip)
      have H' := Aside0.mk H
      clear H
      go_wp2
      go_meet
      case rel => exact ⟨_, (true), (by first | rfl | (simp; done) | (simp [*]; done) | (simp only [bytes_ne, bytes_eq]; rfl)), H', ⟨by first | omega | exact Nat.le_refl _⟩, ⟨by repeat (first | (with_reducible first | exact HB.out | apply below_alloc | apply pw_below_drewN | apply below_drew1) | exact HB.out)⟩⟩
    · rw [if_neg c4] at H
      have c4b0 : decide (600 < (a0.size : Int)) = false := decide_eq_false c4
      have c4b1 : decide (600 < a0.size) = false := decide_eq_false (by omega)
      clear c4
      (first | rw [c4b0] | (simp only [i64_w, i32_w]; rw [c4b0]) | skip)
      have H' := Aside0.mk H
      clear H
      go_wp2
      go_meet
      case rel => exact ⟨_, (decide ((a1.size : Int) > 600)), (by first | rfl | (simp; done) | (simp [*]; done) | (simp only [bytes_ne, bytes_eq]; rfl)), H', ⟨by first | omega | exact Nat.le_refl _⟩, ⟨by repeat (first | (with_reducible first | exact HB.out | apply below_alloc | apply pw_below_drewN | apply below_drew1) | exact HB.out)⟩⟩
  case rest =>
    clear HC3
    try clear c1
    try clear p2
    try clear c4
    try clear c4b0
    try clear c4b1
    obtain ⟨kq, x14_2, rfl, HA, HJ2, HB⟩ := hcut
    cases kq with
    | zero => exact absurd HA.out (by simp [thwartlaw04_PpathWhole.j0])
    | succ kj2 =>
      have H := HA.out
      clear HA
      simp only [thwartlaw04_PpathWhole.j0] at H
      by_cases c5 : x14_2 = true
      · subst c5
        have H1 : ((thwartlaw04_alive.f kj2).bind fun t421 => (some t421)) = some r := by rw [if_pos rfl] at H; exact H
        clear H
        have H := H1
        clear H1
        replace H := Option.bind_eq_some_iff.mp H
        obtain ⟨t421, A60, H⟩ := H
        replace H : (some t421) = some r := H
        have A6 := Aside0.mk A60
        clear A60
        obtain rfl := Option.some.inj H
        go_wp2_with (first | ((with_reducible refine gate_callee (f := 35) rfl ?_); refine goesL_ (some 15) rfl rfl Tryd.func35 (by kernel_rfl) rfl #[] rfl (by (try simp only [List.map_toArray, List.map_cons, List.map_nil]); first | done | rfl | (simp only [List.length_drop, List.length_take]; rfl)) ?_; (with_reducible refine (thwartlaw04_alive.calls kj2  t421 _ A6.out).mono ?_); rintro e w7 ⟨rfl, hb⟩; refine ⟨_, rfl, ?_⟩; have n0_ := Aside0.mk (below_step (by repeat (first | (with_reducible first | exact HB.out | apply below_alloc | apply pw_below_drewN | apply below_drew1) | exact HB.out)) hb); clear HB; have HB := n0_; clear n0_; (try clear hb); (try clear hb2); (try clear hk); (try clear hi)))
        go_ret
        exact ⟨by first | rfl | (simp [errW_none, errW_some] <;> rfl) | (simp [*, errW_none, errW_some] <;> rfl) | (simp only [bytes_ne, bytes_eq]; rfl), by repeat (first | (with_reducible first | exact HB.out | apply below_alloc | apply pw_below_drewN | apply below_drew1) | exact HB.out)⟩
      · replace c5 := Bool.eq_false_iff.mpr c5
        subst c5
        have H1 : ((ppath_May.f a0).bind fun t422 => (if t422 = true then ((ppath_Parent.f a0).bind fun t423 => ((ppath_Base.f a0).bind fun t424 => ((ppath_Join.f t423 t424).bind fun t425 => (if t425.toList = a0.toList then ((ppath_Parent.f a0).bind fun t426 => ((ppath_Under.f a0 t426).bind fun t427 => (if t427 = true then ((ppath_Base.f a0).bind fun t428 => ((ppath_Name.f kj2 t428).bind fun t429 => (thwartlaw04_PpathWhole.j1 kj2 a0 a1 (!t429)))) else (thwartlaw04_PpathWhole.j1 kj2 a0 a1 true)))) else (thwartlaw04_PpathWhole.j1 kj2 a0 a1 true))))) else (thwartlaw04_PpathWhole.j1 kj2 a0 a1 false))) = some r := by rw [if_neg (show ¬ (false = true) by decide)] at H; exact H
        clear H
        have H := H1
        clear H1
        have HC8 := Aside0.mk H
        clear H
        go_upto_region 3 with (fail)
        go_cut [39] (fun v39 wc => ∃ (kq : Nat) (x39_7 : Bool), v39 = .bool x39_7 ∧ Aside0 (thwartlaw04_PpathWhole.j1 kq a0 a1 x39_7 = some r) ∧ Aside0 (kq ≤ kj2) ∧ Aside0 (Below w.heap.size w wc))
        case first =>
          have H := HC8.out
          clear HC8
          replace H := Option.bind_eq_some_iff.mp H
          obtain ⟨t422, A90, H⟩ := H
          replace H : (if t422 = true then ((ppath_Parent.f a0).bind fun t423 => ((ppath_Base.f a0).bind fun t424 => ((ppath_Join.f t423 t424).bind fun t425 => (if t425.toList = a0.toList then ((ppath_Parent.f a0).bind fun t426 => ((ppath_Under.f a0 t426).bind fun t427 => (if t427 = true then ((ppath_Base.f a0).bind fun t428 => ((ppath_Name.f kj2 t428).bind fun t429 => (thwartlaw04_PpathWhole.j1 kj2 a0 a1 (!t429)))) else (thwartlaw04_PpathWhole.j1 kj2 a0 a1 true)))) else (thwartlaw04_PpathWhole.j1 kj2 a0 a1 true))))) else (thwartlaw04_PpathWhole.j1 kj2 a0 a1 false)) = some r := H
          have A9 := Aside0.mk A90
          clear A90
          by_cases c10 : t422 = true
          · subst c10
            have H1 : ((ppath_Parent.f a0).bind fun t423 => ((ppath_Base.f a0).bind fun t424 => ((ppath_Join.f t423 t424).bind fun t425 => (if t425.toList = a0.toList then ((ppath_Parent.f a0).bind fun t426 => ((ppath_Under.f a0 t426).bind fun t427 => (if t427 = true then ((ppath_Base.f a0).bind fun t428 => ((ppath_Name.f kj2 t428).bind fun t429 => (thwartlaw04_PpathWhole.j1 kj2 a0 a1 (!t429)))) else (thwartlaw04_PpathWhole.j1 kj2 a0 a1 true)))) else (thwartlaw04_PpathWhole.j1 kj2 a0 a1 true))))) = some r := by rw [if_pos rfl] at H; exact H
            clear H
            have H := H1
            clear H1
            replace H := Option.bind_eq_some_iff.mp H
            obtain ⟨t423, A110, H⟩ := H
            replace H : ((ppath_Base.f a0).bind fun t424 => ((ppath_Join.f t423 t424).bind fun t425 => (if t425.toList = a0.toList then ((ppath_Parent.f a0).bind fun t426 => ((ppath_Under.f a0 t426).bind fun t427 => (if t427 = true then ((ppath_Base.f a0).bind fun t428 => ((ppath_Name.f kj2 t428).bind fun t429 => (thwartlaw04_PpathWhole.j1 kj2 a0 a1 (!t429)))) else (thwartlaw04_PpathWhole.j1 kj2 a0 a1 true)))) else (thwartlaw04_PpathWhole.j1 kj2 a0 a1 true)))) = some r := H
            have A11 := Aside0.mk A110
            clear A110
            replace H := Option.bind_eq_some_iff.mp H
            obtain ⟨t424, A120, H⟩ := H
            replace H : ((ppath_Join.f t423 t424).bind fun t425 => (if t425.toList = a0.toList then ((ppath_Parent.f a0).bind fun t426 => ((ppath_Under.f a0 t426).bind fun t427 => (if t427 = true then ((ppath_Base.f a0).bind fun t428 => ((ppath_Name.f kj2 t428).bind fun t429 => (thwartlaw04_PpathWhole.j1 kj2 a0 a1 (!t429)))) else (thwartlaw04_PpathWhole.j1 kj2 a0 a1 true)))) else (thwartlaw04_PpathWhole.j1 kj2 a0 a1 true))) = some r := H
            have A12 := Aside0.mk A120
            clear A120
            replace H := Option.bind_eq_some_iff.mp H
            obtain ⟨t425, A130, H⟩ := H
            replace H : (if t425.toList = a0.toList then ((ppath_Parent.f a0).bind fun t426 => ((ppath_Under.f a0 t426).bind fun t427 => (if t427 = true then ((ppath_Base.f a0).bind fun t428 => ((ppath_Name.f kj2 t428).bind fun t429 => (thwartlaw04_PpathWhole.j1 kj2 a0 a1 (!t429)))) else (thwartlaw04_PpathWhole.j1 kj2 a0 a1 true)))) else (thwartlaw04_PpathWhole.j1 kj2 a0 a1 true)) = some r := H
            have A13 := Aside0.mk A130
            clear A130
            by_cases c14 : t425.toList = a0.toList
            · rw [if_pos c14] at H
              have c14b0 : (t425.toList == a0.toList) = true := beq_iff_eq.mpr c14
              have c14b1 : (t425.toList != a0.toList) = false := bne_eq_false_iff_eq.mpr c14
              clear c14
              (first | rw [c14b0] | (simp only [i64_w, i32_w]; rw [c14b0]) | skip)
              replace H := Option.bind_eq_some_iff.mp H
              obtain ⟨t426, A150, H⟩ := H
              replace H : ((ppath_Under.f a0 t426).bind fun t427 => (if t427 = true then ((ppath_Base.f a0).bind fun t428 => ((ppath_Name.f kj2 t428).bind fun t429 => (thwartlaw04_PpathWhole.j1 kj2 a0 a1 (!t429)))) else (thwartlaw04_PpathWhole.j1 kj2 a0 a1 true))) = some r := H
              have A15 := Aside0.mk A150
              clear A150
              replace H := Option.bind_eq_some_iff.mp H
              obtain ⟨t427, A160, H⟩ := H
              replace H : (if t427 = true then ((ppath_Base.f a0).bind fun t428 => ((ppath_Name.f kj2 t428).bind fun t429 => (thwartlaw04_PpathWhole.j1 kj2 a0 a1 (!t429)))) else (thwartlaw04_PpathWhole.j1 kj2 a0 a1 true)) = some r := H
              have A16 := Aside0.mk A160
              clear A160
              by_cases c17 : t427 = true
              · subst c17
                have H1 : ((ppath_Base.f a0).bind fun t428 => ((ppath_Name.f kj2 t428).bind fun t429 => (thwartlaw04_PpathWhole.j1 kj2 a0 a1 (!t429)))) = some r := by rw [if_pos rfl] at H; exact H
                clear H
                have H := H1
                clear H1
                replace H := Option.bind_eq_some_iff.mp H
                obtain ⟨t428, A180, H⟩ := H
                replace H : ((ppath_Name.f kj2 t428).bind fun t429 => (thwartlaw04_PpathWhole.j1 kj2 a0 a1 (!t429))) = some r := H
                have A18 := Aside0.mk A180
                clear A180
                replace H := Option.bind_eq_some_iff.mp H
                obtain ⟨t429, A190, H⟩ := H
                replace H : (thwartlaw04_PpathWhole.j1 kj2 a0 a1 (!t429)) = some r := H
                have A19 := Aside0.mk A190
                clear A190
                have H' := Aside0.mk H
                clear H
                go_wp2_with (first | ((with_reducible refine gate_callee (f := 38) rfl ?_); refine goesL_ (some 17) rfl rfl Tryd.func38 (by kernel_rfl) rfl #[.string a0] rfl (by (try simp only [List.map_toArray, List.map_cons, List.map_nil]); first | done | rfl | (simp only [List.length_drop, List.length_take]; rfl)) ?_; (with_reducible refine (ppath_May.calls a0 true _ A9.out).mono ?_); rintro e w20 ⟨rfl, hb⟩; refine ⟨_, rfl, ?_⟩; have n0_ := Aside0.mk (below_step (by repeat (first | (with_reducible first | exact HB.out | apply below_alloc | apply pw_below_drewN | apply below_drew1) | exact HB.out)) hb); clear HB; have HB := n0_; clear n0_; (try clear hb); (try clear hb2); (try clear hk); (try clear hi)) | (go_at_call 43; (with_reducible refine (ppath_Parent.calls a0 t423 _ A11.out).mono ?_); clear A11; rintro e w21 ⟨rfl, hb⟩; have n0_ := Aside0.mk (below_step (by repeat (first | (with_reducible first | exact HB.out | apply below_alloc | apply pw_below_drewN | apply below_drew1) | exact HB.out)) hb); clear HB; have HB := n0_; clear n0_; (try clear hb); (try clear hb2); (try clear hk); (try clear hi)) | (go_at_call 47; (with_reducible refine (ppath_Base.calls a0 t424 _ A12.out).mono ?_); clear A12; rintro e w22 ⟨rfl, hb⟩; have n0_ := Aside0.mk (below_step (by repeat (first | (with_reducible first | exact HB.out | apply below_alloc | apply pw_below_drewN | apply below_drew1) | exact HB.out)) hb); clear HB; have HB := n0_; clear n0_; (try clear hb); (try clear hb2); (try clear hk); (try clear hi)) | (go_at_call 49; (with_reducible refine (ppath_Join.calls t423 t424 t425 _ A13.out).mono ?_); rintro e w' ⟨rfl, ⟨nd, rfl⟩⟩) | (go_at_call 43; (with_reducible refine (ppath_Parent.calls a0 t426 _ A15.out).mono ?_); rintro e w23 ⟨rfl, hb⟩; have n0_ := Aside0.mk (below_step (by repeat (first | (with_reducible first | exact HB.out | apply below_alloc | apply pw_below_drewN | apply below_drew1) | exact HB.out)) hb); clear HB; have HB := n0_; clear n0_; (try clear hb); (try clear hb2); (try clear hk); (try clear hi)) | (go_at_call 51; (with_reducible refine (ppath_Under.calls a0 t426 true _ A16.out).mono ?_); rintro e w24 ⟨rfl, hb⟩; have n0_ := Aside0.mk (below_step (by repeat (first | (with_reducible first | exact HB.out | apply below_alloc | apply pw_below_drewN | apply below_drew1) | exact HB.out)) hb); clear HB; have HB := n0_; clear n0_; (try clear hb); (try clear hb2); (try clear hk); (try clear hi)) | (go_at_call 47; (with_reducible refine (ppath_Base.calls a0 t428 _ A18.out).mono ?_); rintro e w25 ⟨rfl, hb⟩; have n0_ := Aside0.mk (below_step (by repeat (first | (with_reducible first | exact HB.out | apply below_alloc | apply pw_below_drewN | apply below_drew1) | exact HB.out)) hb); clear HB; have HB := n0_; clear n0_; (try clear hb); (try clear hb2); (try clear hk); (try clear hi)) | (go_at_call 39; (with_reducible refine (ppath_Name.calls kj2 t428 t429 _ A19.out).mono ?_); rintro e w26 ⟨rfl, hb⟩; have n0_ := Aside0.mk (below_step (by repeat (first | (with_reducible first | exact HB.out | apply below_alloc | apply pw_below_drewN | apply below_drew1) | exact HB.out)) hb); clear HB; have HB := n0_; clear n0_; (try clear hb); (try clear hb2); (try clear hk); (try clear hi)))
                go_meet
                case rel => exact ⟨_, (!t429), (by first | rfl | (simp; done) | (simp [*]; done) | (simp only [bytes_ne, bytes_eq]; rfl)), H', ⟨by have := HJ2.out; first | omega | exact Nat.le_refl _⟩, ⟨by repeat (first | (with_reducible first | exact HB.out | apply below_alloc | apply pw_below_drewN | apply below_drew1) | exact HB.out)⟩⟩
              · replace c17 := Bool.eq_false_iff.mpr c17
                subst c17
                have H1 : (thwartlaw04_PpathWhole.j1 kj2 a0 a1 true) = some r := by rw [if_neg (show ¬ (false = true) by decide)] at H; exact H
                clear H
                have H := H1
                clear H1
                have H' := Aside0.mk H
                clear H
                go_wp2_with (first | ((with_reducible refine gate_callee (f := 38) rfl ?_); refine goesL_ (some 17) rfl rfl Tryd.func38 (by kernel_rfl) rfl #[.string a0] rfl (by (try simp only [List.map_toArray, List.map_cons, List.map_nil]); first | done | rfl | (simp only [List.length_drop, List.length_take]; rfl)) ?_; (with_reducible refine (ppath_May.calls a0 true _ A9.out).mono ?_); rintro e w27 ⟨rfl, hb⟩; refine ⟨_, rfl, ?_⟩; have n0_ := Aside0.mk (below_step (by repeat (first | (with_reducible first | exact HB.out | apply below_alloc | apply pw_below_drewN | apply below_drew1) | exact HB.out)) hb); clear HB; have HB := n0_; clear n0_; (try clear hb); (try clear hb2); (try clear hk); (try clear hi)) | (go_at_call 43; (with_reducible refine (ppath_Parent.calls a0 t423 _ A11.out).mono ?_); clear A11; rintro e w28 ⟨rfl, hb⟩; have n0_ := Aside0.mk (below_step (by repeat (first | (with_reducible first | exact HB.out | apply below_alloc | apply pw_below_drewN | apply below_drew1) | exact HB.out)) hb); clear HB; have HB := n0_; clear n0_; (try clear hb); (try clear hb2); (try clear hk); (try clear hi)) | (go_at_call 47; (with_reducible refine (ppath_Base.calls a0 t424 _ A12.out).mono ?_); rintro e w29 ⟨rfl, hb⟩; have n0_ := Aside0.mk (below_step (by repeat (first | (with_reducible first | exact HB.out | apply below_alloc | apply pw_below_drewN | apply below_drew1) | exact HB.out)) hb); clear HB; have HB := n0_; clear n0_; (try clear hb); (try clear hb2); (try clear hk); (try clear hi)) | (go_at_call 49; (with_reducible refine (ppath_Join.calls t423 t424 t425 _ A13.out).mono ?_); rintro e w' ⟨rfl, ⟨nd, rfl⟩⟩) | (go_at_call 43; (with_reducible refine (ppath_Parent.calls a0 t426 _ A15.out).mono ?_); rintro e w30 ⟨rfl, hb⟩; have n0_ := Aside0.mk (below_step (by repeat (first | (with_reducible first | exact HB.out | apply below_alloc | apply pw_below_drewN | apply below_drew1) | exact HB.out)) hb); clear HB; have HB := n0_; clear n0_; (try clear hb); (try clear hb2); (try clear hk); (try clear hi)) | (go_at_call 51; (with_reducible refine (ppath_Under.calls a0 t426 false _ A16.out).mono ?_); rintro e w31 ⟨rfl, hb⟩; have n0_ := Aside0.mk (below_step (by repeat (first | (with_reducible first | exact HB.out | apply below_alloc | apply pw_below_drewN | apply below_drew1) | exact HB.out)) hb); clear HB; have HB := n0_; clear n0_; (try clear hb); (try clear hb2); (try clear hk); (try clear hi)))
                go_meet
                case rel => exact ⟨_, (true), (by first | rfl | (simp; done) | (simp [*]; done) | (simp only [bytes_ne, bytes_eq]; rfl)), H', ⟨by have := HJ2.out; first | omega | exact Nat.le_refl _⟩, ⟨by repeat (first | (with_reducible first | exact HB.out | apply below_alloc | apply pw_below_drewN | apply below_drew1) | exact HB.out)⟩⟩
            · rw [if_neg c14] at H
              have c14b0 : (t425.toList == a0.toList) = false := beq_eq_false_iff_ne.mpr c14
              have c14b1 : (t425.toList != a0.toList) = true := bne_iff_ne.mpr c14
              (first | rw [c14b0] | (simp only [i64_w, i32_w]; rw [c14b0]) | skip)
              have H' := Aside0.mk H
              clear H
              go_wp2_with (first | ((with_reducible refine gate_callee (f := 38) rfl ?_); refine goesL_ (some 17) rfl rfl Tryd.func38 (by kernel_rfl) rfl #[.string a0] rfl (by (try simp only [List.map_toArray, List.map_cons, List.map_nil]); first | done | rfl | (simp only [List.length_drop, List.length_take]; rfl)) ?_; (with_reducible refine (ppath_May.calls a0 true _ A9.out).mono ?_); rintro e w32 ⟨rfl, hb⟩; refine ⟨_, rfl, ?_⟩; have n0_ := Aside0.mk (below_step (by repeat (first | (with_reducible first | exact HB.out | apply below_alloc | apply pw_below_drewN | apply below_drew1) | exact HB.out)) hb); clear HB; have HB := n0_; clear n0_; (try clear hb); (try clear hb2); (try clear hk); (try clear hi)) | (go_at_call 43; (with_reducible refine (ppath_Parent.calls a0 t423 _ A11.out).mono ?_); rintro e w33 ⟨rfl, hb⟩; have n0_ := Aside0.mk (below_step (by repeat (first | (with_reducible first | exact HB.out | apply below_alloc | apply pw_below_drewN | apply below_drew1) | exact HB.out)) hb); clear HB; have HB := n0_; clear n0_; (try clear hb); (try clear hb2); (try clear hk); (try clear hi)) | (go_at_call 47; (with_reducible refine (ppath_Base.calls a0 t424 _ A12.out).mono ?_); rintro e w34 ⟨rfl, hb⟩; have n0_ := Aside0.mk (below_step (by repeat (first | (with_reducible first | exact HB.out | apply below_alloc | apply pw_below_drewN | apply below_drew1) | exact HB.out)) hb); clear HB; have HB := n0_; clear n0_; (try clear hb); (try clear hb2); (try clear hk); (try clear hi)) | (go_at_call 49; (with_reducible refine (ppath_Join.calls t423 t424 t425 _ A13.out).mono ?_); rintro e w' ⟨rfl, ⟨nd, rfl⟩⟩))
              go_meet
              case rel => exact ⟨_, (true), (by first | rfl | (simp; done) | (simp [*]; done) | (simp only [bytes_ne, bytes_eq]; rfl)), H', ⟨by have := HJ2.out; first | omega | exact Nat.le_refl _⟩, ⟨by repeat (first | (with_reducible first | exact HB.out | apply below_alloc | apply pw_below_drewN | apply below_drew1) | exact HB.out)⟩⟩
          · replace c10 := Bool.eq_false_iff.mpr c10
            subst c10
            have H1 : (thwartlaw04_PpathWhole.j1 kj2 a0 a1 false) = some r := by rw [if_neg (show ¬ (false = true) by decide)] at H; exact H
            clear H
            have H := H1
            clear H1
            have H' := Aside0.mk H
            clear H
            go_wp2_with (first | ((with_reducible refine gate_callee (f := 38) rfl ?_); refine goesL_ (some 17) rfl rfl Tryd.func38 (by kernel_rfl) rfl #[.string a0] rfl (by (try simp only [List.map_toArray, List.map_cons, List.map_nil]); first | done | rfl | (simp only [List.length_drop, List.length_take]; rfl)) ?_; (with_reducible refine (ppath_May.calls a0 false _ A9.out).mono ?_); rintro e w35 ⟨rfl, hb⟩; refine ⟨_, rfl, ?_⟩; have n0_ := Aside0.mk (below_step (by repeat (first | (with_reducible first | exact HB.out | apply below_alloc | apply pw_below_drewN | apply below_drew1) | exact HB.out)) hb); clear HB; have HB := n0_; clear n0_; (try clear hb); (try clear hb2); (try clear hk); (try clear hi)))
            go_meet
            case rel => exact ⟨_, (false), (by first | rfl | (simp; done) | (simp [*]; done) | (simp only [bytes_ne, bytes_eq]; rfl)), H', ⟨by have := HJ2.out; first | omega | exact Nat.le_refl _⟩, ⟨by repeat (first | (with_reducible first | exact HB.out | apply below_alloc | apply pw_below_drewN | apply below_drew1) | exact HB.out)⟩⟩
        case rest =>
          clear HC8
          try clear c1
          try clear p2
          try clear c3
          try clear c4
          try clear c4b0
          try clear c4b1
          try clear c5
          try clear c10
          try clear c11
          try clear c14
          try clear c14b0
          try clear c14b1
          try clear c17
          try clear c35
          try clear p2
          obtain ⟨kq, x39_7, rfl, HA, HJ7, HB⟩ := hcut
          cases kq with
          | zero => exact absurd HA.out (by simp [thwartlaw04_PpathWhole.j1])
          | succ kj7 =>
            have H := HA.out
            clear HA
            simp only [thwartlaw04_PpathWhole.j1] at H
            by_cases c36 : x39_7 = true
            · subst c36
              have H1 : (some false) = some r := by rw [if_pos rfl] at H; exact H
              clear H
              have H := H1
              clear H1
              obtain rfl := Option.some.inj H
              go_wp2
              go_ret
              exact ⟨by first | rfl | (simp [errW_none, errW_some] <;> rfl) | (simp [*, errW_none, errW_some] <;> rfl) | (simp only [bytes_ne, bytes_eq]; rfl), by repeat (first | (with_reducible first | exact HB.out | apply below_alloc | apply pw_below_drewN | apply below_drew1) | exact HB.out)⟩
            · replace c36 := Bool.eq_false_iff.mpr c36
              subst c36
              have H1 : ((ppath_Rest.f a0 a1).bind fun bt430 => (if bt430.2 = true then ((ppath_Join.f a1 bt430.1).bind fun t432 => (if t432.toList = a0.toList then ((ppath_Under.f a0 a1).bind fun t433 => (if (bt430.2 == t433) = true then ((thwartlaw04_alive.f kj7).bind fun t434 => (some t434)) else (some false))) else (if bt430.1.toList = ([] : List UInt8) then ((ppath_Under.f a0 a1).bind fun t435 => (if (bt430.2 == t435) = true then ((thwartlaw04_alive.f kj7).bind fun t436 => (some t436)) else (some false))) else (some false)))) else ((ppath_Under.f a0 a1).bind fun t437 => (if (bt430.2 == t437) = true then ((thwartlaw04_alive.f kj7).bind fun t438 => (some t438)) else (some false))))) = some r := by rw [if_neg (show ¬ (false = true) by decide)] at H; exact H
              clear H
              have H := H1
              clear H1
              replace H := Option.bind_eq_some_iff.mp H
              obtain ⟨⟨t430, t431⟩, A370, H⟩ := H
              replace H : (if t431 = true then ((ppath_Join.f a1 t430).bind fun t432 => (if t432.toList = a0.toList then ((ppath_Under.f a0 a1).bind fun t433 => (if (t431 == t433) = true then ((thwartlaw04_alive.f kj7).bind fun t434 => (some t434)) else (some false))) else (if t430.toList = ([] : List UInt8) then ((ppath_Under.f a0 a1).bind fun t435 => (if (t431 == t435) = true then ((thwartlaw04_alive.f kj7).bind fun t436 => (some t436)) else (some false))) else (some false)))) else ((ppath_Under.f a0 a1).bind fun t437 => (if (t431 == t437) = true then ((thwartlaw04_alive.f kj7).bind fun t438 => (some t438)) else (some false)))) = some r := H
              have A37 := Aside0.mk A370
              clear A370
              by_cases c38 : t431 = true
              · subst c38
                have H1 : ((ppath_Join.f a1 t430).bind fun t432 => (if t432.toList = a0.toList then ((ppath_Under.f a0 a1).bind fun t433 => (if (true == t433) = true then ((thwartlaw04_alive.f kj7).bind fun t434 => (some t434)) else (some false))) else (if t430.toList = ([] : List UInt8) then ((ppath_Under.f a0 a1).bind fun t435 => (if (true == t435) = true then ((thwartlaw04_alive.f kj7).bind fun t436 => (some t436)) else (some false))) else (some false)))) = some r := by rw [if_pos rfl] at H; exact H
                clear H
                have H := H1
                clear H1
                replace H := Option.bind_eq_some_iff.mp H
                obtain ⟨t432, A390, H⟩ := H
                replace H : (if t432.toList = a0.toList then ((ppath_Under.f a0 a1).bind fun t433 => (if (true == t433) = true then ((thwartlaw04_alive.f kj7).bind fun t434 => (some t434)) else (some false))) else (if t430.toList = ([] : List UInt8) then ((ppath_Under.f a0 a1).bind fun t435 => (if (true == t435) = true then ((thwartlaw04_alive.f kj7).bind fun t436 => (some t436)) else (some false))) else (some false))) = some r := H
                have A39 := Aside0.mk A390
                clear A390
                by_cases c40 : t432.toList = a0.toList
                · rw [if_pos c40] at H
                  have c40b0 : (t432.toList == a0.toList) = true := beq_iff_eq.mpr c40
                  have c40b1 : (t432.toList != a0.toList) = false := bne_eq_false_iff_eq.mpr c40
                  clear c40
                  replace H := Option.bind_eq_some_iff.mp H
                  obtain ⟨t433, A410, H⟩ := H
                  replace H : (if (true == t433) = true then ((thwartlaw04_alive.f kj7).bind fun t434 => (some t434)) else (some false)) = some r := H
                  have A41 := Aside0.mk A410
                  clear A410
                  by_cases c42 : (true == t433) = true
                  · rw [if_pos c42] at H
                    have c42b0 : (true == t433) = true := c42
                    (try (have c42b1 : decide (true = t433) = true := by simpa using c42))
                    (try (have c42b2 : (true == t433) = true := by simpa using c42))
                    clear c42
                    replace H := Option.bind_eq_some_iff.mp H
                    obtain ⟨t434, A430, H⟩ := H
                    replace H : (some t434) = some r := H
                    have A43 := Aside0.mk A430
                    clear A430
                    obtain rfl := Option.some.inj H
                    go_wp2_with (first | ((with_reducible refine gate_callee (f := 44) rfl ?_); refine goesL_ (some 43) rfl rfl Tryd.func44 (by kernel_rfl) rfl #[.string a0, .string a1] rfl (by (try simp only [List.map_toArray, List.map_cons, List.map_nil]); first | done | rfl | (simp only [List.length_drop, List.length_take]; rfl)) ?_; (with_reducible refine (ppath_Rest.calls a0 a1 t430 true _ A37.out).mono ?_); rintro e w44 ⟨rfl, hb⟩; refine ⟨_, rfl, ?_⟩; have n0_ := Aside0.mk (below_step (by repeat (first | (with_reducible first | exact HB.out | apply below_alloc | apply pw_below_drewN | apply below_drew1) | exact HB.out)) hb); clear HB; have HB := n0_; clear n0_; (try clear hb); (try clear hb2); (try clear hk); (try clear hi)) | (go_at_call 49; (with_reducible refine (ppath_Join.calls a1 t430 t432 _ A39.out).mono ?_); rintro e w' ⟨rfl, ⟨nd, rfl⟩⟩) | (go_at_call 51; (with_reducible refine (ppath_Under.calls a0 a1 t433 _ A41.out).mono ?_); rintro e w45 ⟨rfl, hb⟩; have n0_ := Aside0.mk (below_step (by repeat (first | (with_reducible first | exact HB.out | apply below_alloc | apply pw_below_drewN | apply below_drew1) | exact HB.out)) hb); clear HB; have HB := n0_; clear n0_; (try clear hb); (try clear hb2); (try clear hk); (try clear hi)) | (go_at_call 35; (with_reducible refine (thwartlaw04_alive.calls kj7  t434 _ A43.out).mono ?_); rintro e w46 ⟨rfl, hb⟩; have n0_ := Aside0.mk (below_step (by repeat (first | (with_reducible first | exact HB.out | apply below_alloc | apply pw_below_drewN | apply below_drew1) | exact HB.out)) hb); clear HB; have HB := n0_; clear n0_; (try clear hb); (try clear hb2); (try clear hk); (try clear hi)))
                    go_ret
                    exact ⟨by first | rfl | (simp [errW_none, errW_some] <;> rfl) | (simp [*, errW_none, errW_some] <;> rfl) | (simp only [bytes_ne, bytes_eq]; rfl), by repeat (first | (with_reducible first | exact HB.out | apply below_alloc | apply pw_below_drewN | apply below_drew1) | exact HB.out)⟩
                  · rw [if_neg c42] at H
                    have c42b0 : (true == t433) = false := by simpa using c42
                    (try (have c42b1 : decide (true = t433) = false := by simpa using c42))
                    (try (have c42b2 : (true == t433) = false := by simpa using c42))
                    (try (have c42b3 : ¬ (true = t433) := by simpa using c42))
                    clear c42
                    obtain rfl := Option.some.inj H
                    go_wp2_with (first | ((with_reducible refine gate_callee (f := 44) rfl ?_); refine goesL_ (some 43) rfl rfl Tryd.func44 (by kernel_rfl) rfl #[.string a0, .string a1] rfl (by (try simp only [List.map_toArray, List.map_cons, List.map_nil]); first | done | rfl | (simp only [List.length_drop, List.length_take]; rfl)) ?_; (with_reducible refine (ppath_Rest.calls a0 a1 t430 true _ A37.out).mono ?_); rintro e w47 ⟨rfl, hb⟩; refine ⟨_, rfl, ?_⟩; have n0_ := Aside0.mk (below_step (by repeat (first | (with_reducible first | exact HB.out | apply below_alloc | apply pw_below_drewN | apply below_drew1) | exact HB.out)) hb); clear HB; have HB := n0_; clear n0_; (try clear hb); (try clear hb2); (try clear hk); (try clear hi)) | (go_at_call 49; (with_reducible refine (ppath_Join.calls a1 t430 t432 _ A39.out).mono ?_); rintro e w' ⟨rfl, ⟨nd, rfl⟩⟩) | (go_at_call 51; (with_reducible refine (ppath_Under.calls a0 a1 t433 _ A41.out).mono ?_); rintro e w48 ⟨rfl, hb⟩; have n0_ := Aside0.mk (below_step (by repeat (first | (with_reducible first | exact HB.out | apply below_alloc | apply pw_below_drewN | apply below_drew1) | exact HB.out)) hb); clear HB; have HB := n0_; clear n0_; (try clear hb); (try clear hb2); (try clear hk); (try clear hi)))
                    go_ret
                    exact ⟨by first | rfl | (simp [errW_none, errW_some] <;> rfl) | (simp [*, errW_none, errW_some] <;> rfl) | (simp only [bytes_ne, bytes_eq]; rfl), by repeat (first | (with_reducible first | exact HB.out | apply below_alloc | apply pw_below_drewN | apply below_drew1) | exact HB.out)⟩
                · rw [if_neg c40] at H
                  have c40b0 : (t432.toList == a0.toList) = false := beq_eq_false_iff_ne.mpr c40
                  have c40b1 : (t432.toList != a0.toList) = true := bne_iff_ne.mpr c40
                  by_cases c49 : t430.toList = ([] : List UInt8)
                  · rw [if_pos c49] at H
                    have c49b0 : (t430.toList == ([] : List UInt8)) = true := beq_iff_eq.mpr c49
                    have c49b1 : (t430.toList != ([] : List UInt8)) = false := bne_eq_false_iff_eq.mpr c49
                    clear c49
                    replace H := Option.bind_eq_some_iff.mp H
                    obtain ⟨t435, A500, H⟩ := H
                    replace H : (if (true == t435) = true then ((thwartlaw04_alive.f kj7).bind fun t436 => (some t436)) else (some false)) = some r := H
                    have A50 := Aside0.mk A500
                    clear A500
                    by_cases c51 : (true == t435) = true
                    · rw [if_pos c51] at H
                      have c51b0 : (true == t435) = true := c51
                      (try (have c51b1 : decide (true = t435) = true := by simpa using c51))
                      (try (have c51b2 : (true == t435) = true := by simpa using c51))
                      clear c51
                      replace H := Option.bind_eq_some_iff.mp H
                      obtain ⟨t436, A520, H⟩ := H
                      replace H : (some t436) = some r := H
                      have A52 := Aside0.mk A520
                      clear A520
                      obtain rfl := Option.some.inj H
                      go_wp2_with (first | ((with_reducible refine gate_callee (f := 44) rfl ?_); refine goesL_ (some 43) rfl rfl Tryd.func44 (by kernel_rfl) rfl #[.string a0, .string a1] rfl (by (try simp only [List.map_toArray, List.map_cons, List.map_nil]); first | done | rfl | (simp only [List.length_drop, List.length_take]; rfl)) ?_; (with_reducible refine (ppath_Rest.calls a0 a1 t430 true _ A37.out).mono ?_); rintro e w53 ⟨rfl, hb⟩; refine ⟨_, rfl, ?_⟩; have n0_ := Aside0.mk (below_step (by repeat (first | (with_reducible first | exact HB.out | apply below_alloc | apply pw_below_drewN | apply below_drew1) | exact HB.out)) hb); clear HB; have HB := n0_; clear n0_; (try clear hb); (try clear hb2); (try clear hk); (try clear hi)) | (go_at_call 49; (with_reducible refine (ppath_Join.calls a1 t430 t432 _ A39.out).mono ?_); rintro e w' ⟨rfl, ⟨nd, rfl⟩⟩) | (go_at_call 51; (with_reducible refine (ppath_Under.calls a0 a1 t435 _ A50.out).mono ?_); rintro e w54 ⟨rfl, hb⟩; have n0_ := Aside0.mk (below_step (by repeat (first | (with_reducible first | exact HB.out | apply below_alloc | apply pw_below_drewN | apply below_drew1) | exact HB.out)) hb); clear HB; have HB := n0_; clear n0_; (try clear hb); (try clear hb2); (try clear hk); (try clear hi)) | (go_at_call 35; (with_reducible refine (thwartlaw04_alive.calls kj7  t436 _ A52.out).mono ?_); rintro e w55 ⟨rfl, hb⟩; have n0_ := Aside0.mk (below_step (by repeat (first | (with_reducible first | exact HB.out | apply below_alloc | apply pw_below_drewN | apply below_drew1) | exact HB.out)) hb); clear HB; have HB := n0_; clear n0_; (try clear hb); (try clear hb2); (try clear hk); (try clear hi)))
                      go_ret
                      exact ⟨by first | rfl | (simp [errW_none, errW_some] <;> rfl) | (simp [*, errW_none, errW_some] <;> rfl) | (simp only [bytes_ne, bytes_eq]; rfl), by repeat (first | (with_reducible first | exact HB.out | apply below_alloc | apply pw_below_drewN | apply below_drew1) | exact HB.out)⟩
                    · rw [if_neg c51] at H
                      have c51b0 : (true == t435) = false := by simpa using c51
                      (try (have c51b1 : decide (true = t435) = false := by simpa using c51))
                      (try (have c51b2 : (true == t435) = false := by simpa using c51))
                      (try (have c51b3 : ¬ (true = t435) := by simpa using c51))
                      clear c51
                      obtain rfl := Option.some.inj H
                      go_wp2_with (first | ((with_reducible refine gate_callee (f := 44) rfl ?_); refine goesL_ (some 43) rfl rfl Tryd.func44 (by kernel_rfl) rfl #[.string a0, .string a1] rfl (by (try simp only [List.map_toArray, List.map_cons, List.map_nil]); first | done | rfl | (simp only [List.length_drop, List.length_take]; rfl)) ?_; (with_reducible refine (ppath_Rest.calls a0 a1 t430 true _ A37.out).mono ?_); rintro e w56 ⟨rfl, hb⟩; refine ⟨_, rfl, ?_⟩; have n0_ := Aside0.mk (below_step (by repeat (first | (with_reducible first | exact HB.out | apply below_alloc | apply pw_below_drewN | apply below_drew1) | exact HB.out)) hb); clear HB; have HB := n0_; clear n0_; (try clear hb); (try clear hb2); (try clear hk); (try clear hi)) | (go_at_call 49; (with_reducible refine (ppath_Join.calls a1 t430 t432 _ A39.out).mono ?_); rintro e w' ⟨rfl, ⟨nd, rfl⟩⟩) | (go_at_call 51; (with_reducible refine (ppath_Under.calls a0 a1 t435 _ A50.out).mono ?_); rintro e w57 ⟨rfl, hb⟩; have n0_ := Aside0.mk (below_step (by repeat (first | (with_reducible first | exact HB.out | apply below_alloc | apply pw_below_drewN | apply below_drew1) | exact HB.out)) hb); clear HB; have HB := n0_; clear n0_; (try clear hb); (try clear hb2); (try clear hk); (try clear hi)))
                      go_ret
                      exact ⟨by first | rfl | (simp [errW_none, errW_some] <;> rfl) | (simp [*, errW_none, errW_some] <;> rfl) | (simp only [bytes_ne, bytes_eq]; rfl), by repeat (first | (with_reducible first | exact HB.out | apply below_alloc | apply pw_below_drewN | apply below_drew1) | exact HB.out)⟩
                  · rw [if_neg c49] at H
                    have c49b0 : (t430.toList == ([] : List UInt8)) = false := beq_eq_false_iff_ne.mpr c49
                    have c49b1 : (t430.toList != ([] : List UInt8)) = true := bne_iff_ne.mpr c49
                    obtain rfl := Option.some.inj H
                    go_wp2_with (first | ((with_reducible refine gate_callee (f := 44) rfl ?_); refine goesL_ (some 43) rfl rfl Tryd.func44 (by kernel_rfl) rfl #[.string a0, .string a1] rfl (by (try simp only [List.map_toArray, List.map_cons, List.map_nil]); first | done | rfl | (simp only [List.length_drop, List.length_take]; rfl)) ?_; (with_reducible refine (ppath_Rest.calls a0 a1 t430 true _ A37.out).mono ?_); rintro e w58 ⟨rfl, hb⟩; refine ⟨_, rfl, ?_⟩; have n0_ := Aside0.mk (below_step (by repeat (first | (with_reducible first | exact HB.out | apply below_alloc | apply pw_below_drewN | apply below_drew1) | exact HB.out)) hb); clear HB; have HB := n0_; clear n0_; (try clear hb); (try clear hb2); (try clear hk); (try clear hi)) | (go_at_call 49; (with_reducible refine (ppath_Join.calls a1 t430 t432 _ A39.out).mono ?_); rintro e w' ⟨rfl, ⟨nd, rfl⟩⟩))
                    go_ret
                    exact ⟨by first | rfl | (simp [errW_none, errW_some] <;> rfl) | (simp [*, errW_none, errW_some] <;> rfl) | (simp only [bytes_ne, bytes_eq]; rfl), by repeat (first | (with_reducible first | exact HB.out | apply below_alloc | apply pw_below_drewN | apply below_drew1) | exact HB.out)⟩
              · replace c38 := Bool.eq_false_iff.mpr c38
                subst c38
                have H1 : ((ppath_Under.f a0 a1).bind fun t437 => (if (false == t437) = true then ((thwartlaw04_alive.f kj7).bind fun t438 => (some t438)) else (some false))) = some r := by rw [if_neg (show ¬ (false = true) by decide)] at H; exact H
                clear H
                have H := H1
                clear H1
                replace H := Option.bind_eq_some_iff.mp H
                obtain ⟨t437, A590, H⟩ := H
                replace H : (if (false == t437) = true then ((thwartlaw04_alive.f kj7).bind fun t438 => (some t438)) else (some false)) = some r := H
                have A59 := Aside0.mk A590
                clear A590
                by_cases c60 : (false == t437) = true
                · rw [if_pos c60] at H
                  have c60b0 : (false == t437) = true := c60
                  (try (have c60b1 : decide (false = t437) = true := by simpa using c60))
                  (try (have c60b2 : (false == t437) = true := by simpa using c60))
                  clear c60
                  replace H := Option.bind_eq_some_iff.mp H
                  obtain ⟨t438, A610, H⟩ := H
                  replace H : (some t438) = some r := H
                  have A61 := Aside0.mk A610
                  clear A610
                  obtain rfl := Option.some.inj H
                  go_wp2_with (first | ((with_reducible refine gate_callee (f := 44) rfl ?_); refine goesL_ (some 43) rfl rfl Tryd.func44 (by kernel_rfl) rfl #[.string a0, .string a1] rfl (by (try simp only [List.map_toArray, List.map_cons, List.map_nil]); first | done | rfl | (simp only [List.length_drop, List.length_take]; rfl)) ?_; (with_reducible refine (ppath_Rest.calls a0 a1 t430 false _ A37.out).mono ?_); rintro e w62 ⟨rfl, hb⟩; refine ⟨_, rfl, ?_⟩; have n0_ := Aside0.mk (below_step (by repeat (first | (with_reducible first | exact HB.out | apply below_alloc | apply pw_below_drewN | apply below_drew1) | exact HB.out)) hb); clear HB; have HB := n0_; clear n0_; (try clear hb); (try clear hb2); (try clear hk); (try clear hi)) | (go_at_call 51; (with_reducible refine (ppath_Under.calls a0 a1 t437 _ A59.out).mono ?_); rintro e w63 ⟨rfl, hb⟩; have n0_ := Aside0.mk (below_step (by repeat (first | (with_reducible first | exact HB.out | apply below_alloc | apply pw_below_drewN | apply below_drew1) | exact HB.out)) hb); clear HB; have HB := n0_; clear n0_; (try clear hb); (try clear hb2); (try clear hk); (try clear hi)) | (go_at_call 35; (with_reducible refine (thwartlaw04_alive.calls kj7  t438 _ A61.out).mono ?_); rintro e w64 ⟨rfl, hb⟩; have n0_ := Aside0.mk (below_step (by repeat (first | (with_reducible first | exact HB.out | apply below_alloc | apply pw_below_drewN | apply below_drew1) | exact HB.out)) hb); clear HB; have HB := n0_; clear n0_; (try clear hb); (try clear hb2); (try clear hk); (try clear hi)))
                  go_ret
                  exact ⟨by first | rfl | (simp [errW_none, errW_some] <;> rfl) | (simp [*, errW_none, errW_some] <;> rfl) | (simp only [bytes_ne, bytes_eq]; rfl), by repeat (first | (with_reducible first | exact HB.out | apply below_alloc | apply pw_below_drewN | apply below_drew1) | exact HB.out)⟩
                · rw [if_neg c60] at H
                  have c60b0 : (false == t437) = false := by simpa using c60
                  (try (have c60b1 : decide (false = t437) = false := by simpa using c60))
                  (try (have c60b2 : (false == t437) = false := by simpa using c60))
                  (try (have c60b3 : ¬ (false = t437) := by simpa using c60))
                  clear c60
                  obtain rfl := Option.some.inj H
                  go_wp2_with (first | ((with_reducible refine gate_callee (f := 44) rfl ?_); refine goesL_ (some 43) rfl rfl Tryd.func44 (by kernel_rfl) rfl #[.string a0, .string a1] rfl (by (try simp only [List.map_toArray, List.map_cons, List.map_nil]); first | done | rfl | (simp only [List.length_drop, List.length_take]; rfl)) ?_; (with_reducible refine (ppath_Rest.calls a0 a1 t430 false _ A37.out).mono ?_); rintro e w65 ⟨rfl, hb⟩; refine ⟨_, rfl, ?_⟩; have n0_ := Aside0.mk (below_step (by repeat (first | (with_reducible first | exact HB.out | apply below_alloc | apply pw_below_drewN | apply below_drew1) | exact HB.out)) hb); clear HB; have HB := n0_; clear n0_; (try clear hb); (try clear hb2); (try clear hk); (try clear hi)) | (go_at_call 51; (with_reducible refine (ppath_Under.calls a0 a1 t437 _ A59.out).mono ?_); rintro e w66 ⟨rfl, hb⟩; have n0_ := Aside0.mk (below_step (by repeat (first | (with_reducible first | exact HB.out | apply below_alloc | apply pw_below_drewN | apply below_drew1) | exact HB.out)) hb); clear HB; have HB := n0_; clear n0_; (try clear hb); (try clear hb2); (try clear hk); (try clear hi)))
                  go_ret
                  exact ⟨by first | rfl | (simp [errW_none, errW_some] <;> rfl) | (simp [*, errW_none, errW_some] <;> rfl) | (simp only [bytes_ne, bytes_eq]; rfl), by repeat (first | (with_reducible first | exact HB.out | apply below_alloc | apply pw_below_drewN | apply below_drew1) | exact HB.out)⟩

/-- THE ONE PURE STATEMENT of thwartlaw04_PpathWhole: yours. -/
def thwartlaw04_PpathWhole.Pure : Prop := ∀ (a0 : ByteArray) (a1 : ByteArray), a0.size ≤ 140737488351232 → a1.size ≤ 140737488351232 → ∃ k, thwartlaw04_PpathWhole.f k a0 a1 = some true
theorem thwartlaw04_PpathWhole.walk (P : thwartlaw04_PpathWhole.Pure) (a0 : ByteArray) (a1 : ByteArray) (w : World) (w0 : a0.size ≤ 140737488351232) (w1 : a1.size ≤ 140737488351232) :
    Calls Tryd.prog 11 #[.string a0, .string a1] w fun e w' => e = .returned (.bool true) ∧ Below w.heap.size w w' := by
  obtain ⟨k, h⟩ := P a0 a1 w0 w1
  refine (thwartlaw04_PpathWhole.calls k a0 a1 true w h).mono ?_
  rintro e w' ⟨rfl, hd⟩
  exact ⟨rfl, hd⟩

end Go.Proofs.YtpjanlpjjemenaaDoor.P
