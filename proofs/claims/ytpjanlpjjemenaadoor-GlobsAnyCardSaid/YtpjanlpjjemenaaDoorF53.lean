-- Written by xprint.py (a program of this session's, over the kit's printer) out of the translation. Not trusted: Lean checks it.
import Derived.Test.YtpjanlpjjemenaaDoorF0base
import Derived.Test.YtpjanlpjjemenaaDoorF54
import Derived.Test.YtpjanlpjjemenaaDoorF56
import Derived.Test.YtpjanlpjjemenaaDoorF58
import Derived.Test.YtpjanlpjjemenaaDoorF79
import Derived.Test.YtpjanlpjjemenaaDoorHGlobs
namespace Go.Proofs.YtpjanlpjjemenaaDoor.P
open Go.RowKit Go.Proofs.YtpjanlpjjemenaaDoorW.PrintWords Go.Proofs.YtpjanlpjjemenaaDoorW.PrintLast Go.Proofs.YtpjanlpjjemenaaDoorW.PrintMore Go.Proofs.YtpjanlpjjemenaaDoor.Hand
attribute [local go_sem] max2_int min2_int max_two min_two max_three min_three max_four min_four   -- for this text's walks alone
set_option linter.unusedVariables false
set_option linter.unusedSimpArgs false

/-! ### thwartlaw34_alive: function 53 -/
def thwartlaw34_alive.f (k : Nat)  : Option (Bool) := (globs_Match.f k (⟨#[97, 47, 42, 42, 47, 98]⟩ : ByteArray) (⟨#[97, 47, 98]⟩ : ByteArray)).bind fun t495 => (if t495 = true then ((globs_Match.f k (⟨#[97, 47, 42, 42, 47, 98]⟩ : ByteArray) (⟨#[97, 47, 120, 47, 121, 47, 98]⟩ : ByteArray)).bind fun t496 => (if t496 = true then ((globs_Match.f k (⟨#[97, 47, 42, 47, 98]⟩ : ByteArray) (⟨#[97, 47, 98]⟩ : ByteArray)).bind fun t497 => (if t497 = true then (some false) else ((globs_Name.f k (⟨#[91, 97, 45, 99, 93, 63]⟩ : ByteArray) (⟨#[98, 122]⟩ : ByteArray)).bind fun t498 => (if t498 = true then ((globs_Check.f (⟨#[91, 122, 45, 97, 93]⟩ : ByteArray)).bind fun t499 => (if t499 = 3 then ((globs_Plain.f (⟨#[97, 47, 98]⟩ : ByteArray)).bind fun t500 => (if t500 = true then ((globs_Quote.f k (⟨#[97, 42]⟩ : ByteArray)).bind fun t501 => (if t501.toList = ([97, 92, 42] : List UInt8) then ((globs_Least.f (⟨#[97, 47, 42, 42, 47, 98, 63]⟩ : ByteArray)).bind fun t502 => (some (t502 == 4))) else (some false))) else (some false))) else (some false))) else (some false))))) else (some false))) else (some false))
theorem thwartlaw34_alive.mono : ∀ k, LeO (thwartlaw34_alive.f k ) (thwartlaw34_alive.f (k + 1) ) := by
  intro  k
  unfold thwartlaw34_alive.f
  repeat' first
      | (with_reducible exact globs_Match.mono _ _ _)
      | (with_reducible exact globs_Name.mono _ _ _)
      | (with_reducible exact globs_Quote.mono _ _)
      | (with_reducible exact LeO.refl _)
      | (with_reducible exact LeO.none _)
      | (with_reducible refine LeO.ite ?_ ?_)
      | (with_reducible refine LeO.bind ?_ (fun _ => ?_))
      | exact globs_Match.mono _ _ _
      | exact globs_Name.mono _ _ _
      | exact globs_Quote.mono _ _
      | exact LeO.none _
      | refine LeO.ite ?_ ?_
      | refine LeO.bind ?_ (fun _ => ?_)
set_option maxHeartbeats 8000000 in
set_option maxRecDepth 100000 in
theorem thwartlaw34_alive.calls (k : Nat)  (r : Bool) (w : World) (h : thwartlaw34_alive.f k  = some r) :
    Calls Tryd.prog 53 #[] w fun e w' => e = .returned (.bool r) ∧ Below w.heap.size w w' := by
  have HB := Aside0.mk (Below.refl w.heap.size w)
  have H : ((globs_Match.f k (⟨#[97, 47, 42, 42, 47, 98]⟩ : ByteArray) (⟨#[97, 47, 98]⟩ : ByteArray)).bind fun t495 => (if t495 = true then ((globs_Match.f k (⟨#[97, 47, 42, 42, 47, 98]⟩ : ByteArray) (⟨#[97, 47, 120, 47, 121, 47, 98]⟩ : ByteArray)).bind fun t496 => (if t496 = true then ((globs_Match.f k (⟨#[97, 47, 42, 47, 98]⟩ : ByteArray) (⟨#[97, 47, 98]⟩ : ByteArray)).bind fun t497 => (if t497 = true then (some false) else ((globs_Name.f k (⟨#[91, 97, 45, 99, 93, 63]⟩ : ByteArray) (⟨#[98, 122]⟩ : ByteArray)).bind fun t498 => (if t498 = true then ((globs_Check.f (⟨#[91, 122, 45, 97, 93]⟩ : ByteArray)).bind fun t499 => (if t499 = 3 then ((globs_Plain.f (⟨#[97, 47, 98]⟩ : ByteArray)).bind fun t500 => (if t500 = true then ((globs_Quote.f k (⟨#[97, 42]⟩ : ByteArray)).bind fun t501 => (if t501.toList = ([97, 92, 42] : List UInt8) then ((globs_Least.f (⟨#[97, 47, 42, 42, 47, 98, 63]⟩ : ByteArray)).bind fun t502 => (some (t502 == 4))) else (some false))) else (some false))) else (some false))) else (some false))))) else (some false))) else (some false))) = some r := h
  clear h
  replace H := Option.bind_eq_some_iff.mp H
  obtain ⟨t495, A10, H⟩ := H
  replace H : (if t495 = true then ((globs_Match.f k (⟨#[97, 47, 42, 42, 47, 98]⟩ : ByteArray) (⟨#[97, 47, 120, 47, 121, 47, 98]⟩ : ByteArray)).bind fun t496 => (if t496 = true then ((globs_Match.f k (⟨#[97, 47, 42, 47, 98]⟩ : ByteArray) (⟨#[97, 47, 98]⟩ : ByteArray)).bind fun t497 => (if t497 = true then (some false) else ((globs_Name.f k (⟨#[91, 97, 45, 99, 93, 63]⟩ : ByteArray) (⟨#[98, 122]⟩ : ByteArray)).bind fun t498 => (if t498 = true then ((globs_Check.f (⟨#[91, 122, 45, 97, 93]⟩ : ByteArray)).bind fun t499 => (if t499 = 3 then ((globs_Plain.f (⟨#[97, 47, 98]⟩ : ByteArray)).bind fun t500 => (if t500 = true then ((globs_Quote.f k (⟨#[97, 42]⟩ : ByteArray)).bind fun t501 => (if t501.toList = ([97, 92, 42] : List UInt8) then ((globs_Least.f (⟨#[97, 47, 42, 42, 47, 98, 63]⟩ : ByteArray)).bind fun t502 => (some (t502 == 4))) else (some false))) else (some false))) else (some false))) else (some false))))) else (some false))) else (some false)) = some r := H
  have A1 := Aside0.mk A10
  clear A10
  by_cases c2 : t495 = true
  · subst c2
    have H1 : ((globs_Match.f k (⟨#[97, 47, 42, 42, 47, 98]⟩ : ByteArray) (⟨#[97, 47, 120, 47, 121, 47, 98]⟩ : ByteArray)).bind fun t496 => (if t496 = true then ((globs_Match.f k (⟨#[97, 47, 42, 47, 98]⟩ : ByteArray) (⟨#[97, 47, 98]⟩ : ByteArray)).bind fun t497 => (if t497 = true then (some false) else ((globs_Name.f k (⟨#[91, 97, 45, 99, 93, 63]⟩ : ByteArray) (⟨#[98, 122]⟩ : ByteArray)).bind fun t498 => (if t498 = true then ((globs_Check.f (⟨#[91, 122, 45, 97, 93]⟩ : ByteArray)).bind fun t499 => (if t499 = 3 then ((globs_Plain.f (⟨#[97, 47, 98]⟩ : ByteArray)).bind fun t500 => (if t500 = true then ((globs_Quote.f k (⟨#[97, 42]⟩ : ByteArray)).bind fun t501 => (if t501.toList = ([97, 92, 42] : List UInt8) then ((globs_Least.f (⟨#[97, 47, 42, 42, 47, 98, 63]⟩ : ByteArray)).bind fun t502 => (some (t502 == 4))) else (some false))) else (some false))) else (some false))) else (some false))))) else (some false))) = some r := by rw [if_pos rfl] at H; exact H
    clear H
    have H := H1
    clear H1
    replace H := Option.bind_eq_some_iff.mp H
    obtain ⟨t496, A30, H⟩ := H
    replace H : (if t496 = true then ((globs_Match.f k (⟨#[97, 47, 42, 47, 98]⟩ : ByteArray) (⟨#[97, 47, 98]⟩ : ByteArray)).bind fun t497 => (if t497 = true then (some false) else ((globs_Name.f k (⟨#[91, 97, 45, 99, 93, 63]⟩ : ByteArray) (⟨#[98, 122]⟩ : ByteArray)).bind fun t498 => (if t498 = true then ((globs_Check.f (⟨#[91, 122, 45, 97, 93]⟩ : ByteArray)).bind fun t499 => (if t499 = 3 then ((globs_Plain.f (⟨#[97, 47, 98]⟩ : ByteArray)).bind fun t500 => (if t500 = true then ((globs_Quote.f k (⟨#[97, 42]⟩ : ByteArray)).bind fun t501 => (if t501.toList = ([97, 92, 42] : List UInt8) then ((globs_Least.f (⟨#[97, 47, 42, 42, 47, 98, 63]⟩ : ByteArray)).bind fun t502 => (some (t502 == 4))) else (some false))) else (some false))) else (some false))) else (some false))))) else (some false)) = some r := H
    have A3 := Aside0.mk A30
    clear A30
    by_cases c4 : t496 = true
    · subst c4
      have H1 : ((globs_Match.f k (⟨#[97, 47, 42, 47, 98]⟩ : ByteArray) (⟨#[97, 47, 98]⟩ : ByteArray)).bind fun t497 => (if t497 = true then (some false) else ((globs_Name.f k (⟨#[91, 97, 45, 99, 93, 63]⟩ : ByteArray) (⟨#[98, 122]⟩ : ByteArray)).bind fun t498 => (if t498 = true then ((globs_Check.f (⟨#[91, 122, 45, 97, 93]⟩ : ByteArray)).bind fun t499 => (if t499 = 3 then ((globs_Plain.f (⟨#[97, 47, 98]⟩ : ByteArray)).bind fun t500 => (if t500 = true then ((globs_Quote.f k (⟨#[97, 42]⟩ : ByteArray)).bind fun t501 => (if t501.toList = ([97, 92, 42] : List UInt8) then ((globs_Least.f (⟨#[97, 47, 42, 42, 47, 98, 63]⟩ : ByteArray)).bind fun t502 => (some (t502 == 4))) else (some false))) else (some false))) else (some false))) else (some false))))) = some r := by rw [if_pos rfl] at H; exact H
      clear H
      have H := H1
      clear H1
      replace H := Option.bind_eq_some_iff.mp H
      obtain ⟨t497, A50, H⟩ := H
      replace H : (if t497 = true then (some false) else ((globs_Name.f k (⟨#[91, 97, 45, 99, 93, 63]⟩ : ByteArray) (⟨#[98, 122]⟩ : ByteArray)).bind fun t498 => (if t498 = true then ((globs_Check.f (⟨#[91, 122, 45, 97, 93]⟩ : ByteArray)).bind fun t499 => (if t499 = 3 then ((globs_Plain.f (⟨#[97, 47, 98]⟩ : ByteArray)).bind fun t500 => (if t500 = true then ((globs_Quote.f k (⟨#[97, 42]⟩ : ByteArray)).bind fun t501 => (if t501.toList = ([97, 92, 42] : List UInt8) then ((globs_Least.f (⟨#[97, 47, 42, 42, 47, 98, 63]⟩ : ByteArray)).bind fun t502 => (some (t502 == 4))) else (some false))) else (some false))) else (some false))) else (some false)))) = some r := H
      have A5 := Aside0.mk A50
      clear A50
      by_cases c6 : t497 = true
      · subst c6
        have H1 : (some false) = some r := by rw [if_pos rfl] at H; exact H
        clear H
        have H := H1
        clear H1
        obtain rfl := Option.some.inj H
        go_enter Tryd.func53, Tryd.ntmps53
        go_wp2_with (first | ((with_reducible refine gate_callee (f := 56) rfl ?_); refine goesL_ (some 1) rfl rfl Tryd.func56 (by kernel_rfl) rfl #[.string (⟨#[97, 47, 42, 42, 47, 98]⟩ : ByteArray), .string (⟨#[97, 47, 98]⟩ : ByteArray)] rfl (by (try simp only [List.map_toArray, List.map_cons, List.map_nil]); first | done | rfl | (simp only [List.length_drop, List.length_take]; rfl)) ?_; (with_reducible refine (globs_Match.calls k (⟨#[97, 47, 42, 42, 47, 98]⟩ : ByteArray) (⟨#[97, 47, 98]⟩ : ByteArray) true _ A1.out).mono ?_); rintro e w7 ⟨rfl, hb⟩; refine ⟨_, rfl, ?_⟩; have n0_ := Aside0.mk (below_step (by repeat (first | (with_reducible first | exact HB.out | apply below_alloc | apply pw_below_drewN | apply below_drew1) | exact HB.out)) hb); clear HB; have HB := n0_; clear n0_; (try clear hb); (try clear hb2); (try clear hk); (try clear hi)) | (go_at_call 56; (with_reducible refine (globs_Match.calls k (⟨#[97, 47, 42, 42, 47, 98]⟩ : ByteArray) (⟨#[97, 47, 120, 47, 121, 47, 98]⟩ : ByteArray) true _ A3.out).mono ?_); rintro e w8 ⟨rfl, hb⟩; have n0_ := Aside0.mk (below_step (by repeat (first | (with_reducible first | exact HB.out | apply below_alloc | apply pw_below_drewN | apply below_drew1) | exact HB.out)) hb); clear HB; have HB := n0_; clear n0_; (try clear hb); (try clear hb2); (try clear hk); (try clear hi)) | (go_at_call 56; (with_reducible refine (globs_Match.calls k (⟨#[97, 47, 42, 47, 98]⟩ : ByteArray) (⟨#[97, 47, 98]⟩ : ByteArray) true _ A5.out).mono ?_); rintro e w9 ⟨rfl, hb⟩; have n0_ := Aside0.mk (below_step (by repeat (first | (with_reducible first | exact HB.out | apply below_alloc | apply pw_below_drewN | apply below_drew1) | exact HB.out)) hb); clear HB; have HB := n0_; clear n0_; (try clear hb); (try clear hb2); (try clear hk); (try clear hi)))
        go_ret
        exact ⟨by first | rfl | (simp [errW_none, errW_some] <;> rfl) | (simp [*, errW_none, errW_some] <;> rfl), by repeat (first | (with_reducible first | exact HB.out | apply below_alloc | apply pw_below_drewN | apply below_drew1) | exact HB.out)⟩
      · replace c6 := Bool.eq_false_iff.mpr c6
        subst c6
        have H1 : ((globs_Name.f k (⟨#[91, 97, 45, 99, 93, 63]⟩ : ByteArray) (⟨#[98, 122]⟩ : ByteArray)).bind fun t498 => (if t498 = true then ((globs_Check.f (⟨#[91, 122, 45, 97, 93]⟩ : ByteArray)).bind fun t499 => (if t499 = 3 then ((globs_Plain.f (⟨#[97, 47, 98]⟩ : ByteArray)).bind fun t500 => (if t500 = true then ((globs_Quote.f k (⟨#[97, 42]⟩ : ByteArray)).bind fun t501 => (if t501.toList = ([97, 92, 42] : List UInt8) then ((globs_Least.f (⟨#[97, 47, 42, 42, 47, 98, 63]⟩ : ByteArray)).bind fun t502 => (some (t502 == 4))) else (some false))) else (some false))) else (some false))) else (some false))) = some r := by rw [if_neg (show ¬ (false = true) by decide)] at H; exact H
        clear H
        have H := H1
        clear H1
        replace H := Option.bind_eq_some_iff.mp H
        obtain ⟨t498, A100, H⟩ := H
        replace H : (if t498 = true then ((globs_Check.f (⟨#[91, 122, 45, 97, 93]⟩ : ByteArray)).bind fun t499 => (if t499 = 3 then ((globs_Plain.f (⟨#[97, 47, 98]⟩ : ByteArray)).bind fun t500 => (if t500 = true then ((globs_Quote.f k (⟨#[97, 42]⟩ : ByteArray)).bind fun t501 => (if t501.toList = ([97, 92, 42] : List UInt8) then ((globs_Least.f (⟨#[97, 47, 42, 42, 47, 98, 63]⟩ : ByteArray)).bind fun t502 => (some (t502 == 4))) else (some false))) else (some false))) else (some false))) else (some false)) = some r := H
        have A10 := Aside0.mk A100
        clear A100
        by_cases c11 : t498 = true
        · subst c11
          have H1 : ((globs_Check.f (⟨#[91, 122, 45, 97, 93]⟩ : ByteArray)).bind fun t499 => (if t499 = 3 then ((globs_Plain.f (⟨#[97, 47, 98]⟩ : ByteArray)).bind fun t500 => (if t500 = true then ((globs_Quote.f k (⟨#[97, 42]⟩ : ByteArray)).bind fun t501 => (if t501.toList = ([97, 92, 42] : List UInt8) then ((globs_Least.f (⟨#[97, 47, 42, 42, 47, 98, 63]⟩ : ByteArray)).bind fun t502 => (some (t502 == 4))) else (some false))) else (some false))) else (some false))) = some r := by rw [if_pos rfl] at H; exact H
          clear H
          have H := H1
          clear H1
          replace H := Option.bind_eq_some_iff.mp H
          obtain ⟨t499, A120, H⟩ := H
          replace H : (if t499 = 3 then ((globs_Plain.f (⟨#[97, 47, 98]⟩ : ByteArray)).bind fun t500 => (if t500 = true then ((globs_Quote.f k (⟨#[97, 42]⟩ : ByteArray)).bind fun t501 => (if t501.toList = ([97, 92, 42] : List UInt8) then ((globs_Least.f (⟨#[97, 47, 42, 42, 47, 98, 63]⟩ : ByteArray)).bind fun t502 => (some (t502 == 4))) else (some false))) else (some false))) else (some false)) = some r := H
          have A12 := Aside0.mk A120
          clear A120
          by_cases c13 : t499 = 3
          · rw [if_pos c13] at H
            have c13b0 : (t499 == 3) = true := beq_iff_eq.mpr c13
            have c13b1 : (t499 != 3) = false := bne_eq_false_iff_eq.mpr c13
            clear c13
            replace H := Option.bind_eq_some_iff.mp H
            obtain ⟨t500, A140, H⟩ := H
            replace H : (if t500 = true then ((globs_Quote.f k (⟨#[97, 42]⟩ : ByteArray)).bind fun t501 => (if t501.toList = ([97, 92, 42] : List UInt8) then ((globs_Least.f (⟨#[97, 47, 42, 42, 47, 98, 63]⟩ : ByteArray)).bind fun t502 => (some (t502 == 4))) else (some false))) else (some false)) = some r := H
            have A14 := Aside0.mk A140
            clear A140
            by_cases c15 : t500 = true
            · subst c15
              have H1 : ((globs_Quote.f k (⟨#[97, 42]⟩ : ByteArray)).bind fun t501 => (if t501.toList = ([97, 92, 42] : List UInt8) then ((globs_Least.f (⟨#[97, 47, 42, 42, 47, 98, 63]⟩ : ByteArray)).bind fun t502 => (some (t502 == 4))) else (some false))) = some r := by rw [if_pos rfl] at H; exact H
              clear H
              have H := H1
              clear H1
              replace H := Option.bind_eq_some_iff.mp H
              obtain ⟨t501, A160, H⟩ := H
              replace H : (if t501.toList = ([97, 92, 42] : List UInt8) then ((globs_Least.f (⟨#[97, 47, 42, 42, 47, 98, 63]⟩ : ByteArray)).bind fun t502 => (some (t502 == 4))) else (some false)) = some r := H
              have A16 := Aside0.mk A160
              clear A160
              by_cases c17 : t501.toList = ([97, 92, 42] : List UInt8)
              · rw [if_pos c17] at H
                have c17b0 : (t501.toList == ([97, 92, 42] : List UInt8)) = true := beq_iff_eq.mpr c17
                have c17b1 : (t501.toList != ([97, 92, 42] : List UInt8)) = false := bne_eq_false_iff_eq.mpr c17
                clear c17
                replace H := Option.bind_eq_some_iff.mp H
                obtain ⟨t502, A180, H⟩ := H
                replace H : (some (t502 == 4)) = some r := H
                have A18 := Aside0.mk A180
                clear A180
                obtain rfl := Option.some.inj H
                go_enter Tryd.func53, Tryd.ntmps53
                go_wp2_with (first | ((with_reducible refine gate_callee (f := 56) rfl ?_); refine goesL_ (some 1) rfl rfl Tryd.func56 (by kernel_rfl) rfl #[.string (⟨#[97, 47, 42, 42, 47, 98]⟩ : ByteArray), .string (⟨#[97, 47, 98]⟩ : ByteArray)] rfl (by (try simp only [List.map_toArray, List.map_cons, List.map_nil]); first | done | rfl | (simp only [List.length_drop, List.length_take]; rfl)) ?_; (with_reducible refine (globs_Match.calls k (⟨#[97, 47, 42, 42, 47, 98]⟩ : ByteArray) (⟨#[97, 47, 98]⟩ : ByteArray) true _ A1.out).mono ?_); rintro e w19 ⟨rfl, hb⟩; refine ⟨_, rfl, ?_⟩; have n0_ := Aside0.mk (below_step (by repeat (first | (with_reducible first | exact HB.out | apply below_alloc | apply pw_below_drewN | apply below_drew1) | exact HB.out)) hb); clear HB; have HB := n0_; clear n0_; (try clear hb); (try clear hb2); (try clear hk); (try clear hi)) | (go_at_call 56; (with_reducible refine (globs_Match.calls k (⟨#[97, 47, 42, 42, 47, 98]⟩ : ByteArray) (⟨#[97, 47, 120, 47, 121, 47, 98]⟩ : ByteArray) true _ A3.out).mono ?_); rintro e w20 ⟨rfl, hb⟩; have n0_ := Aside0.mk (below_step (by repeat (first | (with_reducible first | exact HB.out | apply below_alloc | apply pw_below_drewN | apply below_drew1) | exact HB.out)) hb); clear HB; have HB := n0_; clear n0_; (try clear hb); (try clear hb2); (try clear hk); (try clear hi)) | (go_at_call 56; (with_reducible refine (globs_Match.calls k (⟨#[97, 47, 42, 47, 98]⟩ : ByteArray) (⟨#[97, 47, 98]⟩ : ByteArray) false _ A5.out).mono ?_); rintro e w21 ⟨rfl, hb⟩; have n0_ := Aside0.mk (below_step (by repeat (first | (with_reducible first | exact HB.out | apply below_alloc | apply pw_below_drewN | apply below_drew1) | exact HB.out)) hb); clear HB; have HB := n0_; clear n0_; (try clear hb); (try clear hb2); (try clear hk); (try clear hi)) | (go_at_call 58; (with_reducible refine (globs_Name.calls k (⟨#[91, 97, 45, 99, 93, 63]⟩ : ByteArray) (⟨#[98, 122]⟩ : ByteArray) true _ A10.out).mono ?_); rintro e w22 ⟨rfl, hb⟩; have n0_ := Aside0.mk (below_step (by repeat (first | (with_reducible first | exact HB.out | apply below_alloc | apply pw_below_drewN | apply below_drew1) | exact HB.out)) hb); clear HB; have HB := n0_; clear n0_; (try clear hb); (try clear hb2); (try clear hk); (try clear hi)) | (go_at_call 55; (with_reducible refine (globs_Check.calls (⟨#[91, 122, 45, 97, 93]⟩ : ByteArray) t499 _ A12.out).mono ?_); rintro e w23 ⟨rfl, hb⟩; have n0_ := Aside0.mk (below_step (by repeat (first | (with_reducible first | exact HB.out | apply below_alloc | apply pw_below_drewN | apply below_drew1) | exact HB.out)) hb); clear HB; have HB := n0_; clear n0_; (try clear hb); (try clear hb2); (try clear hk); (try clear hi)) | (go_at_call 79; (with_reducible refine (globs_Plain.calls (⟨#[97, 47, 98]⟩ : ByteArray) true _ A14.out).mono ?_); rintro e w24 ⟨rfl, hb⟩; have n0_ := Aside0.mk (below_step (by repeat (first | (with_reducible first | exact HB.out | apply below_alloc | apply pw_below_drewN | apply below_drew1) | exact HB.out)) hb); clear HB; have HB := n0_; clear n0_; (try clear hb); (try clear hb2); (try clear hk); (try clear hi)) | (go_at_call 54; (with_reducible refine (globs_Quote.calls k (⟨#[97, 42]⟩ : ByteArray) t501 _ A16.out).mono ?_); rintro e w25 ⟨rfl, hb⟩; have n0_ := Aside0.mk (below_step (by repeat (first | (with_reducible first | exact HB.out | apply below_alloc | apply pw_below_drewN | apply below_drew1) | exact HB.out)) hb); clear HB; have HB := n0_; clear n0_; (try clear hb); (try clear hb2); (try clear hk); (try clear hi)) | (go_at_call 57; (with_reducible refine (globs_Least.calls (⟨#[97, 47, 42, 42, 47, 98, 63]⟩ : ByteArray) t502 _ A18.out).mono ?_); rintro e w26 ⟨rfl, hb⟩; have n0_ := Aside0.mk (below_step (by repeat (first | (with_reducible first | exact HB.out | apply below_alloc | apply pw_below_drewN | apply below_drew1) | exact HB.out)) hb); clear HB; have HB := n0_; clear n0_; (try clear hb); (try clear hb2); (try clear hk); (try clear hi)))
                go_ret
                exact ⟨by first | rfl | (simp [errW_none, errW_some] <;> rfl) | (simp [*, errW_none, errW_some] <;> rfl), by repeat (first | (with_reducible first | exact HB.out | apply below_alloc | apply pw_below_drewN | apply below_drew1) | exact HB.out)⟩
              · rw [if_neg c17] at H
                have c17b0 : (t501.toList == ([97, 92, 42] : List UInt8)) = false := beq_eq_false_iff_ne.mpr c17
                have c17b1 : (t501.toList != ([97, 92, 42] : List UInt8)) = true := bne_iff_ne.mpr c17
                obtain rfl := Option.some.inj H
                go_enter Tryd.func53, Tryd.ntmps53
                go_wp2_with (first | ((with_reducible refine gate_callee (f := 56) rfl ?_); refine goesL_ (some 1) rfl rfl Tryd.func56 (by kernel_rfl) rfl #[.string (⟨#[97, 47, 42, 42, 47, 98]⟩ : ByteArray), .string (⟨#[97, 47, 98]⟩ : ByteArray)] rfl (by (try simp only [List.map_toArray, List.map_cons, List.map_nil]); first | done | rfl | (simp only [List.length_drop, List.length_take]; rfl)) ?_; (with_reducible refine (globs_Match.calls k (⟨#[97, 47, 42, 42, 47, 98]⟩ : ByteArray) (⟨#[97, 47, 98]⟩ : ByteArray) true _ A1.out).mono ?_); rintro e w27 ⟨rfl, hb⟩; refine ⟨_, rfl, ?_⟩; have n0_ := Aside0.mk (below_step (by repeat (first | (with_reducible first | exact HB.out | apply below_alloc | apply pw_below_drewN | apply below_drew1) | exact HB.out)) hb); clear HB; have HB := n0_; clear n0_; (try clear hb); (try clear hb2); (try clear hk); (try clear hi)) | (go_at_call 56; (with_reducible refine (globs_Match.calls k (⟨#[97, 47, 42, 42, 47, 98]⟩ : ByteArray) (⟨#[97, 47, 120, 47, 121, 47, 98]⟩ : ByteArray) true _ A3.out).mono ?_); rintro e w28 ⟨rfl, hb⟩; have n0_ := Aside0.mk (below_step (by repeat (first | (with_reducible first | exact HB.out | apply below_alloc | apply pw_below_drewN | apply below_drew1) | exact HB.out)) hb); clear HB; have HB := n0_; clear n0_; (try clear hb); (try clear hb2); (try clear hk); (try clear hi)) | (go_at_call 56; (with_reducible refine (globs_Match.calls k (⟨#[97, 47, 42, 47, 98]⟩ : ByteArray) (⟨#[97, 47, 98]⟩ : ByteArray) false _ A5.out).mono ?_); rintro e w29 ⟨rfl, hb⟩; have n0_ := Aside0.mk (below_step (by repeat (first | (with_reducible first | exact HB.out | apply below_alloc | apply pw_below_drewN | apply below_drew1) | exact HB.out)) hb); clear HB; have HB := n0_; clear n0_; (try clear hb); (try clear hb2); (try clear hk); (try clear hi)) | (go_at_call 58; (with_reducible refine (globs_Name.calls k (⟨#[91, 97, 45, 99, 93, 63]⟩ : ByteArray) (⟨#[98, 122]⟩ : ByteArray) true _ A10.out).mono ?_); rintro e w30 ⟨rfl, hb⟩; have n0_ := Aside0.mk (below_step (by repeat (first | (with_reducible first | exact HB.out | apply below_alloc | apply pw_below_drewN | apply below_drew1) | exact HB.out)) hb); clear HB; have HB := n0_; clear n0_; (try clear hb); (try clear hb2); (try clear hk); (try clear hi)) | (go_at_call 55; (with_reducible refine (globs_Check.calls (⟨#[91, 122, 45, 97, 93]⟩ : ByteArray) t499 _ A12.out).mono ?_); rintro e w31 ⟨rfl, hb⟩; have n0_ := Aside0.mk (below_step (by repeat (first | (with_reducible first | exact HB.out | apply below_alloc | apply pw_below_drewN | apply below_drew1) | exact HB.out)) hb); clear HB; have HB := n0_; clear n0_; (try clear hb); (try clear hb2); (try clear hk); (try clear hi)) | (go_at_call 79; (with_reducible refine (globs_Plain.calls (⟨#[97, 47, 98]⟩ : ByteArray) true _ A14.out).mono ?_); rintro e w32 ⟨rfl, hb⟩; have n0_ := Aside0.mk (below_step (by repeat (first | (with_reducible first | exact HB.out | apply below_alloc | apply pw_below_drewN | apply below_drew1) | exact HB.out)) hb); clear HB; have HB := n0_; clear n0_; (try clear hb); (try clear hb2); (try clear hk); (try clear hi)) | (go_at_call 54; (with_reducible refine (globs_Quote.calls k (⟨#[97, 42]⟩ : ByteArray) t501 _ A16.out).mono ?_); rintro e w33 ⟨rfl, hb⟩; have n0_ := Aside0.mk (below_step (by repeat (first | (with_reducible first | exact HB.out | apply below_alloc | apply pw_below_drewN | apply below_drew1) | exact HB.out)) hb); clear HB; have HB := n0_; clear n0_; (try clear hb); (try clear hb2); (try clear hk); (try clear hi)))
                go_ret
                exact ⟨by first | rfl | (simp [errW_none, errW_some] <;> rfl) | (simp [*, errW_none, errW_some] <;> rfl), by repeat (first | (with_reducible first | exact HB.out | apply below_alloc | apply pw_below_drewN | apply below_drew1) | exact HB.out)⟩
            · replace c15 := Bool.eq_false_iff.mpr c15
              subst c15
              have H1 : (some false) = some r := by rw [if_neg (show ¬ (false = true) by decide)] at H; exact H
              clear H
              have H := H1
              clear H1
              obtain rfl := Option.some.inj H
              go_enter Tryd.func53, Tryd.ntmps53
              go_wp2_with (first | ((with_reducible refine gate_callee (f := 56) rfl ?_); refine goesL_ (some 1) rfl rfl Tryd.func56 (by kernel_rfl) rfl #[.string (⟨#[97, 47, 42, 42, 47, 98]⟩ : ByteArray), .string (⟨#[97, 47, 98]⟩ : ByteArray)] rfl (by (try simp only [List.map_toArray, List.map_cons, List.map_nil]); first | done | rfl | (simp only [List.length_drop, List.length_take]; rfl)) ?_; (with_reducible refine (globs_Match.calls k (⟨#[97, 47, 42, 42, 47, 98]⟩ : ByteArray) (⟨#[97, 47, 98]⟩ : ByteArray) true _ A1.out).mono ?_); rintro e w34 ⟨rfl, hb⟩; refine ⟨_, rfl, ?_⟩; have n0_ := Aside0.mk (below_step (by repeat (first | (with_reducible first | exact HB.out | apply below_alloc | apply pw_below_drewN | apply below_drew1) | exact HB.out)) hb); clear HB; have HB := n0_; clear n0_; (try clear hb); (try clear hb2); (try clear hk); (try clear hi)) | (go_at_call 56; (with_reducible refine (globs_Match.calls k (⟨#[97, 47, 42, 42, 47, 98]⟩ : ByteArray) (⟨#[97, 47, 120, 47, 121, 47, 98]⟩ : ByteArray) true _ A3.out).mono ?_); rintro e w35 ⟨rfl, hb⟩; have n0_ := Aside0.mk (below_step (by repeat (first | (with_reducible first | exact HB.out | apply below_alloc | apply pw_below_drewN | apply below_drew1) | exact HB.out)) hb); clear HB; have HB := n0_; clear n0_; (try clear hb); (try clear hb2); (try clear hk); (try clear hi)) | (go_at_call 56; (with_reducible refine (globs_Match.calls k (⟨#[97, 47, 42, 47, 98]⟩ : ByteArray) (⟨#[97, 47, 98]⟩ : ByteArray) false _ A5.out).mono ?_); rintro e w36 ⟨rfl, hb⟩; have n0_ := Aside0.mk (below_step (by repeat (first | (with_reducible first | exact HB.out | apply below_alloc | apply pw_below_drewN | apply below_drew1) | exact HB.out)) hb); clear HB; have HB := n0_; clear n0_; (try clear hb); (try clear hb2); (try clear hk); (try clear hi)) | (go_at_call 58; (with_reducible refine (globs_Name.calls k (⟨#[91, 97, 45, 99, 93, 63]⟩ : ByteArray) (⟨#[98, 122]⟩ : ByteArray) true _ A10.out).mono ?_); rintro e w37 ⟨rfl, hb⟩; have n0_ := Aside0.mk (below_step (by repeat (first | (with_reducible first | exact HB.out | apply below_alloc | apply pw_below_drewN | apply below_drew1) | exact HB.out)) hb); clear HB; have HB := n0_; clear n0_; (try clear hb); (try clear hb2); (try clear hk); (try clear hi)) | (go_at_call 55; (with_reducible refine (globs_Check.calls (⟨#[91, 122, 45, 97, 93]⟩ : ByteArray) t499 _ A12.out).mono ?_); rintro e w38 ⟨rfl, hb⟩; have n0_ := Aside0.mk (below_step (by repeat (first | (with_reducible first | exact HB.out | apply below_alloc | apply pw_below_drewN | apply below_drew1) | exact HB.out)) hb); clear HB; have HB := n0_; clear n0_; (try clear hb); (try clear hb2); (try clear hk); (try clear hi)) | (go_at_call 79; (with_reducible refine (globs_Plain.calls (⟨#[97, 47, 98]⟩ : ByteArray) false _ A14.out).mono ?_); rintro e w39 ⟨rfl, hb⟩; have n0_ := Aside0.mk (below_step (by repeat (first | (with_reducible first | exact HB.out | apply below_alloc | apply pw_below_drewN | apply below_drew1) | exact HB.out)) hb); clear HB; have HB := n0_; clear n0_; (try clear hb); (try clear hb2); (try clear hk); (try clear hi)))
              go_ret
              exact ⟨by first | rfl | (simp [errW_none, errW_some] <;> rfl) | (simp [*, errW_none, errW_some] <;> rfl), by repeat (first | (with_reducible first | exact HB.out | apply below_alloc | apply pw_below_drewN | apply below_drew1) | exact HB.out)⟩
          · rw [if_neg c13] at H
            have c13b0 : (t499 == 3) = false := beq_eq_false_iff_ne.mpr c13
            have c13b1 : (t499 != 3) = true := bne_iff_ne.mpr c13
            obtain rfl := Option.some.inj H
            go_enter Tryd.func53, Tryd.ntmps53
            go_wp2_with (first | ((with_reducible refine gate_callee (f := 56) rfl ?_); refine goesL_ (some 1) rfl rfl Tryd.func56 (by kernel_rfl) rfl #[.string (⟨#[97, 47, 42, 42, 47, 98]⟩ : ByteArray), .string (⟨#[97, 47, 98]⟩ : ByteArray)] rfl (by (try simp only [List.map_toArray, List.map_cons, List.map_nil]); first | done | rfl | (simp only [List.length_drop, List.length_take]; rfl)) ?_; (with_reducible refine (globs_Match.calls k (⟨#[97, 47, 42, 42, 47, 98]⟩ : ByteArray) (⟨#[97, 47, 98]⟩ : ByteArray) true _ A1.out).mono ?_); rintro e w40 ⟨rfl, hb⟩; refine ⟨_, rfl, ?_⟩; have n0_ := Aside0.mk (below_step (by repeat (first | (with_reducible first | exact HB.out | apply below_alloc | apply pw_below_drewN | apply below_drew1) | exact HB.out)) hb); clear HB; have HB := n0_; clear n0_; (try clear hb); (try clear hb2); (try clear hk); (try clear hi)) | (go_at_call 56; (with_reducible refine (globs_Match.calls k (⟨#[97, 47, 42, 42, 47, 98]⟩ : ByteArray) (⟨#[97, 47, 120, 47, 121, 47, 98]⟩ : ByteArray) true _ A3.out).mono ?_); rintro e w41 ⟨rfl, hb⟩; have n0_ := Aside0.mk (below_step (by repeat (first | (with_reducible first | exact HB.out | apply below_alloc | apply pw_below_drewN | apply below_drew1) | exact HB.out)) hb); clear HB; have HB := n0_; clear n0_; (try clear hb); (try clear hb2); (try clear hk); (try clear hi)) | (go_at_call 56; (with_reducible refine (globs_Match.calls k (⟨#[97, 47, 42, 47, 98]⟩ : ByteArray) (⟨#[97, 47, 98]⟩ : ByteArray) false _ A5.out).mono ?_); rintro e w42 ⟨rfl, hb⟩; have n0_ := Aside0.mk (below_step (by repeat (first | (with_reducible first | exact HB.out | apply below_alloc | apply pw_below_drewN | apply below_drew1) | exact HB.out)) hb); clear HB; have HB := n0_; clear n0_; (try clear hb); (try clear hb2); (try clear hk); (try clear hi)) | (go_at_call 58; (with_reducible refine (globs_Name.calls k (⟨#[91, 97, 45, 99, 93, 63]⟩ : ByteArray) (⟨#[98, 122]⟩ : ByteArray) true _ A10.out).mono ?_); rintro e w43 ⟨rfl, hb⟩; have n0_ := Aside0.mk (below_step (by repeat (first | (with_reducible first | exact HB.out | apply below_alloc | apply pw_below_drewN | apply below_drew1) | exact HB.out)) hb); clear HB; have HB := n0_; clear n0_; (try clear hb); (try clear hb2); (try clear hk); (try clear hi)) | (go_at_call 55; (with_reducible refine (globs_Check.calls (⟨#[91, 122, 45, 97, 93]⟩ : ByteArray) t499 _ A12.out).mono ?_); rintro e w44 ⟨rfl, hb⟩; have n0_ := Aside0.mk (below_step (by repeat (first | (with_reducible first | exact HB.out | apply below_alloc | apply pw_below_drewN | apply below_drew1) | exact HB.out)) hb); clear HB; have HB := n0_; clear n0_; (try clear hb); (try clear hb2); (try clear hk); (try clear hi)))
            go_ret
            exact ⟨by first | rfl | (simp [errW_none, errW_some] <;> rfl) | (simp [*, errW_none, errW_some] <;> rfl), by repeat (first | (with_reducible first | exact HB.out | apply below_alloc | apply pw_below_drewN | apply below_drew1) | exact HB.out)⟩
        · replace c11 := Bool.eq_false_iff.mpr c11
          subst c11
          have H1 : (some false) = some r := by rw [if_neg (show ¬ (false = true) by decide)] at H; exact H
          clear H
          have H := H1
          clear H1
          obtain rfl := Option.some.inj H
          go_enter Tryd.func53, Tryd.ntmps53
          go_wp2_with (first | ((with_reducible refine gate_callee (f := 56) rfl ?_); refine goesL_ (some 1) rfl rfl Tryd.func56 (by kernel_rfl) rfl #[.string (⟨#[97, 47, 42, 42, 47, 98]⟩ : ByteArray), .string (⟨#[97, 47, 98]⟩ : ByteArray)] rfl (by (try simp only [List.map_toArray, List.map_cons, List.map_nil]); first | done | rfl | (simp only [List.length_drop, List.length_take]; rfl)) ?_; (with_reducible refine (globs_Match.calls k (⟨#[97, 47, 42, 42, 47, 98]⟩ : ByteArray) (⟨#[97, 47, 98]⟩ : ByteArray) true _ A1.out).mono ?_); rintro e w45 ⟨rfl, hb⟩; refine ⟨_, rfl, ?_⟩; have n0_ := Aside0.mk (below_step (by repeat (first | (with_reducible first | exact HB.out | apply below_alloc | apply pw_below_drewN | apply below_drew1) | exact HB.out)) hb); clear HB; have HB := n0_; clear n0_; (try clear hb); (try clear hb2); (try clear hk); (try clear hi)) | (go_at_call 56; (with_reducible refine (globs_Match.calls k (⟨#[97, 47, 42, 42, 47, 98]⟩ : ByteArray) (⟨#[97, 47, 120, 47, 121, 47, 98]⟩ : ByteArray) true _ A3.out).mono ?_); rintro e w46 ⟨rfl, hb⟩; have n0_ := Aside0.mk (below_step (by repeat (first | (with_reducible first | exact HB.out | apply below_alloc | apply pw_below_drewN | apply below_drew1) | exact HB.out)) hb); clear HB; have HB := n0_; clear n0_; (try clear hb); (try clear hb2); (try clear hk); (try clear hi)) | (go_at_call 56; (with_reducible refine (globs_Match.calls k (⟨#[97, 47, 42, 47, 98]⟩ : ByteArray) (⟨#[97, 47, 98]⟩ : ByteArray) false _ A5.out).mono ?_); rintro e w47 ⟨rfl, hb⟩; have n0_ := Aside0.mk (below_step (by repeat (first | (with_reducible first | exact HB.out | apply below_alloc | apply pw_below_drewN | apply below_drew1) | exact HB.out)) hb); clear HB; have HB := n0_; clear n0_; (try clear hb); (try clear hb2); (try clear hk); (try clear hi)) | (go_at_call 58; (with_reducible refine (globs_Name.calls k (⟨#[91, 97, 45, 99, 93, 63]⟩ : ByteArray) (⟨#[98, 122]⟩ : ByteArray) false _ A10.out).mono ?_); rintro e w48 ⟨rfl, hb⟩; have n0_ := Aside0.mk (below_step (by repeat (first | (with_reducible first | exact HB.out | apply below_alloc | apply pw_below_drewN | apply below_drew1) | exact HB.out)) hb); clear HB; have HB := n0_; clear n0_; (try clear hb); (try clear hb2); (try clear hk); (try clear hi)))
          go_ret
          exact ⟨by first | rfl | (simp [errW_none, errW_some] <;> rfl) | (simp [*, errW_none, errW_some] <;> rfl), by repeat (first | (with_reducible first | exact HB.out | apply below_alloc | apply pw_below_drewN | apply below_drew1) | exact HB.out)⟩
    · replace c4 := Bool.eq_false_iff.mpr c4
      subst c4
      have H1 : (some false) = some r := by rw [if_neg (show ¬ (false = true) by decide)] at H; exact H
      clear H
      have H := H1
      clear H1
      obtain rfl := Option.some.inj H
      go_enter Tryd.func53, Tryd.ntmps53
      go_wp2_with (first | ((with_reducible refine gate_callee (f := 56) rfl ?_); refine goesL_ (some 1) rfl rfl Tryd.func56 (by kernel_rfl) rfl #[.string (⟨#[97, 47, 42, 42, 47, 98]⟩ : ByteArray), .string (⟨#[97, 47, 98]⟩ : ByteArray)] rfl (by (try simp only [List.map_toArray, List.map_cons, List.map_nil]); first | done | rfl | (simp only [List.length_drop, List.length_take]; rfl)) ?_; (with_reducible refine (globs_Match.calls k (⟨#[97, 47, 42, 42, 47, 98]⟩ : ByteArray) (⟨#[97, 47, 98]⟩ : ByteArray) true _ A1.out).mono ?_); rintro e w49 ⟨rfl, hb⟩; refine ⟨_, rfl, ?_⟩; have n0_ := Aside0.mk (below_step (by repeat (first | (with_reducible first | exact HB.out | apply below_alloc | apply pw_below_drewN | apply below_drew1) | exact HB.out)) hb); clear HB; have HB := n0_; clear n0_; (try clear hb); (try clear hb2); (try clear hk); (try clear hi)) | (go_at_call 56; (with_reducible refine (globs_Match.calls k (⟨#[97, 47, 42, 42, 47, 98]⟩ : ByteArray) (⟨#[97, 47, 120, 47, 121, 47, 98]⟩ : ByteArray) false _ A3.out).mono ?_); rintro e w50 ⟨rfl, hb⟩; have n0_ := Aside0.mk (below_step (by repeat (first | (with_reducible first | exact HB.out | apply below_alloc | apply pw_below_drewN | apply below_drew1) | exact HB.out)) hb); clear HB; have HB := n0_; clear n0_; (try clear hb); (try clear hb2); (try clear hk); (try clear hi)))
      go_ret
      exact ⟨by first | rfl | (simp [errW_none, errW_some] <;> rfl) | (simp [*, errW_none, errW_some] <;> rfl), by repeat (first | (with_reducible first | exact HB.out | apply below_alloc | apply pw_below_drewN | apply below_drew1) | exact HB.out)⟩
  · replace c2 := Bool.eq_false_iff.mpr c2
    subst c2
    have H1 : (some false) = some r := by rw [if_neg (show ¬ (false = true) by decide)] at H; exact H
    clear H
    have H := H1
    clear H1
    obtain rfl := Option.some.inj H
    go_enter Tryd.func53, Tryd.ntmps53
    go_wp2_with (first | ((with_reducible refine gate_callee (f := 56) rfl ?_); refine goesL_ (some 1) rfl rfl Tryd.func56 (by kernel_rfl) rfl #[.string (⟨#[97, 47, 42, 42, 47, 98]⟩ : ByteArray), .string (⟨#[97, 47, 98]⟩ : ByteArray)] rfl (by (try simp only [List.map_toArray, List.map_cons, List.map_nil]); first | done | rfl | (simp only [List.length_drop, List.length_take]; rfl)) ?_; (with_reducible refine (globs_Match.calls k (⟨#[97, 47, 42, 42, 47, 98]⟩ : ByteArray) (⟨#[97, 47, 98]⟩ : ByteArray) false _ A1.out).mono ?_); rintro e w51 ⟨rfl, hb⟩; refine ⟨_, rfl, ?_⟩; have n0_ := Aside0.mk (below_step (by repeat (first | (with_reducible first | exact HB.out | apply below_alloc | apply pw_below_drewN | apply below_drew1) | exact HB.out)) hb); clear HB; have HB := n0_; clear n0_; (try clear hb); (try clear hb2); (try clear hk); (try clear hi)))
    go_ret
    exact ⟨by first | rfl | (simp [errW_none, errW_some] <;> rfl) | (simp [*, errW_none, errW_some] <;> rfl), by repeat (first | (with_reducible first | exact HB.out | apply below_alloc | apply pw_below_drewN | apply below_drew1) | exact HB.out)⟩

end Go.Proofs.YtpjanlpjjemenaaDoor.P
