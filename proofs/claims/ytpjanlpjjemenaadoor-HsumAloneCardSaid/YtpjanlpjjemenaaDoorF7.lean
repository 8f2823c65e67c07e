-- Written by xprint.py (a program of this session's, over the kit's printer) out of the translation. Not trusted: Lean checks it.
import Derived.Test.YtpjanlpjjemenaaDoorF0base
import Derived.Test.YtpjanlpjjemenaaDoorF24
import Derived.Test.YtpjanlpjjemenaaDoorF25
import Derived.Test.YtpjanlpjjemenaaDoorF26
import Derived.Test.YtpjanlpjjemenaaDoorHCopy8
namespace Go.Proofs.YtpjanlpjjemenaaDoor.P
open Go.RowKit Go.Proofs.YtpjanlpjjemenaaDoorW.PrintWords Go.Proofs.YtpjanlpjjemenaaDoorW.PrintLast Go.Proofs.YtpjanlpjjemenaaDoorW.PrintMore Go.Proofs.YtpjanlpjjemenaaDoor.Hand
attribute [local go_sem] max2_int min2_int max_two min_two max_three min_three max_four min_four   -- for this text's walks alone
set_option linter.unusedVariables false
set_option linter.unusedSimpArgs false

/-! ### thwartlaw03_HsumAlone: function 7 -/
def thwartlaw03_HsumAlone.j0 : Nat → Int → Int → List Int → List Int → Bool → Option (Bool)
  | 0, _, _, _, _, _ => none
  | k + 1, x1, x2, x7, x8, x31 => if x31 = true then ((thwartlaw03_alive.f k).bind fun t319 => (some t319)) else ((thwartlaw03_block.f k x7).bind fun t320 => ((thwartlaw03_block.f k x7).bind fun t323 => (if 156 ≤ (t323.length : Int) then ((thwartlaw03_block.f k x8).bind fun t326 => (if 148 ≤ 156 then (if 156 ≤ (t326.length : Int) then (if ([] : List Int).length + t320.length < 140737488355328 then ((some (([] : List Int) ++ t320 : List Int)).bind fun y334 => (if 0 ≤ (Int.tmod (wrap64 (x1)) 512) then (if (Int.tmod (wrap64 (x1)) 512) < (y334.length : Int) then ((hsum_Sum.f k t320).bind fun bt338 => ((hsum_Sum.f k (mid8 t323 ((t326.take 156).drop 148))).bind fun bt340 => ((hsum_Sum.f k (y334.set ((Int.tmod (wrap64 (x1)) 512) : Int).toNat x2)).bind fun bt342 => (if (Int.tmod (wrap64 (x1)) 512) < (t320.length : Int) then (if (Int.tmod (wrap64 (x1)) 512) ≥ 148 then (if (Int.tmod (wrap64 (x1)) 512) < 156 then (if bt338.1 = bt340.1 then (if bt342.1 = bt338.1 then (if bt338.2 = 0 then (if bt340.2 = 0 then (if bt342.2 = 0 then ((thwartlaw03_alive.f k).bind fun t345 => (some t345)) else (some false)) else (some false)) else (some false)) else (some false)) else (some false)) else (if bt338.1 = bt340.1 then (if bt342.1 = (wrap64 ((wrap64 (bt338.1 + (wrap64 (x2)))) - (wrap64 (rd t320 (Int.tmod (wrap64 (x1)) 512))))) then (if bt338.2 = 0 then (if bt340.2 = 0 then (if bt342.2 = 0 then ((thwartlaw03_alive.f k).bind fun t346 => (some t346)) else (some false)) else (some false)) else (some false)) else (some false)) else (some false))) else (if bt338.1 = bt340.1 then (if bt342.1 = (wrap64 ((wrap64 (bt338.1 + (wrap64 (x2)))) - (wrap64 (rd t320 (Int.tmod (wrap64 (x1)) 512))))) then (if bt338.2 = 0 then (if bt340.2 = 0 then (if bt342.2 = 0 then ((thwartlaw03_alive.f k).bind fun t347 => (some t347)) else (some false)) else (some false)) else (some false)) else (some false)) else (some false))) else (none))))) else (none)) else (none))) else (none)) else (none)) else (none))) else (none))))
def thwartlaw03_HsumAlone.f (k : Nat) (l0_0 : List Int) (l0_1 : List Int) (a1 : Int) (a2 : Int) : Option (Bool) := if (l0_0.length : Int) > 1000 then (thwartlaw03_HsumAlone.j0 k a1 a2 l0_0 l0_1 true) else (thwartlaw03_HsumAlone.j0 k a1 a2 l0_0 l0_1 (decide ((l0_1.length : Int) > 1000)))
theorem thwartlaw03_HsumAlone.mono_l : ∀ k, (∀ y0 y1 y2 y3 y4, LeO (thwartlaw03_HsumAlone.j0 k y0 y1 y2 y3 y4) (thwartlaw03_HsumAlone.j0 (k + 1) y0 y1 y2 y3 y4))
  | 0 => fun _ _ _ _ _ r h => by simp [thwartlaw03_HsumAlone.j0] at h
  | k + 1 => by
    have ih0 := thwartlaw03_HsumAlone.mono_l k
    · intro y0 y1 y2 y3 y4
      unfold thwartlaw03_HsumAlone.j0
      repeat' first
      | (with_reducible exact ih0 _ _ _ _ _)
      | (with_reducible exact hsum_Sum.mono _ _)
      | (with_reducible exact thwartlaw03_alive.mono _)
      | (with_reducible exact thwartlaw03_block.mono _ _)
      | (with_reducible exact LeO.refl _)
      | (with_reducible exact LeO.none _)
      | (with_reducible refine LeO.ite ?_ ?_)
      | (with_reducible refine LeO.bind ?_ (fun _ => ?_))
      | exact ih0 _ _ _ _ _
      | exact hsum_Sum.mono _ _
      | exact thwartlaw03_alive.mono _
      | exact thwartlaw03_block.mono _ _
      | exact LeO.none _
      | refine LeO.ite ?_ ?_
      | refine LeO.bind ?_ (fun _ => ?_)
theorem thwartlaw03_HsumAlone.mono : ∀ a0 a1 a2 a3 k, LeO (thwartlaw03_HsumAlone.f k a0 a1 a2 a3) (thwartlaw03_HsumAlone.f (k + 1) a0 a1 a2 a3) := by
  intro a0 a1 a2 a3 k
  have ih0 := thwartlaw03_HsumAlone.mono_l k
  unfold thwartlaw03_HsumAlone.f
  repeat' first
      | (with_reducible exact ih0 _ _ _ _ _)
      | (with_reducible exact hsum_Sum.mono _ _)
      | (with_reducible exact thwartlaw03_alive.mono _)
      | (with_reducible exact thwartlaw03_block.mono _ _)
      | (with_reducible exact LeO.refl _)
      | (with_reducible exact LeO.none _)
      | (with_reducible refine LeO.ite ?_ ?_)
      | (with_reducible refine LeO.bind ?_ (fun _ => ?_))
      | exact ih0 _ _ _ _ _
      | exact hsum_Sum.mono _ _
      | exact thwartlaw03_alive.mono _
      | exact thwartlaw03_block.mono _ _
      | exact LeO.none _
      | refine LeO.ite ?_ ?_
      | refine LeO.bind ?_ (fun _ => ?_)
set_option maxHeartbeats 8000000 in
set_option maxRecDepth 100000 in
theorem thwartlaw03_HsumAlone.calls (k : Nat) (A0_0 : Option Addr) (c0_0 : Nat) (l0_0 : List Int) (A0_1 : Option Addr) (c0_1 : Nat) (l0_1 : List Int) (a1 : Int) (a2 : Int) (r : Bool) (HRT : Aside0 (r = true)) (w : World) (hr0_0 : Kd.C (Kd.int .u8) w A0_0 l0_0.length l0_0) (hc0_0 : l0_0.length ≤ c0_0) (hr0_1 : Kd.C (Kd.int .u8) w A0_1 l0_1.length l0_1) (hc0_1 : l0_1.length ≤ c0_1) (h : thwartlaw03_HsumAlone.f k l0_0 l0_1 a1 a2 = some r) :
    Calls Tryd.prog 7 #[.agg #[.slice A0_0 l0_0.length c0_0, .slice A0_1 l0_1.length c0_1], .int .u16 a1, .int .u8 a2] w fun e w' => e = .returned (.bool r) ∧ Below w.heap.size w w' := by
  have hu53 := Tryd.underlying53
  have HR0_0 := Aside0.mk hr0_0
  have HC0_0 := Aside0.mk hc0_0
  clear hr0_0 hc0_0
  have HR0_1 := Aside0.mk hr0_1
  have HC0_1 := Aside0.mk hc0_1
  clear hr0_1 hc0_1
  have HB := Aside0.mk (Below.refl w.heap.size w)
  have H : (if (l0_0.length : Int) > 1000 then (thwartlaw03_HsumAlone.j0 k a1 a2 l0_0 l0_1 true) else (thwartlaw03_HsumAlone.j0 k a1 a2 l0_0 l0_1 (decide ((l0_1.length : Int) > 1000)))) = some r := h
  clear h
  have HC4 := Aside0.mk H
  clear H
  go_enter Tryd.func7, Tryd.ntmps7
  try go_wp2_with (first | ((with_reducible refine gate_dst (N := 3) rfl ?_); (try (refine gate_guard (by rfl) ?_; dsimp only)); refine box_event ?hg (N := 3) ?hd (cs := #[.slice A0_0 l0_0.length c0_0, .slice A0_1 l0_1.length c0_1]) (t := 53) ?hr ?_; (case hd => rfl); (case hg => rfl); (case hr => first | (go_simp; done) | (go_simp; rfl)); intro gb318 hg w5 hbox hb; have n0_ := Aside0.mk (below_step (by repeat (first | (with_reducible first | exact HB.out | apply below_alloc | apply pw_below_drewN | apply below_drew1) | exact HB.out)) hb); have n1_ := Aside0.mk (hbox); have n2_ := Aside0.mk ((by rw [hg]; exact (below_size (by repeat (first | (with_reducible first | exact HB.out | apply below_alloc | apply pw_below_drewN | apply below_drew1) | exact HB.out))) : w.heap.size ≤ gb318)); have n3_ := Aside0.mk ((by rw [hg]; exact (below_size (by repeat (first | (with_reducible first | exact HB.out | apply below_alloc | apply pw_below_drewN | apply below_drew1) | exact HB.out))) : w.heap.size ≤ gb318)); clear HB; have HB := n0_; have BK318 := n1_; have GW318 := n2_; have GE318 := n3_; clear n0_ n1_ n2_ n3_; clear hb hbox hg))
  have n0_ := Aside0.mk (blk_drew BK318.out)
  have n1_ := Aside0.mk (below_drew1 HB.out)
  clear BK318
  clear HB
  have BK318 := n0_
  have HB := n1_
  clear n0_ n1_
  refine start_ (n := 6) (S := fun w' => w'.cell? ⟨gb318, 0, none⟩ = some (.slice A0_0 l0_0.length c0_0) ∧ w'.cell? ⟨gb318, 1, none⟩ = some (.slice A0_1 l0_1.length c0_1)) (ds := []) #[false, false, false, false, false, false] (by kernel_rfl) rfl rfl ⟨(blk_cell BK318.out 0).trans rfl, (blk_cell BK318.out 1).trans rfl⟩ (fun hHeld => ?_)
  generalize w5.drew = w6 at BK318 HB hHeld ⊢
  refine pure_ (i := 0) (N := some 20) (v := ?_) (a' := ?_) #[true, false, false, false, false, false] rfl rfl (by kernel_rfl) (fun _ _ _ h => h) (Or.inl ⟨by rfl, ?_⟩) ?_ ?_
  rotate_left
  · intro w'
    go_simp
    with_reducible rfl
  rotate_left
  · simp only [Act.put, List.setIfInBounds_toArray, List.set_cons_zero, List.set_cons_succ, i64_w, i32_w]
    rfl
  refine pure_ (i := 2) (N := some 22) (v := ?_) (a' := ?_) #[true, false, true, false, false, false] rfl rfl (by kernel_rfl) (fun _ _ _ h => h) (Or.inl ⟨by rfl, ?_⟩) ?_ ?_
  rotate_left
  · intro w'
    go_simp
    with_reducible rfl
  rotate_left
  · simp only [Act.put, List.setIfInBounds_toArray, List.set_cons_zero, List.set_cons_succ, i64_w, i32_w]
    rfl
  refine take_ (i := 1) (N := some 21) (v := ?_) (a' := ?_) #[true, true, true, false, false, false] rfl rfl (by kernel_rfl) (fun _ _ _ h => h) (Or.inl ⟨by rfl, ?_⟩) hHeld ?_ ?_
  rotate_left
  · rintro w' ⟨s0, s1⟩
    go_simp
    with_reducible rfl
  rotate_left
  · simp only [Act.put, List.setIfInBounds_toArray, List.set_cons_zero, List.set_cons_succ, i64_w, i32_w]
    rfl
  refine pure_ (i := 4) (N := some 7) (v := ?_) (a' := ?_) #[true, true, true, false, true, false] rfl rfl (by kernel_rfl) (fun _ _ _ h => h) (Or.inl ⟨by rfl, ?_⟩) ?_ ?_
  rotate_left
  · intro w'
    go_simp
    with_reducible rfl
  rotate_left
  · simp only [Act.put, List.setIfInBounds_toArray, List.set_cons_zero, List.set_cons_succ, i64_w, i32_w]
    rfl
  refine take_ (i := 3) (N := some 23) (v := ?_) (a' := ?_) #[true, true, true, true, true, false] rfl rfl (by kernel_rfl) (fun _ _ _ h => h) (Or.inl ⟨by rfl, ?_⟩) hHeld ?_ ?_
  rotate_left
  · rintro w' ⟨s0, s1⟩
    go_simp
    with_reducible rfl
  rotate_left
  · simp only [Act.put, List.setIfInBounds_toArray, List.set_cons_zero, List.set_cons_succ, i64_w, i32_w]
    rfl
  refine pure_ (i := 5) (N := some 8) (v := ?_) (a' := ?_) #[true, true, true, true, true, true] rfl rfl (by kernel_rfl) (fun _ _ _ h => h) (Or.inl ⟨by rfl, ?_⟩) ?_ ?_
  rotate_left
  · intro w'
    go_simp
    with_reducible rfl
  rotate_left
  · simp only [Act.put, List.setIfInBounds_toArray, List.set_cons_zero, List.set_cons_succ, i64_w, i32_w]
    rfl
  refine done_ (by kernel_rfl) ?_
  go_upto_region 2 with (fail)
  go_cut [31] (fun v31 wc => ∃ (kq : Nat) (x31_3 : Bool), v31 = .bool x31_3 ∧ Aside0 (thwartlaw03_HsumAlone.j0 kq a1 a2 l0_0 l0_1 x31_3 = some r) ∧ Aside0 (kq ≤ k) ∧ Aside0 (wc.heap[gb318]? = some (.cells #[(.slice A0_0 l0_0.length c0_0), (.slice A0_1 l0_1.length c0_1)] 53 (0, 0))) ∧ Aside0 (Below w.heap.size w wc))
  case first =>
    have H := HC4.out
    clear HC4
    by_cases c7 : (l0_0.length : Int) > 1000
    · rw [if_pos c7] at H
      have c7b0 : decide (1000 < (l0_0.length : Int)) = true := decide_eq_true c7
      have c7b1 : decide (1000 < l0_0.length) = true := decide_eq_true (by omega)
      clear c7
      (first | rw [c7b0] | (simp only [i64_w, i32_w]; rw [c7b0]) | skip)
      have H' := Aside0.mk H
      clear H
      go_wp2
      go_meet
      case rel => exact ⟨_, (true), (by first | rfl | (simp; done) | (simp [*]; done)), H', ⟨by first | omega | exact Nat.le_refl _⟩, ⟨by (with_reducible repeat (first | refine blk_drewN ?_ _ | refine blk_drew ?_ | refine blk_alloc ?_ _)); exact BK318.out⟩, ⟨by repeat (first | (with_reducible first | exact HB.out | apply below_alloc | apply pw_below_drewN | apply below_drew1 | refine below_set ?_ GE318.out) | exact HB.out)⟩⟩
    · rw [if_neg c7] at H
      have c7b0 : decide (1000 < (l0_0.length : Int)) = false := decide_eq_false c7
      have c7b1 : decide (1000 < l0_0.length) = false := decide_eq_false (by omega)
      clear c7
      (first | rw [c7b0] | (simp only [i64_w, i32_w]; rw [c7b0]) | skip)
      have H' := Aside0.mk H
      clear H
      go_wp2
      go_meet
      case rel => exact ⟨_, (decide ((l0_1.length : Int) > 1000)), (by first | rfl | (simp; done) | (simp [*]; done)), H', ⟨by first | omega | exact Nat.le_refl _⟩, ⟨by (with_reducible repeat (first | refine blk_drewN ?_ _ | refine blk_drew ?_ | refine blk_alloc ?_ _)); exact BK318.out⟩, ⟨by repeat (first | (with_reducible first | exact HB.out | apply below_alloc | apply pw_below_drewN | apply below_drew1 | refine below_set ?_ GE318.out) | exact HB.out)⟩⟩
  case rest =>
    clear HC4
    try clear p2
    try clear c7
    try clear c7b0
    try clear c7b1
    obtain ⟨kq, x31_3, rfl, HA, HJ3, BK318, HB⟩ := hcut
    cases kq with
    | zero => exact absurd HA.out (by simp [thwartlaw03_HsumAlone.j0])
    | succ kj3 =>
      have H := HA.out
      clear HA
      simp only [thwartlaw03_HsumAlone.j0] at H
      by_cases c8 : x31_3 = true
      · subst c8
        have H1 : ((thwartlaw03_alive.f kj3).bind fun t319 => (some t319)) = some r := by rw [if_pos rfl] at H; exact H
        clear H
        have H := H1
        clear H1
        replace H := Option.bind_eq_some_iff.mp H
        obtain ⟨t319, A90, H⟩ := H
        replace H : (some t319) = some r := H
        have A9 := Aside0.mk A90
        clear A90
        obtain rfl := Option.some.inj H
        go_wp2_with (first | ((with_reducible refine gate_callee (f := 24) rfl ?_); refine goesL_ (some 32) rfl rfl Tryd.func24 (by kernel_rfl) rfl #[] rfl (by (try simp only [List.map_toArray, List.map_cons, List.map_nil]); first | done | rfl | (simp only [List.length_drop, List.length_take]; rfl)) ?_; (with_reducible refine (thwartlaw03_alive.calls kj3  t319 _ A9.out).mono ?_); rintro e w10 ⟨rfl, hb⟩; refine ⟨_, rfl, ?_⟩; have n0_ := Aside0.mk (blk_below (g := gb318) (o := .cells #[.slice A0_0 l0_0.length c0_0, .slice A0_1 l0_1.length c0_1] 53 (0, 0)) (by (with_reducible repeat (first | refine blk_drewN ?_ _ | refine blk_drew ?_ | refine blk_alloc ?_ _)); exact BK318.out) hb); have n1_ := Aside0.mk (below_step (by repeat (first | (with_reducible first | exact HB.out | apply below_alloc | apply pw_below_drewN | apply below_drew1 | refine below_set ?_ GE318.out) | exact HB.out)) hb); clear BK318; clear HB; have BK318 := n0_; have HB := n1_; clear n0_ n1_; (try clear hb); (try clear hb2); (try clear hk); (try clear hi)))
        go_ret
        exact ⟨by first | rfl | (simp [errW_none, errW_some] <;> rfl) | (simp [*, errW_none, errW_some] <;> rfl), by repeat (first | (with_reducible first | exact HB.out | apply below_alloc | apply pw_below_drewN | apply below_drew1 | refine below_set ?_ GE318.out) | exact HB.out)⟩
      · replace c8 := Bool.eq_false_iff.mpr c8
        subst c8
        have H1 : ((thwartlaw03_block.f kj3 l0_0).bind fun t320 => ((thwartlaw03_block.f kj3 l0_0).bind fun t323 => (if 156 ≤ (t323.length : Int) then ((thwartlaw03_block.f kj3 l0_1).bind fun t326 => (if 148 ≤ 156 then (if 156 ≤ (t326.length : Int) then (if ([] : List Int).length + t320.length < 140737488355328 then ((some (([] : List Int) ++ t320 : List Int)).bind fun y334 => (if 0 ≤ (Int.tmod (wrap64 (a1)) 512) then (if (Int.tmod (wrap64 (a1)) 512) < (y334.length : Int) then ((hsum_Sum.f kj3 t320).bind fun bt338 => ((hsum_Sum.f kj3 (mid8 t323 ((t326.take 156).drop 148))).bind fun bt340 => ((hsum_Sum.f kj3 (y334.set ((Int.tmod (wrap64 (a1)) 512) : Int).toNat a2)).bind fun bt342 => (if (Int.tmod (wrap64 (a1)) 512) < (t320.length : Int) then (if (Int.tmod (wrap64 (a1)) 512) ≥ 148 then (if (Int.tmod (wrap64 (a1)) 512) < 156 then (if bt338.1 = bt340.1 then (if bt342.1 = bt338.1 then (if bt338.2 = 0 then (if bt340.2 = 0 then (if bt342.2 = 0 then ((thwartlaw03_alive.f kj3).bind fun t345 => (some t345)) else (some false)) else (some false)) else (some false)) else (some false)) else (some false)) else (if bt338.1 = bt340.1 then (if bt342.1 = (wrap64 ((wrap64 (bt338.1 + (wrap64 (a2)))) - (wrap64 (rd t320 (Int.tmod (wrap64 (a1)) 512))))) then (if bt338.2 = 0 then (if bt340.2 = 0 then (if bt342.2 = 0 then ((thwartlaw03_alive.f kj3).bind fun t346 => (some t346)) else (some false)) else (some false)) else (some false)) else (some false)) else (some false))) else (if bt338.1 = bt340.1 then (if bt342.1 = (wrap64 ((wrap64 (bt338.1 + (wrap64 (a2)))) - (wrap64 (rd t320 (Int.tmod (wrap64 (a1)) 512))))) then (if bt338.2 = 0 then (if bt340.2 = 0 then (if bt342.2 = 0 then ((thwartlaw03_alive.f kj3).bind fun t347 => (some t347)) else (some false)) else (some false)) else (some false)) else (some false)) else (some false))) else (none))))) else (none)) else (none))) else (none)) else (none)) else (none))) else (none)))) = some r := by rw [if_neg (show ¬ (false = true) by decide)] at H; exact H
        clear H
        have H := H1
        clear H1
        replace H := Option.bind_eq_some_iff.mp H
        obtain ⟨t320, A110, H⟩ := H
        replace H : ((thwartlaw03_block.f kj3 l0_0).bind fun t323 => (if 156 ≤ (t323.length : Int) then ((thwartlaw03_block.f kj3 l0_1).bind fun t326 => (if 148 ≤ 156 then (if 156 ≤ (t326.length : Int) then (if ([] : List Int).length + t320.length < 140737488355328 then ((some (([] : List Int) ++ t320 : List Int)).bind fun y334 => (if 0 ≤ (Int.tmod (wrap64 (a1)) 512) then (if (Int.tmod (wrap64 (a1)) 512) < (y334.length : Int) then ((hsum_Sum.f kj3 t320).bind fun bt338 => ((hsum_Sum.f kj3 (mid8 t323 ((t326.take 156).drop 148))).bind fun bt340 => ((hsum_Sum.f kj3 (y334.set ((Int.tmod (wrap64 (a1)) 512) : Int).toNat a2)).bind fun bt342 => (if (Int.tmod (wrap64 (a1)) 512) < (t320.length : Int) then (if (Int.tmod (wrap64 (a1)) 512) ≥ 148 then (if (Int.tmod (wrap64 (a1)) 512) < 156 then (if bt338.1 = bt340.1 then (if bt342.1 = bt338.1 then (if bt338.2 = 0 then (if bt340.2 = 0 then (if bt342.2 = 0 then ((thwartlaw03_alive.f kj3).bind fun t345 => (some t345)) else (some false)) else (some false)) else (some false)) else (some false)) else (some false)) else (if bt338.1 = bt340.1 then (if bt342.1 = (wrap64 ((wrap64 (bt338.1 + (wrap64 (a2)))) - (wrap64 (rd t320 (Int.tmod (wrap64 (a1)) 512))))) then (if bt338.2 = 0 then (if bt340.2 = 0 then (if bt342.2 = 0 then ((thwartlaw03_alive.f kj3).bind fun t346 => (some t346)) else (some false)) else (some false)) else (some false)) else (some false)) else (some false))) else (if bt338.1 = bt340.1 then (if bt342.1 = (wrap64 ((wrap64 (bt338.1 + (wrap64 (a2)))) - (wrap64 (rd t320 (Int.tmod (wrap64 (a1)) 512))))) then (if bt338.2 = 0 then (if bt340.2 = 0 then (if bt342.2 = 0 then ((thwartlaw03_alive.f kj3).bind fun t347 => (some t347)) else (some false)) else (some false)) else (some false)) else (some false)) else (some false))) else (none))))) else (none)) else (none))) else (none)) else (none)) else (none))) else (none))) = some r := H
        have A11 := Aside0.mk A110
        clear A110
        replace H := Option.bind_eq_some_iff.mp H
        obtain ⟨t323, A120, H⟩ := H
        replace H : (if 156 ≤ (t323.length : Int) then ((thwartlaw03_block.f kj3 l0_1).bind fun t326 => (if 148 ≤ 156 then (if 156 ≤ (t326.length : Int) then (if ([] : List Int).length + t320.length < 140737488355328 then ((some (([] : List Int) ++ t320 : List Int)).bind fun y334 => (if 0 ≤ (Int.tmod (wrap64 (a1)) 512) then (if (Int.tmod (wrap64 (a1)) 512) < (y334.length : Int) then ((hsum_Sum.f kj3 t320).bind fun bt338 => ((hsum_Sum.f kj3 (mid8 t323 ((t326.take 156).drop 148))).bind fun bt340 => ((hsum_Sum.f kj3 (y334.set ((Int.tmod (wrap64 (a1)) 512) : Int).toNat a2)).bind fun bt342 => (if (Int.tmod (wrap64 (a1)) 512) < (t320.length : Int) then (if (Int.tmod (wrap64 (a1)) 512) ≥ 148 then (if (Int.tmod (wrap64 (a1)) 512) < 156 then (if bt338.1 = bt340.1 then (if bt342.1 = bt338.1 then (if bt338.2 = 0 then (if bt340.2 = 0 then (if bt342.2 = 0 then ((thwartlaw03_alive.f kj3).bind fun t345 => (some t345)) else (some false)) else (some false)) else (some false)) else (some false)) else (some false)) else (if bt338.1 = bt340.1 then (if bt342.1 = (wrap64 ((wrap64 (bt338.1 + (wrap64 (a2)))) - (wrap64 (rd t320 (Int.tmod (wrap64 (a1)) 512))))) then (if bt338.2 = 0 then (if bt340.2 = 0 then (if bt342.2 = 0 then ((thwartlaw03_alive.f kj3).bind fun t346 => (some t346)) else (some false)) else (some false)) else (some false)) else (some false)) else (some false))) else (if bt338.1 = bt340.1 then (if bt342.1 = (wrap64 ((wrap64 (bt338.1 + (wrap64 (a2)))) - (wrap64 (rd t320 (Int.tmod (wrap64 (a1)) 512))))) then (if bt338.2 = 0 then (if bt340.2 = 0 then (if bt342.2 = 0 then ((thwartlaw03_alive.f kj3).bind fun t347 => (some t347)) else (some false)) else (some false)) else (some false)) else (some false)) else (some false))) else (none))))) else (none)) else (none))) else (none)) else (none)) else (none))) else (none)) = some r := H
        have A12 := Aside0.mk A120
        clear A120
        by_cases c13 : 156 ≤ (t323.length : Int)
        · rw [if_pos c13] at H
          have c13b0 := eq_true c13
          have c13b1 : decide (156 ≤ t323.length) = true := decide_eq_true (by omega)
          clear c13
          replace H := Option.bind_eq_some_iff.mp H
          obtain ⟨t326, A150, H⟩ := H
          replace H : (if 148 ≤ 156 then (if 156 ≤ (t326.length : Int) then (if ([] : List Int).length + t320.length < 140737488355328 then ((some (([] : List Int) ++ t320 : List Int)).bind fun y334 => (if 0 ≤ (Int.tmod (wrap64 (a1)) 512) then (if (Int.tmod (wrap64 (a1)) 512) < (y334.length : Int) then ((hsum_Sum.f kj3 t320).bind fun bt338 => ((hsum_Sum.f kj3 (mid8 t323 ((t326.take 156).drop 148))).bind fun bt340 => ((hsum_Sum.f kj3 (y334.set ((Int.tmod (wrap64 (a1)) 512) : Int).toNat a2)).bind fun bt342 => (if (Int.tmod (wrap64 (a1)) 512) < (t320.length : Int) then (if (Int.tmod (wrap64 (a1)) 512) ≥ 148 then (if (Int.tmod (wrap64 (a1)) 512) < 156 then (if bt338.1 = bt340.1 then (if bt342.1 = bt338.1 then (if bt338.2 = 0 then (if bt340.2 = 0 then (if bt342.2 = 0 then ((thwartlaw03_alive.f kj3).bind fun t345 => (some t345)) else (some false)) else (some false)) else (some false)) else (some false)) else (some false)) else (if bt338.1 = bt340.1 then (if bt342.1 = (wrap64 ((wrap64 (bt338.1 + (wrap64 (a2)))) - (wrap64 (rd t320 (Int.tmod (wrap64 (a1)) 512))))) then (if bt338.2 = 0 then (if bt340.2 = 0 then (if bt342.2 = 0 then ((thwartlaw03_alive.f kj3).bind fun t346 => (some t346)) else (some false)) else (some false)) else (some false)) else (some false)) else (some false))) else (if bt338.1 = bt340.1 then (if bt342.1 = (wrap64 ((wrap64 (bt338.1 + (wrap64 (a2)))) - (wrap64 (rd t320 (Int.tmod (wrap64 (a1)) 512))))) then (if bt338.2 = 0 then (if bt340.2 = 0 then (if bt342.2 = 0 then ((thwartlaw03_alive.f kj3).bind fun t347 => (some t347)) else (some false)) else (some false)) else (some false)) else (some false)) else (some false))) else (none))))) else (none)) else (none))) else (none)) else (none)) else (none)) = some r := H
          have A15 := Aside0.mk A150
          clear A150
          by_cases c16 : 148 ≤ 156
          · rw [if_pos c16] at H
            have c16b0 := eq_true c16
            have c16b1 : decide (148 ≤ 156) = true := decide_eq_true c16
            clear c16
            by_cases c17 : 156 ≤ (t326.length : Int)
            · rw [if_pos c17] at H
              have c17b0 := eq_true c17
              have c17b1 : decide (156 ≤ (t326.length : Int)) = true := decide_eq_true c17
              clear c17
              obtain ⟨y329, hy329⟩ : ∃ y_ : List Int, y_ = ((t326.take 156).drop 148) := ⟨_, rfl⟩
              replace H : (if ([] : List Int).length + t320.length < 140737488355328 then ((some (([] : List Int) ++ t320 : List Int)).bind fun y334 => (if 0 ≤ (Int.tmod (wrap64 (a1)) 512) then (if (Int.tmod (wrap64 (a1)) 512) < (y334.length : Int) then ((hsum_Sum.f kj3 t320).bind fun bt338 => ((hsum_Sum.f kj3 (mid8 t323 ((t326.take 156).drop 148))).bind fun bt340 => ((hsum_Sum.f kj3 (y334.set ((Int.tmod (wrap64 (a1)) 512) : Int).toNat a2)).bind fun bt342 => (if (Int.tmod (wrap64 (a1)) 512) < (t320.length : Int) then (if (Int.tmod (wrap64 (a1)) 512) ≥ 148 then (if (Int.tmod (wrap64 (a1)) 512) < 156 then (if bt338.1 = bt340.1 then (if bt342.1 = bt338.1 then (if bt338.2 = 0 then (if bt340.2 = 0 then (if bt342.2 = 0 then ((thwartlaw03_alive.f kj3).bind fun t345 => (some t345)) else (some false)) else (some false)) else (some false)) else (some false)) else (some false)) else (if bt338.1 = bt340.1 then (if bt342.1 = (wrap64 ((wrap64 (bt338.1 + (wrap64 (a2)))) - (wrap64 (rd t320 (Int.tmod (wrap64 (a1)) 512))))) then (if bt338.2 = 0 then (if bt340.2 = 0 then (if bt342.2 = 0 then ((thwartlaw03_alive.f kj3).bind fun t346 => (some t346)) else (some false)) else (some false)) else (some false)) else (some false)) else (some false))) else (if bt338.1 = bt340.1 then (if bt342.1 = (wrap64 ((wrap64 (bt338.1 + (wrap64 (a2)))) - (wrap64 (rd t320 (Int.tmod (wrap64 (a1)) 512))))) then (if bt338.2 = 0 then (if bt340.2 = 0 then (if bt342.2 = 0 then ((thwartlaw03_alive.f kj3).bind fun t347 => (some t347)) else (some false)) else (some false)) else (some false)) else (some false)) else (some false))) else (none))))) else (none)) else (none))) else (none)) = some r := by first | (rw [hy329]; with_reducible exact H) | (have H2_ := (Option.bind_some _ _).symm.trans H; rw [hy329]; with_reducible exact H2_) | (have H2_ := (Option.bind_some _ _).symm.trans H; with_reducible exact H2_) | with_reducible exact H | (rw [hy329]; exact H) | exact H
              have Ny329 := Aside0.mk hy329
              clear hy329
              obtain ⟨y333, hy333⟩ : ∃ y_ : List Int, y_ = (mid8 t323 ((t326.take 156).drop 148)) := ⟨_, rfl⟩
              replace H : (if ([] : List Int).length + t320.length < 140737488355328 then ((some (([] : List Int) ++ t320 : List Int)).bind fun y334 => (if 0 ≤ (Int.tmod (wrap64 (a1)) 512) then (if (Int.tmod (wrap64 (a1)) 512) < (y334.length : Int) then ((hsum_Sum.f kj3 t320).bind fun bt338 => ((hsum_Sum.f kj3 y333).bind fun bt340 => ((hsum_Sum.f kj3 (y334.set ((Int.tmod (wrap64 (a1)) 512) : Int).toNat a2)).bind fun bt342 => (if (Int.tmod (wrap64 (a1)) 512) < (t320.length : Int) then (if (Int.tmod (wrap64 (a1)) 512) ≥ 148 then (if (Int.tmod (wrap64 (a1)) 512) < 156 then (if bt338.1 = bt340.1 then (if bt342.1 = bt338.1 then (if bt338.2 = 0 then (if bt340.2 = 0 then (if bt342.2 = 0 then ((thwartlaw03_alive.f kj3).bind fun t345 => (some t345)) else (some false)) else (some false)) else (some false)) else (some false)) else (some false)) else (if bt338.1 = bt340.1 then (if bt342.1 = (wrap64 ((wrap64 (bt338.1 + (wrap64 (a2)))) - (wrap64 (rd t320 (Int.tmod (wrap64 (a1)) 512))))) then (if bt338.2 = 0 then (if bt340.2 = 0 then (if bt342.2 = 0 then ((thwartlaw03_alive.f kj3).bind fun t346 => (some t346)) else (some false)) else (some false)) else (some false)) else (some false)) else (some false))) else (if bt338.1 = bt340.1 then (if bt342.1 = (wrap64 ((wrap64 (bt338.1 + (wrap64 (a2)))) - (wrap64 (rd t320 (Int.tmod (wrap64 (a1)) 512))))) then (if bt338.2 = 0 then (if bt340.2 = 0 then (if bt342.2 = 0 then ((thwartlaw03_alive.f kj3).bind fun t347 => (some t347)) else (some false)) else (some false)) else (some false)) else (some false)) else (some false))) else (none))))) else (none)) else (none))) else (none)) = some r := by first | (rw [hy333]; with_reducible exact H) | (have H2_ := (Option.bind_some _ _).symm.trans H; rw [hy333]; with_reducible exact H2_) | (have H2_ := (Option.bind_some _ _).symm.trans H; with_reducible exact H2_) | with_reducible exact H | (rw [hy333]; exact H) | exact H
              have Ny333 := Aside0.mk hy333
              clear hy333
              by_cases c18 : ([] : List Int).length + t320.length < 140737488355328
              · rw [if_pos c18] at H
                have LMc18 := Aside0.mk c18
                clear c18
                obtain ⟨y334, hy334⟩ : ∃ y_ : List Int, y_ = (([] : List Int) ++ t320) := ⟨_, rfl⟩
                replace H : (if 0 ≤ (Int.tmod (wrap64 (a1)) 512) then (if (Int.tmod (wrap64 (a1)) 512) < (y334.length : Int) then ((hsum_Sum.f kj3 t320).bind fun bt338 => ((hsum_Sum.f kj3 y333).bind fun bt340 => ((hsum_Sum.f kj3 (y334.set ((Int.tmod (wrap64 (a1)) 512) : Int).toNat a2)).bind fun bt342 => (if (Int.tmod (wrap64 (a1)) 512) < (t320.length : Int) then (if (Int.tmod (wrap64 (a1)) 512) ≥ 148 then (if (Int.tmod (wrap64 (a1)) 512) < 156 then (if bt338.1 = bt340.1 then (if bt342.1 = bt338.1 then (if bt338.2 = 0 then (if bt340.2 = 0 then (if bt342.2 = 0 then ((thwartlaw03_alive.f kj3).bind fun t345 => (some t345)) else (some false)) else (some false)) else (some false)) else (some false)) else (some false)) else (if bt338.1 = bt340.1 then (if bt342.1 = (wrap64 ((wrap64 (bt338.1 + (wrap64 (a2)))) - (wrap64 (rd t320 (Int.tmod (wrap64 (a1)) 512))))) then (if bt338.2 = 0 then (if bt340.2 = 0 then (if bt342.2 = 0 then ((thwartlaw03_alive.f kj3).bind fun t346 => (some t346)) else (some false)) else (some false)) else (some false)) else (some false)) else (some false))) else (if bt338.1 = bt340.1 then (if bt342.1 = (wrap64 ((wrap64 (bt338.1 + (wrap64 (a2)))) - (wrap64 (rd t320 (Int.tmod (wrap64 (a1)) 512))))) then (if bt338.2 = 0 then (if bt340.2 = 0 then (if bt342.2 = 0 then ((thwartlaw03_alive.f kj3).bind fun t347 => (some t347)) else (some false)) else (some false)) else (some false)) else (some false)) else (some false))) else (none))))) else (none)) else (none)) = some r := by first | (rw [hy334]; with_reducible exact H) | (have H2_ := (Option.bind_some _ _).symm.trans H; rw [hy334]; with_reducible exact H2_) | (have H2_ := (Option.bind_some _ _).symm.trans H; with_reducible exact H2_) | with_reducible exact H | (rw [hy334]; exact H) | exact H
                have Ny334 := Aside0.mk hy334
                clear hy334
                obtain ⟨ji19, hji19⟩ : ∃ j_ : Int, (Int.tmod (wrap64 (a1)) 512) = j_ := ⟨_, rfl⟩
                replace H : (if 0 ≤ (ji19) then (if (ji19) < (y334.length : Int) then ((hsum_Sum.f kj3 t320).bind fun bt338 => ((hsum_Sum.f kj3 y333).bind fun bt340 => ((hsum_Sum.f kj3 (y334.set ((ji19) : Int).toNat a2)).bind fun bt342 => (if (ji19) < (t320.length : Int) then (if (ji19) ≥ 148 then (if (ji19) < 156 then (if bt338.1 = bt340.1 then (if bt342.1 = bt338.1 then (if bt338.2 = 0 then (if bt340.2 = 0 then (if bt342.2 = 0 then ((thwartlaw03_alive.f kj3).bind fun t345 => (some t345)) else (some false)) else (some false)) else (some false)) else (some false)) else (some false)) else (if bt338.1 = bt340.1 then (if bt342.1 = (wrap64 ((wrap64 (bt338.1 + (wrap64 (a2)))) - (wrap64 (rd t320 (ji19))))) then (if bt338.2 = 0 then (if bt340.2 = 0 then (if bt342.2 = 0 then ((thwartlaw03_alive.f kj3).bind fun t346 => (some t346)) else (some false)) else (some false)) else (some false)) else (some false)) else (some false))) else (if bt338.1 = bt340.1 then (if bt342.1 = (wrap64 ((wrap64 (bt338.1 + (wrap64 (a2)))) - (wrap64 (rd t320 (ji19))))) then (if bt338.2 = 0 then (if bt340.2 = 0 then (if bt342.2 = 0 then ((thwartlaw03_alive.f kj3).bind fun t347 => (some t347)) else (some false)) else (some false)) else (some false)) else (some false)) else (some false))) else (none))))) else (none)) else (none)) = some r := by first | (rw [hji19] at H; exact H) | (simp only [hji19] at H ⊢; exact H)
                (try rw [hji19] at A11)
                (try rw [hji19] at A12)
                (try rw [hji19] at A15)
                by_cases c20 : 0 ≤ (ji19)
                · rw [if_pos c20] at H
                  have c20b0 : decide (0 ≤ (ji19)) = true := decide_eq_true c20
                  clear c20
                  by_cases c21 : (ji19) < (y334.length : Int)
                  · rw [if_pos c21] at H
                    have c21b0 : decide ((ji19) < (y334.length : Int)) = true := decide_eq_true c21
                    clear c21
                    obtain ⟨y337, hy337⟩ : ∃ y_ : List Int, y_ = (y334.set ((ji19) : Int).toNat a2) := ⟨_, rfl⟩
                    replace H : ((hsum_Sum.f kj3 t320).bind fun bt338 => ((hsum_Sum.f kj3 y333).bind fun bt340 => ((hsum_Sum.f kj3 y337).bind fun bt342 => (if (ji19) < (t320.length : Int) then (if (ji19) ≥ 148 then (if (ji19) < 156 then (if bt338.1 = bt340.1 then (if bt342.1 = bt338.1 then (if bt338.2 = 0 then (if bt340.2 = 0 then (if bt342.2 = 0 then ((thwartlaw03_alive.f kj3).bind fun t345 => (some t345)) else (some false)) else (some false)) else (some false)) else (some false)) else (some false)) else (if bt338.1 = bt340.1 then (if bt342.1 = (wrap64 ((wrap64 (bt338.1 + (wrap64 (a2)))) - (wrap64 (rd t320 (ji19))))) then (if bt338.2 = 0 then (if bt340.2 = 0 then (if bt342.2 = 0 then ((thwartlaw03_alive.f kj3).bind fun t346 => (some t346)) else (some false)) else (some false)) else (some false)) else (some false)) else (some false))) else (if bt338.1 = bt340.1 then (if bt342.1 = (wrap64 ((wrap64 (bt338.1 + (wrap64 (a2)))) - (wrap64 (rd t320 (ji19))))) then (if bt338.2 = 0 then (if bt340.2 = 0 then (if bt342.2 = 0 then ((thwartlaw03_alive.f kj3).bind fun t347 => (some t347)) else (some false)) else (some false)) else (some false)) else (some false)) else (some false))) else (none))))) = some r := by first | (rw [hy337]; with_reducible exact H) | (have H2_ := (Option.bind_some _ _).symm.trans H; rw [hy337]; with_reducible exact H2_) | (have H2_ := (Option.bind_some _ _).symm.trans H; with_reducible exact H2_) | with_reducible exact H | (rw [hy337]; exact H) | exact H
                    have Ny337 := Aside0.mk hy337
                    clear hy337
                    replace H := Option.bind_eq_some_iff.mp H
                    obtain ⟨⟨t338, t339⟩, A230, H⟩ := H
                    replace H : ((hsum_Sum.f kj3 y333).bind fun bt340 => ((hsum_Sum.f kj3 y337).bind fun bt342 => (if (ji19) < (t320.length : Int) then (if (ji19) ≥ 148 then (if (ji19) < 156 then (if t338 = bt340.1 then (if bt342.1 = t338 then (if t339 = 0 then (if bt340.2 = 0 then (if bt342.2 = 0 then ((thwartlaw03_alive.f kj3).bind fun t345 => (some t345)) else (some false)) else (some false)) else (some false)) else (some false)) else (some false)) else (if t338 = bt340.1 then (if bt342.1 = (wrap64 ((wrap64 (t338 + (wrap64 (a2)))) - (wrap64 (rd t320 (ji19))))) then (if t339 = 0 then (if bt340.2 = 0 then (if bt342.2 = 0 then ((thwartlaw03_alive.f kj3).bind fun t346 => (some t346)) else (some false)) else (some false)) else (some false)) else (some false)) else (some false))) else (if t338 = bt340.1 then (if bt342.1 = (wrap64 ((wrap64 (t338 + (wrap64 (a2)))) - (wrap64 (rd t320 (ji19))))) then (if t339 = 0 then (if bt340.2 = 0 then (if bt342.2 = 0 then ((thwartlaw03_alive.f kj3).bind fun t347 => (some t347)) else (some false)) else (some false)) else (some false)) else (some false)) else (some false))) else (none)))) = some r := H
                    have A23 := Aside0.mk A230
                    clear A230
                    replace H := Option.bind_eq_some_iff.mp H
                    obtain ⟨⟨t340, t341⟩, A240, H⟩ := H
                    replace H : ((hsum_Sum.f kj3 y337).bind fun bt342 => (if (ji19) < (t320.length : Int) then (if (ji19) ≥ 148 then (if (ji19) < 156 then (if t338 = t340 then (if bt342.1 = t338 then (if t339 = 0 then (if t341 = 0 then (if bt342.2 = 0 then ((thwartlaw03_alive.f kj3).bind fun t345 => (some t345)) else (some false)) else (some false)) else (some false)) else (some false)) else (some false)) else (if t338 = t340 then (if bt342.1 = (wrap64 ((wrap64 (t338 + (wrap64 (a2)))) - (wrap64 (rd t320 (ji19))))) then (if t339 = 0 then (if t341 = 0 then (if bt342.2 = 0 then ((thwartlaw03_alive.f kj3).bind fun t346 => (some t346)) else (some false)) else (some false)) else (some false)) else (some false)) else (some false))) else (if t338 = t340 then (if bt342.1 = (wrap64 ((wrap64 (t338 + (wrap64 (a2)))) - (wrap64 (rd t320 (ji19))))) then (if t339 = 0 then (if t341 = 0 then (if bt342.2 = 0 then ((thwartlaw03_alive.f kj3).bind fun t347 => (some t347)) else (some false)) else (some false)) else (some false)) else (some false)) else (some false))) else (none))) = some r := H
                    have A24 := Aside0.mk A240
                    clear A240
                    replace H := Option.bind_eq_some_iff.mp H
                    obtain ⟨⟨t342, t343⟩, A250, H⟩ := H
                    replace H : (if (ji19) < (t320.length : Int) then (if (ji19) ≥ 148 then (if (ji19) < 156 then (if t338 = t340 then (if t342 = t338 then (if t339 = 0 then (if t341 = 0 then (if t343 = 0 then ((thwartlaw03_alive.f kj3).bind fun t345 => (some t345)) else (some false)) else (some false)) else (some false)) else (some false)) else (some false)) else (if t338 = t340 then (if t342 = (wrap64 ((wrap64 (t338 + (wrap64 (a2)))) - (wrap64 (rd t320 (ji19))))) then (if t339 = 0 then (if t341 = 0 then (if t343 = 0 then ((thwartlaw03_alive.f kj3).bind fun t346 => (some t346)) else (some false)) else (some false)) else (some false)) else (some false)) else (some false))) else (if t338 = t340 then (if t342 = (wrap64 ((wrap64 (t338 + (wrap64 (a2)))) - (wrap64 (rd t320 (ji19))))) then (if t339 = 0 then (if t341 = 0 then (if t343 = 0 then ((thwartlaw03_alive.f kj3).bind fun t347 => (some t347)) else (some false)) else (some false)) else (some false)) else (some false)) else (some false))) else (none)) = some r := H
                    have A25 := Aside0.mk A250
                    clear A250
                    by_cases c26 : (ji19) < (t320.length : Int)
                    · rw [if_pos c26] at H
                      have c26b0 : decide ((ji19) < (t320.length : Int)) = true := decide_eq_true c26
                      clear c26
                      by_cases c27 : (ji19) ≥ 148
                      · rw [if_pos c27] at H
                        have c27b0 : decide (148 ≤ (ji19)) = true := decide_eq_true c27
                        clear c27
                        by_cases c28 : (ji19) < 156
                        · rw [if_pos c28] at H
                          have c28b0 : decide ((ji19) < 156) = true := decide_eq_true c28
                          clear c28
                          by_cases c29 : t338 = t340
                          · rw [if_pos c29] at H
                            have c29b0 : (t338 == t340) = true := beq_iff_eq.mpr c29
                            have c29b1 : (t338 != t340) = false := bne_eq_false_iff_eq.mpr c29
                            clear c29
                            by_cases c30 : t342 = t338
                            · rw [if_pos c30] at H
                              have c30b0 : (t342 == t338) = true := beq_iff_eq.mpr c30
                              have c30b1 : (t342 != t338) = false := bne_eq_false_iff_eq.mpr c30
                              clear c30
                              by_cases c31 : t339 = 0
                              · rw [if_pos c31] at H
                                have c31b0 : (t339 == 0) = true := beq_iff_eq.mpr c31
                                have c31b1 : (t339 != 0) = false := bne_eq_false_iff_eq.mpr c31
                                clear c31
                                by_cases c32 : t341 = 0
                                · rw [if_pos c32] at H
                                  have c32b0 : (t341 == 0) = true := beq_iff_eq.mpr c32
                                  have c32b1 : (t341 != 0) = false := bne_eq_false_iff_eq.mpr c32
                                  clear c32
                                  by_cases c33 : t343 = 0
                                  · rw [if_pos c33] at H
                                    have c33b0 : (t343 == 0) = true := beq_iff_eq.mpr c33
                                    have c33b1 : (t343 != 0) = false := bne_eq_false_iff_eq.mpr c33
                                    clear c33
                                    replace H := Option.bind_eq_some_iff.mp H
                                    obtain ⟨t345, A340, H⟩ := H
                                    replace H : (some t345) = some r := H
                                    have A34 := Aside0.mk A340
                                    clear A340
                                    obtain rfl := Option.some.inj H
                                    try go_wp2_with (first | ((with_reducible refine gate_callee (f := 25) rfl ?_); refine goesL_ (some 34) rfl rfl Tryd.func25 (by kernel_rfl) rfl #[.slice A0_0 l0_0.length c0_0] rfl (by (try simp only [List.map_toArray, List.map_cons, List.map_nil]); first | done | rfl | (simp only [List.length_drop, List.length_take]; rfl)) ?_; (with_reducible refine (thwartlaw03_block.calls kj3 _ _ l0_0 t320 _ ?side1 ?side2 A11.out).mono ?_); (case side1 => repeat (first | exact (Kd.C_below HR0_0.out HB.out) | (with_reducible refine Kd.C_alloc ?_ _) | (with_reducible refine Kd.C_drewN ?_ _) | (with_reducible refine Kd.C_drew ?_))); (case side2 => exact HC0_0.out); rintro e w35 ⟨v321, rfl, ho0, hb⟩; refine ⟨_, rfl, ?_⟩; have n0_ := Aside0.mk (Kd.R_lower ho0 (below_size (by repeat (first | (with_reducible first | exact HB.out | apply below_alloc | apply pw_below_drewN | apply below_drew1 | refine below_set ?_ GE318.out) | exact HB.out)))); have n1_ := Aside0.mk (blk_below (g := gb318) (o := .cells #[.slice A0_0 l0_0.length c0_0, .slice A0_1 l0_1.length c0_1] 53 (0, 0)) (by (with_reducible repeat (first | refine blk_drewN ?_ _ | refine blk_drew ?_ | refine blk_alloc ?_ _)); exact BK318.out) hb); have n2_ := Aside0.mk (below_step (by repeat (first | (with_reducible first | exact HB.out | apply below_alloc | apply pw_below_drewN | apply below_drew1 | refine below_set ?_ GE318.out) | exact HB.out)) hb); clear BK318; clear HB; have HO322 := n0_; have BK318 := n1_; have HB := n2_; clear n0_ n1_ n2_; (try clear hb); (try clear hb2); (try clear hk); (try clear hi); (try clear ho0)) | ((with_reducible refine gate_callee (f := 25) rfl ?_); refine goesL_ (some 36) rfl rfl Tryd.func25 (by kernel_rfl) rfl #[.slice A0_0 l0_0.length c0_0] rfl (by (try simp only [List.map_toArray, List.map_cons, List.map_nil]); first | done | rfl | (simp only [List.length_drop, List.length_take]; rfl)) ?_; (with_reducible refine (thwartlaw03_block.calls kj3 _ _ l0_0 t323 _ ?side1 ?side2 A12.out).mono ?_); (case side1 => repeat (first | exact (Kd.C_below HR0_0.out HB.out) | (with_reducible refine Kd.C_alloc ?_ _) | (with_reducible refine Kd.C_drewN ?_ _) | (with_reducible refine Kd.C_drew ?_))); (case side2 => exact HC0_0.out); rintro e w36 ⟨v324, rfl, ho0, hb⟩; refine ⟨_, rfl, ?_⟩; have n0_ := Aside0.mk (Kd.R_elder' (by (with_reducible repeat (first | apply Kd.R_alloc | apply Kd.R_drewN | apply Kd.R_drew)); exact HO322.out) (Kd.R_base ho0) hb); have n1_ := Aside0.mk (Kd.R_lower (Kd.R_new' ho0 (Kd.R_lt (by (with_reducible repeat (first | apply Kd.R_alloc | apply Kd.R_drewN | apply Kd.R_drew)); exact HO322.out))) (below_size (by repeat (first | (with_reducible first | exact HB.out | apply below_alloc | apply pw_below_drewN | apply below_drew1 | refine below_set ?_ GE318.out) | exact HB.out)))); have n2_ := Aside0.mk (blk_below (g := gb318) (o := .cells #[.slice A0_0 l0_0.length c0_0, .slice A0_1 l0_1.length c0_1] 53 (0, 0)) (by (with_reducible repeat (first | refine blk_drewN ?_ _ | refine blk_drew ?_ | refine blk_alloc ?_ _)); exact BK318.out) hb); have n3_ := Aside0.mk (below_step (by repeat (first | (with_reducible first | exact HB.out | apply below_alloc | apply pw_below_drewN | apply below_drew1 | refine below_set ?_ GE318.out) | exact HB.out)) hb); clear HO322; clear BK318; clear HB; have HO322 := n0_; have HO325 := n1_; have BK318 := n2_; have HB := n3_; clear n0_ n1_ n2_ n3_; (try clear hb); (try clear hb2); (try clear hk); (try clear hi); (try clear ho0)))
                                    have n0_ := Aside0.mk (Kd.R_drew HO322.out)
                                    have n1_ := Aside0.mk (Kd.R_drew HO325.out)
                                    have n2_ := Aside0.mk (blk_drew BK318.out)
                                    have n3_ := Aside0.mk (below_drew1 HB.out)
                                    clear HO322
                                    clear HO325
                                    clear BK318
                                    clear HB
                                    have HO322 := n0_
                                    have HO325 := n1_
                                    have BK318 := n2_
                                    have HB := n3_
                                    clear n0_ n1_ n2_ n3_
                                    obtain ⟨go14, co14, eo14, gb14, gl14, cl14, HG14⟩ := Kd.R_form HO325.out (by have h_ := of_eq_true c13b0; omega)
                                    (first | cases eo14 | (injection eo14 with ea_ en_ ec_; (first | subst ea_ | (injection ea_ with ea_; subst ea_)); subst ec_; clear en_))
                                    have GB14 := Aside0.mk gb14
                                    clear gb14 gl14 HG14
                                    have q60 : (156 : Int) ≤ ((t323.length : Int) : Int) := of_eq_true c13b0
                                    obtain ⟨i060, hi060, _, hsz60, _⟩ := info_parts info5
                                    have hroom60 : t323.length ≤ co14 := (Kd.R_reads' HO325.out).2.1
                                    have hcut60 := cut_mid (P := Tryd.prog) 22 5 .i64 .i64 Tryd.underlying22 hi060 1 hsz60 (some ⟨go14, 0, none⟩) t323.length co14 148 156 (by omega) (by omega) q60 hroom60
                                    obtain ⟨A60, hA60⟩ : ∃ A1, A1 = (if co14 = (148 : Int).toNat then (some ⟨go14, 0, none⟩ : Option Addr) else (some ⟨go14, 0, none⟩ : Option Addr).map (·.add ((148 : Int).toNat * 1))) := ⟨_, rfl⟩
                                    obtain ⟨c60, hc60⟩ : ∃ c1, c1 = co14 - (148 : Int).toNat := ⟨_, rfl⟩
                                    obtain ⟨n60, hn60⟩ : ∃ n1, n1 = (156 : Int).toNat - (148 : Int).toNat := ⟨_, rfl⟩
                                    rw [← hA60, ← hc60, ← hn60] at hcut60
                                    have KA60 := Aside0.mk hA60
                                    have KN60 := Aside0.mk hn60
                                    have KR60 := Aside0.mk hroom60
                                    have KQ60 := Aside0.mk q60
                                    clear hi060 hsz60 hroom60 hA60 hc60 hn60
                                    replace q60 := eq_true q60
                                    refine start_ (n := 6) (S := fun w' => True) (ds := []) #[false, false, false, false, false, false] (by kernel_rfl) rfl rfl trivial (fun hHeld => ?_)
                                    generalize w36.drew = w37 at HO322 HO325 BK318 HB hHeld ⊢
                                    refine pure_ (i := 0) (N := some 37) (v := ?_) (a' := ?_) #[true, false, false, false, false, false] rfl rfl (by kernel_rfl) (fun _ _ _ h => h) (Or.inl ⟨by rfl, ?_⟩) ?_ ?_
                                    rotate_left
                                    · intro w'
                                      go_simp
                                      with_reducible rfl
                                    rotate_left
                                    · simp only [Act.put, List.setIfInBounds_toArray, List.set_cons_zero, List.set_cons_succ, i64_w, i32_w]
                                      rfl
                                    refine pure_ (i := 1) (N := some 38) (v := ?_) (a' := ?_) #[true, true, false, false, false, false] rfl rfl (by kernel_rfl) (fun _ _ _ h => h) (Or.inl ⟨by rfl, ?_⟩) ?_ ?_
                                    rotate_left
                                    · intro w'
                                      go_simp
                                      with_reducible rfl
                                    rotate_left
                                    · simp only [Act.put, List.setIfInBounds_toArray, List.set_cons_zero, List.set_cons_succ, i64_w, i32_w]
                                      rfl
                                    refine pure_ (i := 2) (N := some 39) (v := ?_) (a' := ?_) #[true, true, true, false, false, false] rfl rfl (by kernel_rfl) (fun _ _ _ h => h) (Or.inl ⟨by rfl, ?_⟩) ?_ ?_
                                    rotate_left
                                    · intro w'
                                      go_simp
                                      with_reducible rfl
                                    rotate_left
                                    · simp only [Act.put, List.setIfInBounds_toArray, List.set_cons_zero, List.set_cons_succ, i64_w, i32_w]
                                      rfl
                                    refine one_ (i := 3) (N := some 40) #[true, true, true, true, false, false] rfl rfl (by kernel_rfl) (by decide) (fun K hK => ?_)
                                    refine goes_ Tryd.func25 (by kernel_rfl) rfl #[.slice A0_1 l0_1.length c0_1] (by rfl) rfl rfl (by (try simp only [List.map_toArray, List.map_cons, List.map_nil]); first | done | rfl | (simp only [List.length_drop, List.length_take]; rfl)) ?_
                                    with_reducible refine (thwartlaw03_block.calls kj3 _ _ l0_1 t326 _ ?side1 ?side2 A15.out).mono ?_
                                    (case side1 => repeat (first | exact (Kd.C_below HR0_1.out HB.out) | (with_reducible refine Kd.C_alloc ?_ _) | (with_reducible refine Kd.C_drewN ?_ _) | (with_reducible refine Kd.C_drew ?_)))
                                    (case side2 => exact HC0_1.out)
                                    rintro e w38 ⟨v327, rfl, ho0, hb⟩
                                    refine ⟨_, rfl, ?_⟩
                                    have n0_ := Aside0.mk (Kd.R_elder' (by (with_reducible repeat (first | apply Kd.R_alloc | apply Kd.R_drewN | apply Kd.R_drew)); exact HO322.out) (Kd.R_base ho0) hb)
                                    have n1_ := Aside0.mk (Kd.R_elder' (by (with_reducible repeat (first | apply Kd.R_alloc | apply Kd.R_drewN | apply Kd.R_drew)); exact HO325.out) (Kd.R_base ho0) hb)
                                    have n2_ := Aside0.mk (Kd.R_lower (Kd.R_new' (Kd.R_new' ho0 (Kd.R_lt (by (with_reducible repeat (first | apply Kd.R_alloc | apply Kd.R_drewN | apply Kd.R_drew)); exact HO322.out))) (Kd.R_lt (by (with_reducible repeat (first | apply Kd.R_alloc | apply Kd.R_drewN | apply Kd.R_drew)); exact HO325.out))) (below_size (by repeat (first | (with_reducible first | exact HB.out | apply below_alloc | apply pw_below_drewN | apply below_drew1 | refine below_set ?_ GE318.out) | exact HB.out))))
                                    have n3_ := Aside0.mk (blk_below (g := gb318) (o := .cells #[.slice A0_0 l0_0.length c0_0, .slice A0_1 l0_1.length c0_1] 53 (0, 0)) (by (with_reducible repeat (first | refine blk_drewN ?_ _ | refine blk_drew ?_ | refine blk_alloc ?_ _)); exact BK318.out) hb)
                                    have n4_ := Aside0.mk (below_step (by repeat (first | (with_reducible first | exact HB.out | apply below_alloc | apply pw_below_drewN | apply below_drew1 | refine below_set ?_ GE318.out) | exact HB.out)) hb)
                                    clear HO322
                                    clear HO325
                                    clear BK318
                                    clear HB
                                    have HO322 := n0_
                                    have HO325 := n1_
                                    have HO328 := n2_
                                    have BK318 := n3_
                                    have HB := n4_
                                    clear n0_ n1_ n2_ n3_ n4_
                                    (try clear hb)
                                    (try clear hb2)
                                    (try clear hk)
                                    (try clear hi)
                                    (try clear ho0)
                                    obtain ⟨Ao40, co40, eo40⟩ := Kd.R_slice HO328.out
                                    (first | subst eo40 | (injection eo40 with f1_ f2_ f3_; have f4_ := f1_.symm; have f5_ := f3_.symm; clear f1_ f2_ f3_; subst f4_; subst f5_))
                                    have q39 : (156 : Int) ≤ ((t326.length : Int) : Int) := of_decide_eq_true (by first | (with_reducible assumption) | assumption)
                                    obtain ⟨i039, hi039, _, hsz39, _⟩ := info_parts info5
                                    have hroom39 : t326.length ≤ co40 := (Kd.R_reads' HO328.out).2.1
                                    have hC39 : Kd.C (Kd.int .u8) _ Ao40 t326.length t326 := (Kd.R_reads' HO328.out).2.2
                                    have ql39 : (148 : Int) ≤ (156 : Int) := (by omega)
                                    have hcut39 := cut_mid (P := Tryd.prog) 22 5 .i64 .i64 Tryd.underlying22 hi039 1 hsz39 Ao40 t326.length co40 148 156 (by omega) ql39 q39 hroom39
                                    have hr39 := Kd.C_mid (lo := (148 : Int).toNat) (hi := (156 : Int).toNat) (c := co40) hC39 (by omega) (by omega) hroom39
                                    obtain ⟨A39, hA39⟩ : ∃ A1, A1 = (if co40 = (148 : Int).toNat then Ao40 else (Ao40 : Option Addr).map (·.add ((148 : Int).toNat * 1))) := ⟨_, rfl⟩
                                    obtain ⟨c39, hc39⟩ : ∃ c1, c1 = co40 - (148 : Int).toNat := ⟨_, rfl⟩
                                    have hy39 : y329.length = (156 : Int).toNat - (148 : Int).toNat := (by rw [Ny329.out, List.length_drop, List.length_take] <;> omega)
                                    rw [show ((t326).take (156 : Int).toNat).drop (148 : Int).toNat = y329 from Ny329.out.symm] at hr39
                                    replace hr39 : Kd.C (Kd.int .u8) _ A39 y329.length y329 := (by rw [hA39]; exact hr39)
                                    rw [← hy39, ← hA39, ← hc39] at hcut39
                                    have HR332 := Aside0.mk hr39
                                    have HC332 := Aside0.mk (show y329.length ≤ c39 from by rw [hy39, hc39]; exact Nat.sub_le_sub_right (Nat.le_trans (by omega) hroom39) _)
                                    clear hr39 hC39 hroom39 hi039 hsz39 hc39
                                    have KY39 := Aside0.mk hy39
                                    have KA39 := Aside0.mk hA39
                                    clear hy39 hA39
                                    have KL39 := Aside0.mk (show 156 ≤ t326.length from by omega)
                                    have KM39 := Aside0.mk (show 148 ≤ 156 from by omega)
                                    replace q39 := eq_true q39
                                    refine hK.out _ _ trivial (fun hHeld => ?_)
                                    clear hK K
                                    refine norm_ (a' := ?_) ?_ ?_
                                    rotate_left
                                    · show Act.put _ (some 40) _ = _
                                      simp only [Act.put, List.setIfInBounds_toArray, List.set_cons_zero, List.set_cons_succ, i64_w, i32_w]
                                      rfl
                                    refine pure_ (i := 4) (N := some 41) (v := ?_) (a' := ?_) #[true, true, true, true, true, false] rfl rfl (by kernel_rfl) (fun _ _ _ h => h) (Or.inl ⟨by rfl, ?_⟩) ?_ ?_
                                    rotate_left
                                    · intro w'
                                      go_simp
                                      with_reducible rfl
                                    rotate_left
                                    · simp only [Act.put, List.setIfInBounds_toArray, List.set_cons_zero, List.set_cons_succ, i64_w, i32_w]
                                      rfl
                                    refine one_ (i := 5) (N := some 42) #[true, true, true, true, true, true] rfl rfl (by kernel_rfl) (by decide) (fun K hK => ?_)
                                    have hy8 : y329.length = 8 := by rw [KY39.out]; rfl
                                    have hdp : A60 = some ⟨go14, 148, none⟩ := by
                                      rw [KA60.out, if_neg (by have h1 := KR60.out; have h2 := KQ60.out; intro e; rw [e] at h1; have h3 : (148 : Int).toNat = 148 := rfl; omega)]; rfl
                                    refine copy_mid_step rfl (.tmp 38) (.tmp 41) rfl go14 co14 t323.length t323 y329 A39 c39 y329.length w.heap.size _ A60 n60 c60 HO325.out (by have h2 := KQ60.out; omega) (by rfl) hdp (by rw [KN60.out]; rfl) (by rfl) HR332.out hy8 hy8 ?_
                                    intro w41 hg ho
                                    rw [show (mid8 t323 y329) = y333 by rw [Ny333.out, Ny329.out]] at ho
                                    have n0_ := Aside0.mk (Kd.R_grown2 HO322.out rfl hg (fun k e h => by cases e; have h2 := HO322.out.1 go14 h.symm; simp [Value.ownBlock] at h2))
                                    have n1_ := Aside0.mk ho
                                    have n2_ := Aside0.mk (Kd.R_grown2 HO328.out rfl hg (fun k e h => by cases e; have h2 := HO328.out.1 go14 h.symm; simp [Value.ownBlock] at h2))
                                    have n3_ := Aside0.mk (blk_grown (g := gb318) (o := .cells #[.slice A0_0 l0_0.length c0_0, .slice A0_1 l0_1.length c0_1] 53 (0, 0)) BK318.out hg (Kd.R_ne HO325.out BK318.out (by decide)))
                                    have n4_ := Aside0.mk (HB.out.grown hg (below_size HB.out) (fun i e => by cases e; exact GB14.out))
                                    have n5_ := Aside0.mk (show Kd.C (Kd.int .u8) w41 A39 y329.length y329 from by rw [Ny329.out, KA39.out]; exact Kd.C_mid (lo := 148) (hi := 156) (c := co40) ((Kd.R_reads' n2_.out).2.2) KM39.out KL39.out ((Kd.R_reads' n2_.out).2.1))
                                    clear HO322 HO325 HO328 BK318 HB HR332 hg ho hdp hy8
                                    have HO322 := n0_
                                    have HO325 := n1_
                                    have HQ41 := n1_
                                    have HO328 := n2_
                                    have BK318 := n3_
                                    have HB := n4_
                                    have HR332 := n5_
                                    clear n0_ n1_ n2_ n3_ n4_ n5_
                                    refine hK.out _ _ trivial (fun hHeld => ?_)
                                    clear hK K
                                    refine norm_ (a' := ?_) ?_ ?_
                                    rotate_left
                                    · show Act.put _ (some 42) _ = _
                                      simp only [Act.put, List.setIfInBounds_toArray, List.set_cons_zero, List.set_cons_succ, i64_w, i32_w]
                                      rfl
                                    refine done_ (by kernel_rfl) ?_
                                    obtain ⟨Ao43, co43, eo43⟩ := Kd.R_slice HO322.out
                                    subst eo43
                                    try go_wp2_with (first | ((with_reducible refine gate_builtin (b := .append) (xs := #[.const (.slice none 0 0), .tmp 46]) rfl ?_); (try (refine gate_guard (by rfl) ?_; dsimp only)); at_builtin; refine Kd.R_append_rows (Kd.int .u8) (w0 := w) w.heap.size rfl (.const (.slice none 0 0)) (.tmp 46) 22 5 (.int .u8 0) 1 rfl Tryd.underlying22 info5 rfl (by decide) (by omega) (.slice none 0 0) ([] : List Int) t320 _ _ _ (fun k_ => some k_ ≠ (.slice Ao43 t320.length co43 : Value).ownBlock ∧ some k_ ≠ (.slice (some ⟨go14, 0, none⟩) t323.length co14 : Value).ownBlock ∧ some k_ ≠ (.slice Ao40 t326.length co40 : Value).ownBlock) (fun _ => False) rfl rfl ?aO ?aR (fun _ _ h => h) (fun _ h => h.elim) ?aF ?aB ?aS ?aL ?_; (case aR => refine (Kd.R_reads' (e := 5) (base := w.heap.size) (ok := fun k_ => ((True ∧ some k_ ≠ (.slice (some ⟨go14, 0, none⟩) t323.length co14 : Value).ownBlock) ∧ some k_ ≠ (.slice Ao40 t326.length co40 : Value).ownBlock)) (n := t320.length) (c := co43) ?_).2.2; exact (by (with_reducible repeat (first | apply Kd.R_alloc | apply Kd.R_drewN | apply Kd.R_drew)); exact HO322.out)); (case aB => exact (by repeat (first | (with_reducible first | exact HB.out | apply below_alloc | apply pw_below_drewN | apply below_drew1 | refine below_set ?_ GB14.out | refine below_set ?_ GE318.out) | exact HB.out))); (case aF => exact (fun k_ hk => ⟨Kd.fresh' (Kd.R_lt (by (with_reducible repeat (first | apply Kd.R_alloc | apply Kd.R_drewN | apply Kd.R_drew)); exact HO322.out)) k_ hk, Kd.fresh' (Kd.R_lt (by (with_reducible repeat (first | apply Kd.R_alloc | apply Kd.R_drewN | apply Kd.R_drew)); exact HQ41.out)) k_ hk, Kd.fresh' (Kd.R_lt (by (with_reducible repeat (first | apply Kd.R_alloc | apply Kd.R_drewN | apply Kd.R_drew)); exact HO328.out)) k_ hk⟩)); (case aO => exact ((Kd.R_nil _ _ _ _ (fun k_ => some k_ ≠ (.slice Ao43 t320.length co43 : Value).ownBlock ∧ some k_ ≠ (.slice (some ⟨go14, 0, none⟩) t323.length co14 : Value).ownBlock ∧ some k_ ≠ (.slice Ao40 t326.length co40 : Value).ownBlock)))); (case aS => exact (below_size (by repeat (first | (with_reducible first | exact HB.out | apply below_alloc | apply pw_below_drewN | apply below_drew1 | refine below_set ?_ GB14.out | refine below_set ?_ GE318.out) | exact HB.out)))); (case aL => have := LMc18.out; omega); intro v335 w42 ho hb hg hat; rw [← Ny334.out] at ho; have n0_ := Aside0.mk (blk_grown (g := gb318) (o := .cells #[.slice A0_0 l0_0.length c0_0, .slice A0_1 l0_1.length c0_1] 53 (0, 0)) (by (with_reducible repeat (first | refine blk_drewN ?_ _ | refine blk_drew ?_ | refine blk_alloc ?_ _)); (with_reducible repeat (first | refine blk_drewN ?_ _ | refine blk_drew ?_ | refine blk_alloc ?_ _)); exact BK318.out) hg (by simp [Value.ownBlock])); have n1_ := Aside0.mk (Kd.R_after (Kd.R_apart_nil (by (with_reducible repeat (first | apply Kd.R_alloc | apply Kd.R_drewN | apply Kd.R_drew)); exact HO322.out)) hg hat); have n2_ := Aside0.mk (Kd.R_after (Kd.R_apart_nil (by (with_reducible repeat (first | apply Kd.R_alloc | apply Kd.R_drewN | apply Kd.R_drew)); exact HQ41.out)) hg hat); have n3_ := Aside0.mk (Kd.R_after (Kd.R_apart_nil (by (with_reducible repeat (first | apply Kd.R_alloc | apply Kd.R_drewN | apply Kd.R_drew)); exact HO328.out)) hg hat); have n4_ := Aside0.mk (hb); have n5_ := Aside0.mk ((show Kd.C (Kd.int .u8) w42 A39 y329.length y329 from by rw [Ny329.out, KA39.out]; exact Kd.C_mid (lo := 148) (hi := 156) (c := co40) ((Kd.R_reads' (Kd.R_after (Kd.R_apart_nil (by (with_reducible repeat (first | apply Kd.R_alloc | apply Kd.R_drewN | apply Kd.R_drew)); exact HO328.out)) hg hat)).2.2) KM39.out KL39.out ((Kd.R_reads' (Kd.R_after (Kd.R_apart_nil (by (with_reducible repeat (first | apply Kd.R_alloc | apply Kd.R_drewN | apply Kd.R_drew)); exact HO328.out)) hg hat)).2.1))); have n6_ := Aside0.mk (ho); clear BK318; clear HO322; clear HO325; clear HO328; clear HB; clear HR332; have BK318 := n0_; have HO322 := n1_; have HO325 := n2_; have HO328 := n3_; have HB := n4_; have HR332 := n5_; have HO336 := n6_; clear n0_ n1_ n2_ n3_ n4_ n5_ n6_; clear ho hb hg hat; have p22 : 0 ≤ ((ji19) : Int) := of_decide_eq_true (by first | (with_reducible assumption) | assumption); have q22 : ((ji19) : Int) < ((y334.length : Int) : Int) := of_decide_eq_true (by first | (with_reducible assumption) | assumption); obtain ⟨go22, co22, eo22, gb22, gl22, cl22, HG22⟩ := Kd.R_form HO336.out (by omega); (first | cases eo22 | (injection eo22 with ea_ en_ ec_; (first | subst ea_ | (injection ea_ with ea_; subst ea_)); subst ec_; clear en_)); have GB22 := Aside0.mk gb22; have GG22 := Aside0.mk HG22; clear gb22 gl22 HG22; obtain ⟨hx22_0, hf22_0⟩ := Kd.R_celln 0 HO336.out ((ji19) : Int) p22 q22; replace p22 := eq_true p22; replace q22 := eq_true q22; obtain ⟨hy44_, hz44_⟩ := Kd.R_celln 0 HO336.out ((ji19) : Int) (of_decide_eq_true (by first | (with_reducible assumption) | assumption)) (of_decide_eq_true (by first | (with_reducible assumption) | assumption)); have HP44 := Kd.R_putg HO336.out ((ji19) : Int) a2) | ((with_reducible refine gate_store (t := 5) (p := 51) rfl ?_); refine store_event (t := 5) (p := 51) (v := ?vo_w45) (w1 := (w42.setCell ⟨go22, ((ji19) : Int).toNat, none⟩ (.int .u8 a2))) ?hg ?ho ?hn ?hr ?_; (case ho => rfl); (case hg => rfl); (case hn => rfl); (case hr => first | (go_simp; done) | (go_simp; rfl)); intro w45 hw; have hg : w42.grownBy w45 (some go22) := (by rw [hw]; exact HP44.2); have hp_ : Kd.R (Kd.int .u8) 5 w45 w.heap.size (fun k_ => some k_ ≠ (.slice Ao43 t320.length co43 : Value).ownBlock ∧ some k_ ≠ (.slice (some ⟨go14, 0, none⟩) t323.length co14 : Value).ownBlock ∧ some k_ ≠ (.slice Ao40 t326.length co40 : Value).ownBlock) (.slice (some ⟨go22, 0, none⟩) y334.length co22) y337 := (by rw [hw, Ny337.out]; exact HP44.1); clear HP44; have n0_ := Aside0.mk (blk_grown (g := gb318) (o := .cells #[.slice A0_0 l0_0.length c0_0, .slice A0_1 l0_1.length c0_1] 53 (0, 0)) (by (with_reducible repeat (first | refine blk_drewN ?_ _ | refine blk_drew ?_ | refine blk_alloc ?_ _)); exact BK318.out) hg (Kd.R_ne HO336.out BK318.out (by decide))); have n1_ := Aside0.mk (Kd.R_after (v := (.slice (some ⟨go22, 0, none⟩) y334.length co22)) (v1 := (.slice (some ⟨go22, 0, none⟩) y334.length co22)) (ok := (fun k_ => some k_ ≠ (.slice (some ⟨go14, 0, none⟩) t323.length co14 : Value).ownBlock ∧ some k_ ≠ (.slice Ao40 t326.length co40 : Value).ownBlock)) (by (with_reducible repeat (first | apply Kd.R_alloc | apply Kd.R_drewN | apply Kd.R_drew)); exact Kd.R_mono HO322.out (fun _ hk => ⟨⟨hk.1.1.2, hk.1.2⟩, hk.2⟩)) hg (.inl rfl)); have n2_ := Aside0.mk (Kd.R_after (v := (.slice (some ⟨go22, 0, none⟩) y334.length co22)) (v1 := (.slice (some ⟨go22, 0, none⟩) y334.length co22)) (ok := (fun k_ => some k_ ≠ (.slice Ao43 t320.length co43 : Value).ownBlock ∧ some k_ ≠ (.slice Ao40 t326.length co40 : Value).ownBlock)) (by (with_reducible repeat (first | apply Kd.R_alloc | apply Kd.R_drewN | apply Kd.R_drew)); exact Kd.R_mono HO325.out (fun _ hk => ⟨⟨hk.1.1.2, hk.1.2⟩, hk.2⟩)) hg (.inl rfl)); have n3_ := Aside0.mk (Kd.R_after (v := (.slice (some ⟨go22, 0, none⟩) y334.length co22)) (v1 := (.slice (some ⟨go22, 0, none⟩) y334.length co22)) (ok := (fun k_ => some k_ ≠ (.slice Ao43 t320.length co43 : Value).ownBlock ∧ some k_ ≠ (.slice (some ⟨go14, 0, none⟩) t323.length co14 : Value).ownBlock)) (by (with_reducible repeat (first | apply Kd.R_alloc | apply Kd.R_drewN | apply Kd.R_drew)); exact Kd.R_mono HO328.out (fun _ hk => ⟨⟨hk.1.1.2, hk.1.2⟩, hk.2⟩)) hg (.inl rfl)); have n4_ := Aside0.mk (hp_); have n5_ := Aside0.mk ((by rw [hw]; exact below_set (HB.out) GB22.out : Below w.heap.size w w45)); have n6_ := Aside0.mk ((show Kd.C (Kd.int .u8) w45 A39 y329.length y329 from by rw [Ny329.out, KA39.out]; exact Kd.C_mid (lo := 148) (hi := 156) (c := co40) ((Kd.R_reads' (Kd.R_after (v := (.slice (some ⟨go22, 0, none⟩) y334.length co22)) (v1 := (.slice (some ⟨go22, 0, none⟩) y334.length co22)) (ok := (fun k_ => some k_ ≠ (.slice Ao43 t320.length co43 : Value).ownBlock ∧ some k_ ≠ (.slice (some ⟨go14, 0, none⟩) t323.length co14 : Value).ownBlock)) (by (with_reducible repeat (first | apply Kd.R_alloc | apply Kd.R_drewN | apply Kd.R_drew)); exact Kd.R_mono HO328.out (fun _ hk => ⟨⟨hk.1.1.2, hk.1.2⟩, hk.2⟩)) hg (.inl rfl))).2.2) KM39.out KL39.out ((Kd.R_reads' (Kd.R_after (v := (.slice (some ⟨go22, 0, none⟩) y334.length co22)) (v1 := (.slice (some ⟨go22, 0, none⟩) y334.length co22)) (ok := (fun k_ => some k_ ≠ (.slice Ao43 t320.length co43 : Value).ownBlock ∧ some k_ ≠ (.slice (some ⟨go14, 0, none⟩) t323.length co14 : Value).ownBlock)) (by (with_reducible repeat (first | apply Kd.R_alloc | apply Kd.R_drewN | apply Kd.R_drew)); exact Kd.R_mono HO328.out (fun _ hk => ⟨⟨hk.1.1.2, hk.1.2⟩, hk.2⟩)) hg (.inl rfl))).2.1))); clear BK318; clear HO322; clear HO325; clear HO328; clear HO336; clear HB; clear HR332; have BK318 := n0_; have HO322 := n1_; have HO325 := n2_; have HO328 := n3_; have HO336 := n4_; have HB := n5_; have HR332 := n6_; clear n0_ n1_ n2_ n3_ n4_ n5_ n6_; clear hg hw hp_) | ((with_reducible refine gate_callee (f := 26) rfl ?_); refine goesL_ (some 54) rfl rfl Tryd.func26 (by kernel_rfl) rfl #[.slice Ao43 t320.length co43] rfl (by (try simp only [List.map_toArray, List.map_cons, List.map_nil]); first | done | rfl | (simp only [List.length_drop, List.length_take]; rfl)) ?_; (with_reducible refine (hsum_Sum.calls kj3 _ _ t320 t338 t339 _ ?side1 ?side2 A23.out).mono ?_); (case side1 => repeat (first | exact (Kd.R_reads' HO322.out).2.2 | (with_reducible refine Kd.C_alloc ?_ _) | (with_reducible refine Kd.C_drewN ?_ _) | (with_reducible refine Kd.C_drew ?_))); (case side2 => exact (Kd.R_reads' HO322.out).2.1); rintro e w' ⟨rfl, ⟨nd, rfl⟩⟩; refine ⟨_, rfl, ?_⟩) | ((with_reducible refine gate_callee (f := 26) rfl ?_); refine goesL_ (some 59) rfl rfl Tryd.func26 (by kernel_rfl) rfl #[.slice (some ⟨go14, 0, none⟩) y333.length co14] rfl (by (try simp only [List.map_toArray, List.map_cons, List.map_nil]); first | done | (rw [show y333.length = t323.length from (Kd.R_reads' HO325.out).1.symm] <;> rfl) | rfl | (simp only [List.length_drop, List.length_take]; rfl)) ?_; (with_reducible refine (hsum_Sum.calls kj3 _ _ y333 t340 t341 _ ?side1 ?side2 A24.out).mono ?_); (case side1 => repeat (first | exact (Kd.R_reads' HO325.out).2.2 | (with_reducible refine Kd.C_alloc ?_ _) | (with_reducible refine Kd.C_drewN ?_ _) | (with_reducible refine Kd.C_drew ?_))); (case side2 => rw [show y333.length = t323.length from (Kd.R_reads' HO325.out).1.symm]; exact (Kd.R_reads' HO325.out).2.1); rintro e w' ⟨rfl, ⟨nd, rfl⟩⟩; refine ⟨_, rfl, ?_⟩) | ((with_reducible refine gate_callee (f := 26) rfl ?_); refine goesL_ (some 64) rfl rfl Tryd.func26 (by kernel_rfl) rfl #[.slice (some ⟨go22, 0, none⟩) y337.length co22] rfl (by (try simp only [List.map_toArray, List.map_cons, List.map_nil]); first | done | (rw [show y337.length = y334.length from (Kd.R_reads' HO336.out).1.symm] <;> rfl) | rfl | (simp only [List.length_drop, List.length_take]; rfl)) ?_; (with_reducible refine (hsum_Sum.calls kj3 _ _ y337 t342 t343 _ ?side1 ?side2 A25.out).mono ?_); (case side1 => repeat (first | exact (Kd.R_reads' HO336.out).2.2 | (with_reducible refine Kd.C_alloc ?_ _) | (with_reducible refine Kd.C_drewN ?_ _) | (with_reducible refine Kd.C_drew ?_))); (case side2 => rw [show y337.length = y334.length from (Kd.R_reads' HO336.out).1.symm]; exact (Kd.R_reads' HO336.out).2.1); rintro e w' ⟨rfl, ⟨nd, rfl⟩⟩; refine ⟨_, rfl, ?_⟩; have p344 : 0 ≤ ((ji19) : Int) := of_decide_eq_true (by first | (with_reducible assumption) | assumption); have q344 : (ji19) < (t320.length : Int) := of_decide_eq_true (by first | (with_reducible assumption) | assumption); obtain ⟨ad344, e344, hx344_0⟩ := Kd.at_int (Kd.R_reads' HO322.out).2.2 (ji19) p344 q344; cases e344; replace p344 := eq_true p344; replace q344 := eq_true q344) | (go_at_call 24; (with_reducible refine (thwartlaw03_alive.calls kj3  t345 _ A34.out).mono ?_); rintro e w46 ⟨rfl, hb⟩; have n0_ := Aside0.mk (Kd.R_below (by (with_reducible repeat (first | apply Kd.R_alloc | apply Kd.R_drewN | apply Kd.R_drew)); exact HO322.out) hb); have n1_ := Aside0.mk (Kd.R_below (by (with_reducible repeat (first | apply Kd.R_alloc | apply Kd.R_drewN | apply Kd.R_drew)); exact HO325.out) hb); have n2_ := Aside0.mk (Kd.R_below (by (with_reducible repeat (first | apply Kd.R_alloc | apply Kd.R_drewN | apply Kd.R_drew)); exact HO328.out) hb); have n3_ := Aside0.mk (Kd.R_below (by (with_reducible repeat (first | apply Kd.R_alloc | apply Kd.R_drewN | apply Kd.R_drew)); exact HO336.out) hb); have n4_ := Aside0.mk (blk_below (g := gb318) (o := .cells #[.slice A0_0 l0_0.length c0_0, .slice A0_1 l0_1.length c0_1] 53 (0, 0)) (by (with_reducible repeat (first | refine blk_drewN ?_ _ | refine blk_drew ?_ | refine blk_alloc ?_ _)); exact BK318.out) hb); have n5_ := Aside0.mk (Kd.C_below (by repeat (first | (with_reducible exact HR332.out) | (with_reducible refine Kd.C_alloc ?_ _) | (with_reducible refine Kd.C_drewN ?_ _) | (with_reducible refine Kd.C_drew ?_) | exact HR332.out)) hb); have n6_ := Aside0.mk (below_step (by repeat (first | (with_reducible first | exact HB.out | apply below_alloc | apply pw_below_drewN | apply below_drew1 | refine below_set ?_ GE318.out) | exact HB.out)) hb); clear HO322; clear HO325; clear HO328; clear HO336; clear BK318; clear HR332; clear HB; have HO322 := n0_; have HO325 := n1_; have HO328 := n2_; have HO336 := n3_; have BK318 := n4_; have HR332 := n5_; have HB := n6_; clear n0_ n1_ n2_ n3_ n4_ n5_ n6_; (try clear hb); (try clear hb2); (try clear hk); (try clear hi)))
                                    go_ret
                                    exact ⟨by first | rfl | (simp [errW_none, errW_some] <;> rfl) | (simp only [← hji19]; first | rfl | (simp [errW_none, errW_some] <;> rfl)) | (simp [*, errW_none, errW_some] <;> rfl), by repeat (first | (with_reducible first | exact HB.out | apply below_alloc | apply pw_below_drewN | apply below_drew1 | refine below_set ?_ GE318.out) | exact HB.out)⟩
                                  · rw [if_neg c33] at H
                                    have c33b0 : (t343 == 0) = false := beq_eq_false_iff_ne.mpr c33
                                    have c33b1 : (t343 != 0) = true := bne_iff_ne.mpr c33
                                    obtain rfl := Option.some.inj H
                                    exact absurd HRT.out (by decide)
                                · rw [if_neg c32] at H
                                  have c32b0 : (t341 == 0) = false := beq_eq_false_iff_ne.mpr c32
                                  have c32b1 : (t341 != 0) = true := bne_iff_ne.mpr c32
                                  obtain rfl := Option.some.inj H
                                  exact absurd HRT.out (by decide)
                              · rw [if_neg c31] at H
                                have c31b0 : (t339 == 0) = false := beq_eq_false_iff_ne.mpr c31
                                have c31b1 : (t339 != 0) = true := bne_iff_ne.mpr c31
                                obtain rfl := Option.some.inj H
                                exact absurd HRT.out (by decide)
                            · rw [if_neg c30] at H
                              have c30b0 : (t342 == t338) = false := beq_eq_false_iff_ne.mpr c30
                              have c30b1 : (t342 != t338) = true := bne_iff_ne.mpr c30
                              obtain rfl := Option.some.inj H
                              exact absurd HRT.out (by decide)
                          · rw [if_neg c29] at H
                            have c29b0 : (t338 == t340) = false := beq_eq_false_iff_ne.mpr c29
                            have c29b1 : (t338 != t340) = true := bne_iff_ne.mpr c29
                            obtain rfl := Option.some.inj H
                            exact absurd HRT.out (by decide)
                        · rw [if_neg c28] at H
                          have c28b0 : decide ((ji19) < 156) = false := decide_eq_false c28
                          clear c28
                          by_cases c102 : t338 = t340
                          · rw [if_pos c102] at H
                            have c102b0 : (t338 == t340) = true := beq_iff_eq.mpr c102
                            have c102b1 : (t338 != t340) = false := bne_eq_false_iff_eq.mpr c102
                            clear c102
                            by_cases c103 : t342 = (wrap64 ((wrap64 (t338 + (wrap64 (a2)))) - (wrap64 (rd t320 (ji19)))))
                            · rw [if_pos c103] at H
                              have c103b0 : (t342 == (wrap64 ((wrap64 (t338 + (wrap64 (a2)))) - (wrap64 (rd t320 (ji19)))))) = true := beq_iff_eq.mpr c103
                              have c103b1 : (t342 != (wrap64 ((wrap64 (t338 + (wrap64 (a2)))) - (wrap64 (rd t320 (ji19)))))) = false := bne_eq_false_iff_eq.mpr c103
                              clear c103
                              by_cases c104 : t339 = 0
                              · rw [if_pos c104] at H
                                have c104b0 : (t339 == 0) = true := beq_iff_eq.mpr c104
                                have c104b1 : (t339 != 0) = false := bne_eq_false_iff_eq.mpr c104
                                clear c104
                                by_cases c105 : t341 = 0
                                · rw [if_pos c105] at H
                                  have c105b0 : (t341 == 0) = true := beq_iff_eq.mpr c105
                                  have c105b1 : (t341 != 0) = false := bne_eq_false_iff_eq.mpr c105
                                  clear c105
                                  by_cases c106 : t343 = 0
                                  · rw [if_pos c106] at H
                                    have c106b0 : (t343 == 0) = true := beq_iff_eq.mpr c106
                                    have c106b1 : (t343 != 0) = false := bne_eq_false_iff_eq.mpr c106
                                    clear c106
                                    replace H := Option.bind_eq_some_iff.mp H
                                    obtain ⟨t346, A1070, H⟩ := H
                                    replace H : (some t346) = some r := H
                                    have A107 := Aside0.mk A1070
                                    clear A1070
                                    obtain rfl := Option.some.inj H
                                    try go_wp2_with (first | ((with_reducible refine gate_callee (f := 25) rfl ?_); refine goesL_ (some 34) rfl rfl Tryd.func25 (by kernel_rfl) rfl #[.slice A0_0 l0_0.length c0_0] rfl (by (try simp only [List.map_toArray, List.map_cons, List.map_nil]); first | done | rfl | (simp only [List.length_drop, List.length_take]; rfl)) ?_; (with_reducible refine (thwartlaw03_block.calls kj3 _ _ l0_0 t320 _ ?side1 ?side2 A11.out).mono ?_); (case side1 => repeat (first | exact (Kd.C_below HR0_0.out HB.out) | (with_reducible refine Kd.C_alloc ?_ _) | (with_reducible refine Kd.C_drewN ?_ _) | (with_reducible refine Kd.C_drew ?_))); (case side2 => exact HC0_0.out); rintro e w108 ⟨v321, rfl, ho0, hb⟩; refine ⟨_, rfl, ?_⟩; have n0_ := Aside0.mk (Kd.R_lower ho0 (below_size (by repeat (first | (with_reducible first | exact HB.out | apply below_alloc | apply pw_below_drewN | apply below_drew1 | refine below_set ?_ GE318.out) | exact HB.out)))); have n1_ := Aside0.mk (blk_below (g := gb318) (o := .cells #[.slice A0_0 l0_0.length c0_0, .slice A0_1 l0_1.length c0_1] 53 (0, 0)) (by (with_reducible repeat (first | refine blk_drewN ?_ _ | refine blk_drew ?_ | refine blk_alloc ?_ _)); exact BK318.out) hb); have n2_ := Aside0.mk (below_step (by repeat (first | (with_reducible first | exact HB.out | apply below_alloc | apply pw_below_drewN | apply below_drew1 | refine below_set ?_ GE318.out) | exact HB.out)) hb); clear BK318; clear HB; have HO322 := n0_; have BK318 := n1_; have HB := n2_; clear n0_ n1_ n2_; (try clear hb); (try clear hb2); (try clear hk); (try clear hi); (try clear ho0)) | ((with_reducible refine gate_callee (f := 25) rfl ?_); refine goesL_ (some 36) rfl rfl Tryd.func25 (by kernel_rfl) rfl #[.slice A0_0 l0_0.length c0_0] rfl (by (try simp only [List.map_toArray, List.map_cons, List.map_nil]); first | done | rfl | (simp only [List.length_drop, List.length_take]; rfl)) ?_; (with_reducible refine (thwartlaw03_block.calls kj3 _ _ l0_0 t323 _ ?side1 ?side2 A12.out).mono ?_); (case side1 => repeat (first | exact (Kd.C_below HR0_0.out HB.out) | (with_reducible refine Kd.C_alloc ?_ _) | (with_reducible refine Kd.C_drewN ?_ _) | (with_reducible refine Kd.C_drew ?_))); (case side2 => exact HC0_0.out); rintro e w109 ⟨v324, rfl, ho0, hb⟩; refine ⟨_, rfl, ?_⟩; have n0_ := Aside0.mk (Kd.R_elder' (by (with_reducible repeat (first | apply Kd.R_alloc | apply Kd.R_drewN | apply Kd.R_drew)); exact HO322.out) (Kd.R_base ho0) hb); have n1_ := Aside0.mk (Kd.R_lower (Kd.R_new' ho0 (Kd.R_lt (by (with_reducible repeat (first | apply Kd.R_alloc | apply Kd.R_drewN | apply Kd.R_drew)); exact HO322.out))) (below_size (by repeat (first | (with_reducible first | exact HB.out | apply below_alloc | apply pw_below_drewN | apply below_drew1 | refine below_set ?_ GE318.out) | exact HB.out)))); have n2_ := Aside0.mk (blk_below (g := gb318) (o := .cells #[.slice A0_0 l0_0.length c0_0, .slice A0_1 l0_1.length c0_1] 53 (0, 0)) (by (with_reducible repeat (first | refine blk_drewN ?_ _ | refine blk_drew ?_ | refine blk_alloc ?_ _)); exact BK318.out) hb); have n3_ := Aside0.mk (below_step (by repeat (first | (with_reducible first | exact HB.out | apply below_alloc | apply pw_below_drewN | apply below_drew1 | refine below_set ?_ GE318.out) | exact HB.out)) hb); clear HO322; clear BK318; clear HB; have HO322 := n0_; have HO325 := n1_; have BK318 := n2_; have HB := n3_; clear n0_ n1_ n2_ n3_; (try clear hb); (try clear hb2); (try clear hk); (try clear hi); (try clear ho0)))
                                    have n0_ := Aside0.mk (Kd.R_drew HO322.out)
                                    have n1_ := Aside0.mk (Kd.R_drew HO325.out)
                                    have n2_ := Aside0.mk (blk_drew BK318.out)
                                    have n3_ := Aside0.mk (below_drew1 HB.out)
                                    clear HO322
                                    clear HO325
                                    clear BK318
                                    clear HB
                                    have HO322 := n0_
                                    have HO325 := n1_
                                    have BK318 := n2_
                                    have HB := n3_
                                    clear n0_ n1_ n2_ n3_
                                    obtain ⟨go14, co14, eo14, gb14, gl14, cl14, HG14⟩ := Kd.R_form HO325.out (by have h_ := of_eq_true c13b0; omega)
                                    (first | cases eo14 | (injection eo14 with ea_ en_ ec_; (first | subst ea_ | (injection ea_ with ea_; subst ea_)); subst ec_; clear en_))
                                    have GB14 := Aside0.mk gb14
                                    clear gb14 gl14 HG14
                                    have q60 : (156 : Int) ≤ ((t323.length : Int) : Int) := of_eq_true c13b0
                                    obtain ⟨i060, hi060, _, hsz60, _⟩ := info_parts info5
                                    have hroom60 : t323.length ≤ co14 := (Kd.R_reads' HO325.out).2.1
                                    have hcut60 := cut_mid (P := Tryd.prog) 22 5 .i64 .i64 Tryd.underlying22 hi060 1 hsz60 (some ⟨go14, 0, none⟩) t323.length co14 148 156 (by omega) (by omega) q60 hroom60
                                    obtain ⟨A60, hA60⟩ : ∃ A1, A1 = (if co14 = (148 : Int).toNat then (some ⟨go14, 0, none⟩ : Option Addr) else (some ⟨go14, 0, none⟩ : Option Addr).map (·.add ((148 : Int).toNat * 1))) := ⟨_, rfl⟩
                                    obtain ⟨c60, hc60⟩ : ∃ c1, c1 = co14 - (148 : Int).toNat := ⟨_, rfl⟩
                                    obtain ⟨n60, hn60⟩ : ∃ n1, n1 = (156 : Int).toNat - (148 : Int).toNat := ⟨_, rfl⟩
                                    rw [← hA60, ← hc60, ← hn60] at hcut60
                                    have KA60 := Aside0.mk hA60
                                    have KN60 := Aside0.mk hn60
                                    have KR60 := Aside0.mk hroom60
                                    have KQ60 := Aside0.mk q60
                                    clear hi060 hsz60 hroom60 hA60 hc60 hn60
                                    replace q60 := eq_true q60
                                    refine start_ (n := 6) (S := fun w' => True) (ds := []) #[false, false, false, false, false, false] (by kernel_rfl) rfl rfl trivial (fun hHeld => ?_)
                                    generalize w109.drew = w110 at HO322 HO325 BK318 HB hHeld ⊢
                                    refine pure_ (i := 0) (N := some 37) (v := ?_) (a' := ?_) #[true, false, false, false, false, false] rfl rfl (by kernel_rfl) (fun _ _ _ h => h) (Or.inl ⟨by rfl, ?_⟩) ?_ ?_
                                    rotate_left
                                    · intro w'
                                      go_simp
                                      with_reducible rfl
                                    rotate_left
                                    · simp only [Act.put, List.setIfInBounds_toArray, List.set_cons_zero, List.set_cons_succ, i64_w, i32_w]
                                      rfl
                                    refine pure_ (i := 1) (N := some 38) (v := ?_) (a' := ?_) #[true, true, false, false, false, false] rfl rfl (by kernel_rfl) (fun _ _ _ h => h) (Or.inl ⟨by rfl, ?_⟩) ?_ ?_
                                    rotate_left
                                    · intro w'
                                      go_simp
                                      with_reducible rfl
                                    rotate_left
                                    · simp only [Act.put, List.setIfInBounds_toArray, List.set_cons_zero, List.set_cons_succ, i64_w, i32_w]
                                      rfl
                                    refine pure_ (i := 2) (N := some 39) (v := ?_) (a' := ?_) #[true, true, true, false, false, false] rfl rfl (by kernel_rfl) (fun _ _ _ h => h) (Or.inl ⟨by rfl, ?_⟩) ?_ ?_
                                    rotate_left
                                    · intro w'
                                      go_simp
                                      with_reducible rfl
                                    rotate_left
                                    · simp only [Act.put, List.setIfInBounds_toArray, List.set_cons_zero, List.set_cons_succ, i64_w, i32_w]
                                      rfl
                                    refine one_ (i := 3) (N := some 40) #[true, true, true, true, false, false] rfl rfl (by kernel_rfl) (by decide) (fun K hK => ?_)
                                    refine goes_ Tryd.func25 (by kernel_rfl) rfl #[.slice A0_1 l0_1.length c0_1] (by rfl) rfl rfl (by (try simp only [List.map_toArray, List.map_cons, List.map_nil]); first | done | rfl | (simp only [List.length_drop, List.length_take]; rfl)) ?_
                                    with_reducible refine (thwartlaw03_block.calls kj3 _ _ l0_1 t326 _ ?side1 ?side2 A15.out).mono ?_
                                    (case side1 => repeat (first | exact (Kd.C_below HR0_1.out HB.out) | (with_reducible refine Kd.C_alloc ?_ _) | (with_reducible refine Kd.C_drewN ?_ _) | (with_reducible refine Kd.C_drew ?_)))
                                    (case side2 => exact HC0_1.out)
                                    rintro e w111 ⟨v327, rfl, ho0, hb⟩
                                    refine ⟨_, rfl, ?_⟩
                                    have n0_ := Aside0.mk (Kd.R_elder' (by (with_reducible repeat (first | apply Kd.R_alloc | apply Kd.R_drewN | apply Kd.R_drew)); exact HO322.out) (Kd.R_base ho0) hb)
                                    have n1_ := Aside0.mk (Kd.R_elder' (by (with_reducible repeat (first | apply Kd.R_alloc | apply Kd.R_drewN | apply Kd.R_drew)); exact HO325.out) (Kd.R_base ho0) hb)
                                    have n2_ := Aside0.mk (Kd.R_lower (Kd.R_new' (Kd.R_new' ho0 (Kd.R_lt (by (with_reducible repeat (first | apply Kd.R_alloc | apply Kd.R_drewN | apply Kd.R_drew)); exact HO322.out))) (Kd.R_lt (by (with_reducible repeat (first | apply Kd.R_alloc | apply Kd.R_drewN | apply Kd.R_drew)); exact HO325.out))) (below_size (by repeat (first | (with_reducible first | exact HB.out | apply below_alloc | apply pw_below_drewN | apply below_drew1 | refine below_set ?_ GE318.out) | exact HB.out))))
                                    have n3_ := Aside0.mk (blk_below (g := gb318) (o := .cells #[.slice A0_0 l0_0.length c0_0, .slice A0_1 l0_1.length c0_1] 53 (0, 0)) (by (with_reducible repeat (first | refine blk_drewN ?_ _ | refine blk_drew ?_ | refine blk_alloc ?_ _)); exact BK318.out) hb)
                                    have n4_ := Aside0.mk (below_step (by repeat (first | (with_reducible first | exact HB.out | apply below_alloc | apply pw_below_drewN | apply below_drew1 | refine below_set ?_ GE318.out) | exact HB.out)) hb)
                                    clear HO322
                                    clear HO325
                                    clear BK318
                                    clear HB
                                    have HO322 := n0_
                                    have HO325 := n1_
                                    have HO328 := n2_
                                    have BK318 := n3_
                                    have HB := n4_
                                    clear n0_ n1_ n2_ n3_ n4_
                                    (try clear hb)
                                    (try clear hb2)
                                    (try clear hk)
                                    (try clear hi)
                                    (try clear ho0)
                                    obtain ⟨Ao113, co113, eo113⟩ := Kd.R_slice HO328.out
                                    (first | subst eo113 | (injection eo113 with f1_ f2_ f3_; have f4_ := f1_.symm; have f5_ := f3_.symm; clear f1_ f2_ f3_; subst f4_; subst f5_))
                                    have q112 : (156 : Int) ≤ ((t326.length : Int) : Int) := of_decide_eq_true (by first | (with_reducible assumption) | assumption)
                                    obtain ⟨i0112, hi0112, _, hsz112, _⟩ := info_parts info5
                                    have hroom112 : t326.length ≤ co113 := (Kd.R_reads' HO328.out).2.1
                                    have hC112 : Kd.C (Kd.int .u8) _ Ao113 t326.length t326 := (Kd.R_reads' HO328.out).2.2
                                    have ql112 : (148 : Int) ≤ (156 : Int) := (by omega)
                                    have hcut112 := cut_mid (P := Tryd.prog) 22 5 .i64 .i64 Tryd.underlying22 hi0112 1 hsz112 Ao113 t326.length co113 148 156 (by omega) ql112 q112 hroom112
                                    have hr112 := Kd.C_mid (lo := (148 : Int).toNat) (hi := (156 : Int).toNat) (c := co113) hC112 (by omega) (by omega) hroom112
                                    obtain ⟨A112, hA112⟩ : ∃ A1, A1 = (if co113 = (148 : Int).toNat then Ao113 else (Ao113 : Option Addr).map (·.add ((148 : Int).toNat * 1))) := ⟨_, rfl⟩
                                    obtain ⟨c112, hc112⟩ : ∃ c1, c1 = co113 - (148 : Int).toNat := ⟨_, rfl⟩
                                    have hy112 : y329.length = (156 : Int).toNat - (148 : Int).toNat := (by rw [Ny329.out, List.length_drop, List.length_take] <;> omega)
                                    rw [show ((t326).take (156 : Int).toNat).drop (148 : Int).toNat = y329 from Ny329.out.symm] at hr112
                                    replace hr112 : Kd.C (Kd.int .u8) _ A112 y329.length y329 := (by rw [hA112]; exact hr112)
                                    rw [← hy112, ← hA112, ← hc112] at hcut112
                                    have HR332 := Aside0.mk hr112
                                    have HC332 := Aside0.mk (show y329.length ≤ c112 from by rw [hy112, hc112]; exact Nat.sub_le_sub_right (Nat.le_trans (by omega) hroom112) _)
                                    clear hr112 hC112 hroom112 hi0112 hsz112 hc112
                                    have KY112 := Aside0.mk hy112
                                    have KA112 := Aside0.mk hA112
                                    clear hy112 hA112
                                    have KL112 := Aside0.mk (show 156 ≤ t326.length from by omega)
                                    have KM112 := Aside0.mk (show 148 ≤ 156 from by omega)
                                    replace q112 := eq_true q112
                                    refine hK.out _ _ trivial (fun hHeld => ?_)
                                    clear hK K
                                    refine norm_ (a' := ?_) ?_ ?_
                                    rotate_left
                                    · show Act.put _ (some 40) _ = _
                                      simp only [Act.put, List.setIfInBounds_toArray, List.set_cons_zero, List.set_cons_succ, i64_w, i32_w]
                                      rfl
                                    refine pure_ (i := 4) (N := some 41) (v := ?_) (a' := ?_) #[true, true, true, true, true, false] rfl rfl (by kernel_rfl) (fun _ _ _ h => h) (Or.inl ⟨by rfl, ?_⟩) ?_ ?_
                                    rotate_left
                                    · intro w'
                                      go_simp
                                      with_reducible rfl
                                    rotate_left
                                    · simp only [Act.put, List.setIfInBounds_toArray, List.set_cons_zero, List.set_cons_succ, i64_w, i32_w]
                                      rfl
                                    refine one_ (i := 5) (N := some 42) #[true, true, true, true, true, true] rfl rfl (by kernel_rfl) (by decide) (fun K hK => ?_)
                                    have hy8 : y329.length = 8 := by rw [KY112.out]; rfl
                                    have hdp : A60 = some ⟨go14, 148, none⟩ := by
                                      rw [KA60.out, if_neg (by have h1 := KR60.out; have h2 := KQ60.out; intro e; rw [e] at h1; have h3 : (148 : Int).toNat = 148 := rfl; omega)]; rfl
                                    refine copy_mid_step rfl (.tmp 38) (.tmp 41) rfl go14 co14 t323.length t323 y329 A112 c112 y329.length w.heap.size _ A60 n60 c60 HO325.out (by have h2 := KQ60.out; omega) (by rfl) hdp (by rw [KN60.out]; rfl) (by rfl) HR332.out hy8 hy8 ?_
                                    intro w41 hg ho
                                    rw [show (mid8 t323 y329) = y333 by rw [Ny333.out, Ny329.out]] at ho
                                    have n0_ := Aside0.mk (Kd.R_grown2 HO322.out rfl hg (fun k e h => by cases e; have h2 := HO322.out.1 go14 h.symm; simp [Value.ownBlock] at h2))
                                    have n1_ := Aside0.mk ho
                                    have n2_ := Aside0.mk (Kd.R_grown2 HO328.out rfl hg (fun k e h => by cases e; have h2 := HO328.out.1 go14 h.symm; simp [Value.ownBlock] at h2))
                                    have n3_ := Aside0.mk (blk_grown (g := gb318) (o := .cells #[.slice A0_0 l0_0.length c0_0, .slice A0_1 l0_1.length c0_1] 53 (0, 0)) BK318.out hg (Kd.R_ne HO325.out BK318.out (by decide)))
                                    have n4_ := Aside0.mk (HB.out.grown hg (below_size HB.out) (fun i e => by cases e; exact GB14.out))
                                    have n5_ := Aside0.mk (show Kd.C (Kd.int .u8) w41 A112 y329.length y329 from by rw [Ny329.out, KA112.out]; exact Kd.C_mid (lo := 148) (hi := 156) (c := co113) ((Kd.R_reads' n2_.out).2.2) KM112.out KL112.out ((Kd.R_reads' n2_.out).2.1))
                                    clear HO322 HO325 HO328 BK318 HB HR332 hg ho hdp hy8
                                    have HO322 := n0_
                                    have HO325 := n1_
                                    have HQ114 := n1_
                                    have HO328 := n2_
                                    have BK318 := n3_
                                    have HB := n4_
                                    have HR332 := n5_
                                    clear n0_ n1_ n2_ n3_ n4_ n5_
                                    refine hK.out _ _ trivial (fun hHeld => ?_)
                                    clear hK K
                                    refine norm_ (a' := ?_) ?_ ?_
                                    rotate_left
                                    · show Act.put _ (some 42) _ = _
                                      simp only [Act.put, List.setIfInBounds_toArray, List.set_cons_zero, List.set_cons_succ, i64_w, i32_w]
                                      rfl
                                    refine done_ (by kernel_rfl) ?_
                                    obtain ⟨Ao116, co116, eo116⟩ := Kd.R_slice HO322.out
                                    subst eo116
                                    try go_wp2_with (first | ((with_reducible refine gate_builtin (b := .append) (xs := #[.const (.slice none 0 0), .tmp 46]) rfl ?_); (try (refine gate_guard (by rfl) ?_; dsimp only)); at_builtin; refine Kd.R_append_rows (Kd.int .u8) (w0 := w) w.heap.size rfl (.const (.slice none 0 0)) (.tmp 46) 22 5 (.int .u8 0) 1 rfl Tryd.underlying22 info5 rfl (by decide) (by omega) (.slice none 0 0) ([] : List Int) t320 _ _ _ (fun k_ => some k_ ≠ (.slice Ao116 t320.length co116 : Value).ownBlock ∧ some k_ ≠ (.slice (some ⟨go14, 0, none⟩) t323.length co14 : Value).ownBlock ∧ some k_ ≠ (.slice Ao113 t326.length co113 : Value).ownBlock) (fun _ => False) rfl rfl ?aO ?aR (fun _ _ h => h) (fun _ h => h.elim) ?aF ?aB ?aS ?aL ?_; (case aR => refine (Kd.R_reads' (e := 5) (base := w.heap.size) (ok := fun k_ => ((True ∧ some k_ ≠ (.slice (some ⟨go14, 0, none⟩) t323.length co14 : Value).ownBlock) ∧ some k_ ≠ (.slice Ao113 t326.length co113 : Value).ownBlock)) (n := t320.length) (c := co116) ?_).2.2; exact (by (with_reducible repeat (first | apply Kd.R_alloc | apply Kd.R_drewN | apply Kd.R_drew)); exact HO322.out)); (case aB => exact (by repeat (first | (with_reducible first | exact HB.out | apply below_alloc | apply pw_below_drewN | apply below_drew1 | refine below_set ?_ GB14.out | refine below_set ?_ GE318.out) | exact HB.out))); (case aF => exact (fun k_ hk => ⟨Kd.fresh' (Kd.R_lt (by (with_reducible repeat (first | apply Kd.R_alloc | apply Kd.R_drewN | apply Kd.R_drew)); exact HO322.out)) k_ hk, Kd.fresh' (Kd.R_lt (by (with_reducible repeat (first | apply Kd.R_alloc | apply Kd.R_drewN | apply Kd.R_drew)); exact HQ114.out)) k_ hk, Kd.fresh' (Kd.R_lt (by (with_reducible repeat (first | apply Kd.R_alloc | apply Kd.R_drewN | apply Kd.R_drew)); exact HO328.out)) k_ hk⟩)); (case aO => exact ((Kd.R_nil _ _ _ _ (fun k_ => some k_ ≠ (.slice Ao116 t320.length co116 : Value).ownBlock ∧ some k_ ≠ (.slice (some ⟨go14, 0, none⟩) t323.length co14 : Value).ownBlock ∧ some k_ ≠ (.slice Ao113 t326.length co113 : Value).ownBlock)))); (case aS => exact (below_size (by repeat (first | (with_reducible first | exact HB.out | apply below_alloc | apply pw_below_drewN | apply below_drew1 | refine below_set ?_ GB14.out | refine below_set ?_ GE318.out) | exact HB.out)))); (case aL => have := LMc18.out; omega); intro v335 w115 ho hb hg hat; rw [← Ny334.out] at ho; have n0_ := Aside0.mk (blk_grown (g := gb318) (o := .cells #[.slice A0_0 l0_0.length c0_0, .slice A0_1 l0_1.length c0_1] 53 (0, 0)) (by (with_reducible repeat (first | refine blk_drewN ?_ _ | refine blk_drew ?_ | refine blk_alloc ?_ _)); (with_reducible repeat (first | refine blk_drewN ?_ _ | refine blk_drew ?_ | refine blk_alloc ?_ _)); exact BK318.out) hg (by simp [Value.ownBlock])); have n1_ := Aside0.mk (Kd.R_after (Kd.R_apart_nil (by (with_reducible repeat (first | apply Kd.R_alloc | apply Kd.R_drewN | apply Kd.R_drew)); exact HO322.out)) hg hat); have n2_ := Aside0.mk (Kd.R_after (Kd.R_apart_nil (by (with_reducible repeat (first | apply Kd.R_alloc | apply Kd.R_drewN | apply Kd.R_drew)); exact HQ114.out)) hg hat); have n3_ := Aside0.mk (Kd.R_after (Kd.R_apart_nil (by (with_reducible repeat (first | apply Kd.R_alloc | apply Kd.R_drewN | apply Kd.R_drew)); exact HO328.out)) hg hat); have n4_ := Aside0.mk (hb); have n5_ := Aside0.mk ((show Kd.C (Kd.int .u8) w115 A112 y329.length y329 from by rw [Ny329.out, KA112.out]; exact Kd.C_mid (lo := 148) (hi := 156) (c := co113) ((Kd.R_reads' (Kd.R_after (Kd.R_apart_nil (by (with_reducible repeat (first | apply Kd.R_alloc | apply Kd.R_drewN | apply Kd.R_drew)); exact HO328.out)) hg hat)).2.2) KM112.out KL112.out ((Kd.R_reads' (Kd.R_after (Kd.R_apart_nil (by (with_reducible repeat (first | apply Kd.R_alloc | apply Kd.R_drewN | apply Kd.R_drew)); exact HO328.out)) hg hat)).2.1))); have n6_ := Aside0.mk (ho); clear BK318; clear HO322; clear HO325; clear HO328; clear HB; clear HR332; have BK318 := n0_; have HO322 := n1_; have HO325 := n2_; have HO328 := n3_; have HB := n4_; have HR332 := n5_; have HO336 := n6_; clear n0_ n1_ n2_ n3_ n4_ n5_ n6_; clear ho hb hg hat; have p22 : 0 ≤ ((ji19) : Int) := of_decide_eq_true (by first | (with_reducible assumption) | assumption); have q22 : ((ji19) : Int) < ((y334.length : Int) : Int) := of_decide_eq_true (by first | (with_reducible assumption) | assumption); obtain ⟨go22, co22, eo22, gb22, gl22, cl22, HG22⟩ := Kd.R_form HO336.out (by omega); (first | cases eo22 | (injection eo22 with ea_ en_ ec_; (first | subst ea_ | (injection ea_ with ea_; subst ea_)); subst ec_; clear en_)); have GB22 := Aside0.mk gb22; have GG22 := Aside0.mk HG22; clear gb22 gl22 HG22; obtain ⟨hx22_0, hf22_0⟩ := Kd.R_celln 0 HO336.out ((ji19) : Int) p22 q22; replace p22 := eq_true p22; replace q22 := eq_true q22; obtain ⟨hy117_, hz117_⟩ := Kd.R_celln 0 HO336.out ((ji19) : Int) (of_decide_eq_true (by first | (with_reducible assumption) | assumption)) (of_decide_eq_true (by first | (with_reducible assumption) | assumption)); have HP117 := Kd.R_putg HO336.out ((ji19) : Int) a2) | ((with_reducible refine gate_store (t := 5) (p := 51) rfl ?_); refine store_event (t := 5) (p := 51) (v := ?vo_w118) (w1 := (w115.setCell ⟨go22, ((ji19) : Int).toNat, none⟩ (.int .u8 a2))) ?hg ?ho ?hn ?hr ?_; (case ho => rfl); (case hg => rfl); (case hn => rfl); (case hr => first | (go_simp; done) | (go_simp; rfl)); intro w118 hw; have hg : w115.grownBy w118 (some go22) := (by rw [hw]; exact HP117.2); have hp_ : Kd.R (Kd.int .u8) 5 w118 w.heap.size (fun k_ => some k_ ≠ (.slice Ao116 t320.length co116 : Value).ownBlock ∧ some k_ ≠ (.slice (some ⟨go14, 0, none⟩) t323.length co14 : Value).ownBlock ∧ some k_ ≠ (.slice Ao113 t326.length co113 : Value).ownBlock) (.slice (some ⟨go22, 0, none⟩) y334.length co22) y337 := (by rw [hw, Ny337.out]; exact HP117.1); clear HP117; have n0_ := Aside0.mk (blk_grown (g := gb318) (o := .cells #[.slice A0_0 l0_0.length c0_0, .slice A0_1 l0_1.length c0_1] 53 (0, 0)) (by (with_reducible repeat (first | refine blk_drewN ?_ _ | refine blk_drew ?_ | refine blk_alloc ?_ _)); exact BK318.out) hg (Kd.R_ne HO336.out BK318.out (by decide))); have n1_ := Aside0.mk (Kd.R_after (v := (.slice (some ⟨go22, 0, none⟩) y334.length co22)) (v1 := (.slice (some ⟨go22, 0, none⟩) y334.length co22)) (ok := (fun k_ => some k_ ≠ (.slice (some ⟨go14, 0, none⟩) t323.length co14 : Value).ownBlock ∧ some k_ ≠ (.slice Ao113 t326.length co113 : Value).ownBlock)) (by (with_reducible repeat (first | apply Kd.R_alloc | apply Kd.R_drewN | apply Kd.R_drew)); exact Kd.R_mono HO322.out (fun _ hk => ⟨⟨hk.1.1.2, hk.1.2⟩, hk.2⟩)) hg (.inl rfl)); have n2_ := Aside0.mk (Kd.R_after (v := (.slice (some ⟨go22, 0, none⟩) y334.length co22)) (v1 := (.slice (some ⟨go22, 0, none⟩) y334.length co22)) (ok := (fun k_ => some k_ ≠ (.slice Ao116 t320.length co116 : Value).ownBlock ∧ some k_ ≠ (.slice Ao113 t326.length co113 : Value).ownBlock)) (by (with_reducible repeat (first | apply Kd.R_alloc | apply Kd.R_drewN | apply Kd.R_drew)); exact Kd.R_mono HO325.out (fun _ hk => ⟨⟨hk.1.1.2, hk.1.2⟩, hk.2⟩)) hg (.inl rfl)); have n3_ := Aside0.mk (Kd.R_after (v := (.slice (some ⟨go22, 0, none⟩) y334.length co22)) (v1 := (.slice (some ⟨go22, 0, none⟩) y334.length co22)) (ok := (fun k_ => some k_ ≠ (.slice Ao116 t320.length co116 : Value).ownBlock ∧ some k_ ≠ (.slice (some ⟨go14, 0, none⟩) t323.length co14 : Value).ownBlock)) (by (with_reducible repeat (first | apply Kd.R_alloc | apply Kd.R_drewN | apply Kd.R_drew)); exact Kd.R_mono HO328.out (fun _ hk => ⟨⟨hk.1.1.2, hk.1.2⟩, hk.2⟩)) hg (.inl rfl)); have n4_ := Aside0.mk (hp_); have n5_ := Aside0.mk ((by rw [hw]; exact below_set (HB.out) GB22.out : Below w.heap.size w w118)); have n6_ := Aside0.mk ((show Kd.C (Kd.int .u8) w118 A112 y329.length y329 from by rw [Ny329.out, KA112.out]; exact Kd.C_mid (lo := 148) (hi := 156) (c := co113) ((Kd.R_reads' (Kd.R_after (v := (.slice (some ⟨go22, 0, none⟩) y334.length co22)) (v1 := (.slice (some ⟨go22, 0, none⟩) y334.length co22)) (ok := (fun k_ => some k_ ≠ (.slice Ao116 t320.length co116 : Value).ownBlock ∧ some k_ ≠ (.slice (some ⟨go14, 0, none⟩) t323.length co14 : Value).ownBlock)) (by (with_reducible repeat (first | apply Kd.R_alloc | apply Kd.R_drewN | apply Kd.R_drew)); exact Kd.R_mono HO328.out (fun _ hk => ⟨⟨hk.1.1.2, hk.1.2⟩, hk.2⟩)) hg (.inl rfl))).2.2) KM112.out KL112.out ((Kd.R_reads' (Kd.R_after (v := (.slice (some ⟨go22, 0, none⟩) y334.length co22)) (v1 := (.slice (some ⟨go22, 0, none⟩) y334.length co22)) (ok := (fun k_ => some k_ ≠ (.slice Ao116 t320.length co116 : Value).ownBlock ∧ some k_ ≠ (.slice (some ⟨go14, 0, none⟩) t323.length co14 : Value).ownBlock)) (by (with_reducible repeat (first | apply Kd.R_alloc | apply Kd.R_drewN | apply Kd.R_drew)); exact Kd.R_mono HO328.out (fun _ hk => ⟨⟨hk.1.1.2, hk.1.2⟩, hk.2⟩)) hg (.inl rfl))).2.1))); clear BK318; clear HO322; clear HO325; clear HO328; clear HO336; clear HB; clear HR332; have BK318 := n0_; have HO322 := n1_; have HO325 := n2_; have HO328 := n3_; have HO336 := n4_; have HB := n5_; have HR332 := n6_; clear n0_ n1_ n2_ n3_ n4_ n5_ n6_; clear hg hw hp_) | ((with_reducible refine gate_callee (f := 26) rfl ?_); refine goesL_ (some 54) rfl rfl Tryd.func26 (by kernel_rfl) rfl #[.slice Ao116 t320.length co116] rfl (by (try simp only [List.map_toArray, List.map_cons, List.map_nil]); first | done | rfl | (simp only [List.length_drop, List.length_take]; rfl)) ?_; (with_reducible refine (hsum_Sum.calls kj3 _ _ t320 t338 t339 _ ?side1 ?side2 A23.out).mono ?_); (case side1 => repeat (first | exact (Kd.R_reads' HO322.out).2.2 | (with_reducible refine Kd.C_alloc ?_ _) | (with_reducible refine Kd.C_drewN ?_ _) | (with_reducible refine Kd.C_drew ?_))); (case side2 => exact (Kd.R_reads' HO322.out).2.1); rintro e w' ⟨rfl, ⟨nd, rfl⟩⟩; refine ⟨_, rfl, ?_⟩) | ((with_reducible refine gate_callee (f := 26) rfl ?_); refine goesL_ (some 59) rfl rfl Tryd.func26 (by kernel_rfl) rfl #[.slice (some ⟨go14, 0, none⟩) y333.length co14] rfl (by (try simp only [List.map_toArray, List.map_cons, List.map_nil]); first | done | (rw [show y333.length = t323.length from (Kd.R_reads' HO325.out).1.symm] <;> rfl) | rfl | (simp only [List.length_drop, List.length_take]; rfl)) ?_; (with_reducible refine (hsum_Sum.calls kj3 _ _ y333 t340 t341 _ ?side1 ?side2 A24.out).mono ?_); (case side1 => repeat (first | exact (Kd.R_reads' HO325.out).2.2 | (with_reducible refine Kd.C_alloc ?_ _) | (with_reducible refine Kd.C_drewN ?_ _) | (with_reducible refine Kd.C_drew ?_))); (case side2 => rw [show y333.length = t323.length from (Kd.R_reads' HO325.out).1.symm]; exact (Kd.R_reads' HO325.out).2.1); rintro e w' ⟨rfl, ⟨nd, rfl⟩⟩; refine ⟨_, rfl, ?_⟩) | ((with_reducible refine gate_callee (f := 26) rfl ?_); refine goesL_ (some 64) rfl rfl Tryd.func26 (by kernel_rfl) rfl #[.slice (some ⟨go22, 0, none⟩) y337.length co22] rfl (by (try simp only [List.map_toArray, List.map_cons, List.map_nil]); first | done | (rw [show y337.length = y334.length from (Kd.R_reads' HO336.out).1.symm] <;> rfl) | rfl | (simp only [List.length_drop, List.length_take]; rfl)) ?_; (with_reducible refine (hsum_Sum.calls kj3 _ _ y337 t342 t343 _ ?side1 ?side2 A25.out).mono ?_); (case side1 => repeat (first | exact (Kd.R_reads' HO336.out).2.2 | (with_reducible refine Kd.C_alloc ?_ _) | (with_reducible refine Kd.C_drewN ?_ _) | (with_reducible refine Kd.C_drew ?_))); (case side2 => rw [show y337.length = y334.length from (Kd.R_reads' HO336.out).1.symm]; exact (Kd.R_reads' HO336.out).2.1); rintro e w' ⟨rfl, ⟨nd, rfl⟩⟩; refine ⟨_, rfl, ?_⟩; have p344 : 0 ≤ ((ji19) : Int) := of_decide_eq_true (by first | (with_reducible assumption) | assumption); have q344 : (ji19) < (t320.length : Int) := of_decide_eq_true (by first | (with_reducible assumption) | assumption); obtain ⟨ad344, e344, hx344_0⟩ := Kd.at_int (Kd.R_reads' HO322.out).2.2 (ji19) p344 q344; cases e344; replace p344 := eq_true p344; replace q344 := eq_true q344) | (go_at_call 24; (with_reducible refine (thwartlaw03_alive.calls kj3  t346 _ A107.out).mono ?_); rintro e w119 ⟨rfl, hb⟩; have n0_ := Aside0.mk (Kd.R_below (by (with_reducible repeat (first | apply Kd.R_alloc | apply Kd.R_drewN | apply Kd.R_drew)); exact HO322.out) hb); have n1_ := Aside0.mk (Kd.R_below (by (with_reducible repeat (first | apply Kd.R_alloc | apply Kd.R_drewN | apply Kd.R_drew)); exact HO325.out) hb); have n2_ := Aside0.mk (Kd.R_below (by (with_reducible repeat (first | apply Kd.R_alloc | apply Kd.R_drewN | apply Kd.R_drew)); exact HO328.out) hb); have n3_ := Aside0.mk (Kd.R_below (by (with_reducible repeat (first | apply Kd.R_alloc | apply Kd.R_drewN | apply Kd.R_drew)); exact HO336.out) hb); have n4_ := Aside0.mk (blk_below (g := gb318) (o := .cells #[.slice A0_0 l0_0.length c0_0, .slice A0_1 l0_1.length c0_1] 53 (0, 0)) (by (with_reducible repeat (first | refine blk_drewN ?_ _ | refine blk_drew ?_ | refine blk_alloc ?_ _)); exact BK318.out) hb); have n5_ := Aside0.mk (Kd.C_below (by repeat (first | (with_reducible exact HR332.out) | (with_reducible refine Kd.C_alloc ?_ _) | (with_reducible refine Kd.C_drewN ?_ _) | (with_reducible refine Kd.C_drew ?_) | exact HR332.out)) hb); have n6_ := Aside0.mk (below_step (by repeat (first | (with_reducible first | exact HB.out | apply below_alloc | apply pw_below_drewN | apply below_drew1 | refine below_set ?_ GE318.out) | exact HB.out)) hb); clear HO322; clear HO325; clear HO328; clear HO336; clear BK318; clear HR332; clear HB; have HO322 := n0_; have HO325 := n1_; have HO328 := n2_; have HO336 := n3_; have BK318 := n4_; have HR332 := n5_; have HB := n6_; clear n0_ n1_ n2_ n3_ n4_ n5_ n6_; (try clear hb); (try clear hb2); (try clear hk); (try clear hi)))
                                    go_ret
                                    exact ⟨by first | rfl | (simp [errW_none, errW_some] <;> rfl) | (simp only [← hji19]; first | rfl | (simp [errW_none, errW_some] <;> rfl)) | (simp [*, errW_none, errW_some] <;> rfl), by repeat (first | (with_reducible first | exact HB.out | apply below_alloc | apply pw_below_drewN | apply below_drew1 | refine below_set ?_ GE318.out) | exact HB.out)⟩
                                  · rw [if_neg c106] at H
                                    have c106b0 : (t343 == 0) = false := beq_eq_false_iff_ne.mpr c106
                                    have c106b1 : (t343 != 0) = true := bne_iff_ne.mpr c106
                                    obtain rfl := Option.some.inj H
                                    exact absurd HRT.out (by decide)
                                · rw [if_neg c105] at H
                                  have c105b0 : (t341 == 0) = false := beq_eq_false_iff_ne.mpr c105
                                  have c105b1 : (t341 != 0) = true := bne_iff_ne.mpr c105
                                  obtain rfl := Option.some.inj H
                                  exact absurd HRT.out (by decide)
                              · rw [if_neg c104] at H
                                have c104b0 : (t339 == 0) = false := beq_eq_false_iff_ne.mpr c104
                                have c104b1 : (t339 != 0) = true := bne_iff_ne.mpr c104
                                obtain rfl := Option.some.inj H
                                exact absurd HRT.out (by decide)
                            · rw [if_neg c103] at H
                              have c103b0 : (t342 == (wrap64 ((wrap64 (t338 + (wrap64 (a2)))) - (wrap64 (rd t320 (ji19)))))) = false := beq_eq_false_iff_ne.mpr c103
                              have c103b1 : (t342 != (wrap64 ((wrap64 (t338 + (wrap64 (a2)))) - (wrap64 (rd t320 (ji19)))))) = true := bne_iff_ne.mpr c103
                              obtain rfl := Option.some.inj H
                              exact absurd HRT.out (by decide)
                          · rw [if_neg c102] at H
                            have c102b0 : (t338 == t340) = false := beq_eq_false_iff_ne.mpr c102
                            have c102b1 : (t338 != t340) = true := bne_iff_ne.mpr c102
                            obtain rfl := Option.some.inj H
                            exact absurd HRT.out (by decide)
                      · rw [if_neg c27] at H
                        have c27b0 : decide (148 ≤ (ji19)) = false := decide_eq_false c27
                        clear c27
                        by_cases c175 : t338 = t340
                        · rw [if_pos c175] at H
                          have c175b0 : (t338 == t340) = true := beq_iff_eq.mpr c175
                          have c175b1 : (t338 != t340) = false := bne_eq_false_iff_eq.mpr c175
                          clear c175
                          by_cases c176 : t342 = (wrap64 ((wrap64 (t338 + (wrap64 (a2)))) - (wrap64 (rd t320 (ji19)))))
                          · rw [if_pos c176] at H
                            have c176b0 : (t342 == (wrap64 ((wrap64 (t338 + (wrap64 (a2)))) - (wrap64 (rd t320 (ji19)))))) = true := beq_iff_eq.mpr c176
                            have c176b1 : (t342 != (wrap64 ((wrap64 (t338 + (wrap64 (a2)))) - (wrap64 (rd t320 (ji19)))))) = false := bne_eq_false_iff_eq.mpr c176
                            clear c176
                            by_cases c177 : t339 = 0
                            · rw [if_pos c177] at H
                              have c177b0 : (t339 == 0) = true := beq_iff_eq.mpr c177
                              have c177b1 : (t339 != 0) = false := bne_eq_false_iff_eq.mpr c177
                              clear c177
                              by_cases c178 : t341 = 0
                              · rw [if_pos c178] at H
                                have c178b0 : (t341 == 0) = true := beq_iff_eq.mpr c178
                                have c178b1 : (t341 != 0) = false := bne_eq_false_iff_eq.mpr c178
                                clear c178
                                by_cases c179 : t343 = 0
                                · rw [if_pos c179] at H
                                  have c179b0 : (t343 == 0) = true := beq_iff_eq.mpr c179
                                  have c179b1 : (t343 != 0) = false := bne_eq_false_iff_eq.mpr c179
                                  clear c179
                                  replace H := Option.bind_eq_some_iff.mp H
                                  obtain ⟨t347, A1800, H⟩ := H
                                  replace H : (some t347) = some r := H
                                  have A180 := Aside0.mk A1800
                                  clear A1800
                                  obtain rfl := Option.some.inj H
                                  try go_wp2_with (first | ((with_reducible refine gate_callee (f := 25) rfl ?_); refine goesL_ (some 34) rfl rfl Tryd.func25 (by kernel_rfl) rfl #[.slice A0_0 l0_0.length c0_0] rfl (by (try simp only [List.map_toArray, List.map_cons, List.map_nil]); first | done | rfl | (simp only [List.length_drop, List.length_take]; rfl)) ?_; (with_reducible refine (thwartlaw03_block.calls kj3 _ _ l0_0 t320 _ ?side1 ?side2 A11.out).mono ?_); (case side1 => repeat (first | exact (Kd.C_below HR0_0.out HB.out) | (with_reducible refine Kd.C_alloc ?_ _) | (with_reducible refine Kd.C_drewN ?_ _) | (with_reducible refine Kd.C_drew ?_))); (case side2 => exact HC0_0.out); rintro e w181 ⟨v321, rfl, ho0, hb⟩; refine ⟨_, rfl, ?_⟩; have n0_ := Aside0.mk (Kd.R_lower ho0 (below_size (by repeat (first | (with_reducible first | exact HB.out | apply below_alloc | apply pw_below_drewN | apply below_drew1 | refine below_set ?_ GE318.out) | exact HB.out)))); have n1_ := Aside0.mk (blk_below (g := gb318) (o := .cells #[.slice A0_0 l0_0.length c0_0, .slice A0_1 l0_1.length c0_1] 53 (0, 0)) (by (with_reducible repeat (first | refine blk_drewN ?_ _ | refine blk_drew ?_ | refine blk_alloc ?_ _)); exact BK318.out) hb); have n2_ := Aside0.mk (below_step (by repeat (first | (with_reducible first | exact HB.out | apply below_alloc | apply pw_below_drewN | apply below_drew1 | refine below_set ?_ GE318.out) | exact HB.out)) hb); clear BK318; clear HB; have HO322 := n0_; have BK318 := n1_; have HB := n2_; clear n0_ n1_ n2_; (try clear hb); (try clear hb2); (try clear hk); (try clear hi); (try clear ho0)) | ((with_reducible refine gate_callee (f := 25) rfl ?_); refine goesL_ (some 36) rfl rfl Tryd.func25 (by kernel_rfl) rfl #[.slice A0_0 l0_0.length c0_0] rfl (by (try simp only [List.map_toArray, List.map_cons, List.map_nil]); first | done | rfl | (simp only [List.length_drop, List.length_take]; rfl)) ?_; (with_reducible refine (thwartlaw03_block.calls kj3 _ _ l0_0 t323 _ ?side1 ?side2 A12.out).mono ?_); (case side1 => repeat (first | exact (Kd.C_below HR0_0.out HB.out) | (with_reducible refine Kd.C_alloc ?_ _) | (with_reducible refine Kd.C_drewN ?_ _) | (with_reducible refine Kd.C_drew ?_))); (case side2 => exact HC0_0.out); rintro e w182 ⟨v324, rfl, ho0, hb⟩; refine ⟨_, rfl, ?_⟩; have n0_ := Aside0.mk (Kd.R_elder' (by (with_reducible repeat (first | apply Kd.R_alloc | apply Kd.R_drewN | apply Kd.R_drew)); exact HO322.out) (Kd.R_base ho0) hb); have n1_ := Aside0.mk (Kd.R_lower (Kd.R_new' ho0 (Kd.R_lt (by (with_reducible repeat (first | apply Kd.R_alloc | apply Kd.R_drewN | apply Kd.R_drew)); exact HO322.out))) (below_size (by repeat (first | (with_reducible first | exact HB.out | apply below_alloc | apply pw_below_drewN | apply below_drew1 | refine below_set ?_ GE318.out) | exact HB.out)))); have n2_ := Aside0.mk (blk_below (g := gb318) (o := .cells #[.slice A0_0 l0_0.length c0_0, .slice A0_1 l0_1.length c0_1] 53 (0, 0)) (by (with_reducible repeat (first | refine blk_drewN ?_ _ | refine blk_drew ?_ | refine blk_alloc ?_ _)); exact BK318.out) hb); have n3_ := Aside0.mk (below_step (by repeat (first | (with_reducible first | exact HB.out | apply below_alloc | apply pw_below_drewN | apply below_drew1 | refine below_set ?_ GE318.out) | exact HB.out)) hb); clear HO322; clear BK318; clear HB; have HO322 := n0_; have HO325 := n1_; have BK318 := n2_; have HB := n3_; clear n0_ n1_ n2_ n3_; (try clear hb); (try clear hb2); (try clear hk); (try clear hi); (try clear ho0)))
                                  have n0_ := Aside0.mk (Kd.R_drew HO322.out)
                                  have n1_ := Aside0.mk (Kd.R_drew HO325.out)
                                  have n2_ := Aside0.mk (blk_drew BK318.out)
                                  have n3_ := Aside0.mk (below_drew1 HB.out)
                                  clear HO322
                                  clear HO325
                                  clear BK318
                                  clear HB
                                  have HO322 := n0_
                                  have HO325 := n1_
                                  have BK318 := n2_
                                  have HB := n3_
                                  clear n0_ n1_ n2_ n3_
                                  obtain ⟨go14, co14, eo14, gb14, gl14, cl14, HG14⟩ := Kd.R_form HO325.out (by have h_ := of_eq_true c13b0; omega)
                                  (first | cases eo14 | (injection eo14 with ea_ en_ ec_; (first | subst ea_ | (injection ea_ with ea_; subst ea_)); subst ec_; clear en_))
                                  have GB14 := Aside0.mk gb14
                                  clear gb14 gl14 HG14
                                  have q60 : (156 : Int) ≤ ((t323.length : Int) : Int) := of_eq_true c13b0
                                  obtain ⟨i060, hi060, _, hsz60, _⟩ := info_parts info5
                                  have hroom60 : t323.length ≤ co14 := (Kd.R_reads' HO325.out).2.1
                                  have hcut60 := cut_mid (P := Tryd.prog) 22 5 .i64 .i64 Tryd.underlying22 hi060 1 hsz60 (some ⟨go14, 0, none⟩) t323.length co14 148 156 (by omega) (by omega) q60 hroom60
                                  obtain ⟨A60, hA60⟩ : ∃ A1, A1 = (if co14 = (148 : Int).toNat then (some ⟨go14, 0, none⟩ : Option Addr) else (some ⟨go14, 0, none⟩ : Option Addr).map (·.add ((148 : Int).toNat * 1))) := ⟨_, rfl⟩
                                  obtain ⟨c60, hc60⟩ : ∃ c1, c1 = co14 - (148 : Int).toNat := ⟨_, rfl⟩
                                  obtain ⟨n60, hn60⟩ : ∃ n1, n1 = (156 : Int).toNat - (148 : Int).toNat := ⟨_, rfl⟩
                                  rw [← hA60, ← hc60, ← hn60] at hcut60
                                  have KA60 := Aside0.mk hA60
                                  have KN60 := Aside0.mk hn60
                                  have KR60 := Aside0.mk hroom60
                                  have KQ60 := Aside0.mk q60
                                  clear hi060 hsz60 hroom60 hA60 hc60 hn60
                                  replace q60 := eq_true q60
                                  refine start_ (n := 6) (S := fun w' => True) (ds := []) #[false, false, false, false, false, false] (by kernel_rfl) rfl rfl trivial (fun hHeld => ?_)
                                  generalize w182.drew = w183 at HO322 HO325 BK318 HB hHeld ⊢
                                  refine pure_ (i := 0) (N := some 37) (v := ?_) (a' := ?_) #[true, false, false, false, false, false] rfl rfl (by kernel_rfl) (fun _ _ _ h => h) (Or.inl ⟨by rfl, ?_⟩) ?_ ?_
                                  rotate_left
                                  · intro w'
                                    go_simp
                                    with_reducible rfl
                                  rotate_left
                                  · simp only [Act.put, List.setIfInBounds_toArray, List.set_cons_zero, List.set_cons_succ, i64_w, i32_w]
                                    rfl
                                  refine pure_ (i := 1) (N := some 38) (v := ?_) (a' := ?_) #[true, true, false, false, false, false] rfl rfl (by kernel_rfl) (fun _ _ _ h => h) (Or.inl ⟨by rfl, ?_⟩) ?_ ?_
                                  rotate_left
                                  · intro w'
                                    go_simp
                                    with_reducible rfl
                                  rotate_left
                                  · simp only [Act.put, List.setIfInBounds_toArray, List.set_cons_zero, List.set_cons_succ, i64_w, i32_w]
                                    rfl
                                  refine pure_ (i := 2) (N := some 39) (v := ?_) (a' := ?_) #[true, true, true, false, false, false] rfl rfl (by kernel_rfl) (fun _ _ _ h => h) (Or.inl ⟨by rfl, ?_⟩) ?_ ?_
                                  rotate_left
                                  · intro w'
                                    go_simp
                                    with_reducible rfl
                                  rotate_left
                                  · simp only [Act.put, List.setIfInBounds_toArray, List.set_cons_zero, List.set_cons_succ, i64_w, i32_w]
                                    rfl
                                  refine one_ (i := 3) (N := some 40) #[true, true, true, true, false, false] rfl rfl (by kernel_rfl) (by decide) (fun K hK => ?_)
                                  refine goes_ Tryd.func25 (by kernel_rfl) rfl #[.slice A0_1 l0_1.length c0_1] (by rfl) rfl rfl (by (try simp only [List.map_toArray, List.map_cons, List.map_nil]); first | done | rfl | (simp only [List.length_drop, List.length_take]; rfl)) ?_
                                  with_reducible refine (thwartlaw03_block.calls kj3 _ _ l0_1 t326 _ ?side1 ?side2 A15.out).mono ?_
                                  (case side1 => repeat (first | exact (Kd.C_below HR0_1.out HB.out) | (with_reducible refine Kd.C_alloc ?_ _) | (with_reducible refine Kd.C_drewN ?_ _) | (with_reducible refine Kd.C_drew ?_)))
                                  (case side2 => exact HC0_1.out)
                                  rintro e w184 ⟨v327, rfl, ho0, hb⟩
                                  refine ⟨_, rfl, ?_⟩
                                  have n0_ := Aside0.mk (Kd.R_elder' (by (with_reducible repeat (first | apply Kd.R_alloc | apply Kd.R_drewN | apply Kd.R_drew)); exact HO322.out) (Kd.R_base ho0) hb)
                                  have n1_ := Aside0.mk (Kd.R_elder' (by (with_reducible repeat (first | apply Kd.R_alloc | apply Kd.R_drewN | apply Kd.R_drew)); exact HO325.out) (Kd.R_base ho0) hb)
                                  have n2_ := Aside0.mk (Kd.R_lower (Kd.R_new' (Kd.R_new' ho0 (Kd.R_lt (by (with_reducible repeat (first | apply Kd.R_alloc | apply Kd.R_drewN | apply Kd.R_drew)); exact HO322.out))) (Kd.R_lt (by (with_reducible repeat (first | apply Kd.R_alloc | apply Kd.R_drewN | apply Kd.R_drew)); exact HO325.out))) (below_size (by repeat (first | (with_reducible first | exact HB.out | apply below_alloc | apply pw_below_drewN | apply below_drew1 | refine below_set ?_ GE318.out) | exact HB.out))))
                                  have n3_ := Aside0.mk (blk_below (g := gb318) (o := .cells #[.slice A0_0 l0_0.length c0_0, .slice A0_1 l0_1.length c0_1] 53 (0, 0)) (by (with_reducible repeat (first | refine blk_drewN ?_ _ | refine blk_drew ?_ | refine blk_alloc ?_ _)); exact BK318.out) hb)
                                  have n4_ := Aside0.mk (below_step (by repeat (first | (with_reducible first | exact HB.out | apply below_alloc | apply pw_below_drewN | apply below_drew1 | refine below_set ?_ GE318.out) | exact HB.out)) hb)
                                  clear HO322
                                  clear HO325
                                  clear BK318
                                  clear HB
                                  have HO322 := n0_
                                  have HO325 := n1_
                                  have HO328 := n2_
                                  have BK318 := n3_
                                  have HB := n4_
                                  clear n0_ n1_ n2_ n3_ n4_
                                  (try clear hb)
                                  (try clear hb2)
                                  (try clear hk)
                                  (try clear hi)
                                  (try clear ho0)
                                  obtain ⟨Ao186, co186, eo186⟩ := Kd.R_slice HO328.out
                                  (first | subst eo186 | (injection eo186 with f1_ f2_ f3_; have f4_ := f1_.symm; have f5_ := f3_.symm; clear f1_ f2_ f3_; subst f4_; subst f5_))
                                  have q185 : (156 : Int) ≤ ((t326.length : Int) : Int) := of_decide_eq_true (by first | (with_reducible assumption) | assumption)
                                  obtain ⟨i0185, hi0185, _, hsz185, _⟩ := info_parts info5
                                  have hroom185 : t326.length ≤ co186 := (Kd.R_reads' HO328.out).2.1
                                  have hC185 : Kd.C (Kd.int .u8) _ Ao186 t326.length t326 := (Kd.R_reads' HO328.out).2.2
                                  have ql185 : (148 : Int) ≤ (156 : Int) := (by omega)
                                  have hcut185 := cut_mid (P := Tryd.prog) 22 5 .i64 .i64 Tryd.underlying22 hi0185 1 hsz185 Ao186 t326.length co186 148 156 (by omega) ql185 q185 hroom185
                                  have hr185 := Kd.C_mid (lo := (148 : Int).toNat) (hi := (156 : Int).toNat) (c := co186) hC185 (by omega) (by omega) hroom185
                                  obtain ⟨A185, hA185⟩ : ∃ A1, A1 = (if co186 = (148 : Int).toNat then Ao186 else (Ao186 : Option Addr).map (·.add ((148 : Int).toNat * 1))) := ⟨_, rfl⟩
                                  obtain ⟨c185, hc185⟩ : ∃ c1, c1 = co186 - (148 : Int).toNat := ⟨_, rfl⟩
                                  have hy185 : y329.length = (156 : Int).toNat - (148 : Int).toNat := (by rw [Ny329.out, List.length_drop, List.length_take] <;> omega)
                                  rw [show ((t326).take (156 : Int).toNat).drop (148 : Int).toNat = y329 from Ny329.out.symm] at hr185
                                  replace hr185 : Kd.C (Kd.int .u8) _ A185 y329.length y329 := (by rw [hA185]; exact hr185)
                                  rw [← hy185, ← hA185, ← hc185] at hcut185
                                  have HR332 := Aside0.mk hr185
                                  have HC332 := Aside0.mk (show y329.length ≤ c185 from by rw [hy185, hc185]; exact Nat.sub_le_sub_right (Nat.le_trans (by omega) hroom185) _)
                                  clear hr185 hC185 hroom185 hi0185 hsz185 hc185
                                  have KY185 := Aside0.mk hy185
                                  have KA185 := Aside0.mk hA185
                                  clear hy185 hA185
                                  have KL185 := Aside0.mk (show 156 ≤ t326.length from by omega)
                                  have KM185 := Aside0.mk (show 148 ≤ 156 from by omega)
                                  replace q185 := eq_true q185
                                  refine hK.out _ _ trivial (fun hHeld => ?_)
                                  clear hK K
                                  refine norm_ (a' := ?_) ?_ ?_
                                  rotate_left
                                  · show Act.put _ (some 40) _ = _
                                    simp only [Act.put, List.setIfInBounds_toArray, List.set_cons_zero, List.set_cons_succ, i64_w, i32_w]
                                    rfl
                                  refine pure_ (i := 4) (N := some 41) (v := ?_) (a' := ?_) #[true, true, true, true, true, false] rfl rfl (by kernel_rfl) (fun _ _ _ h => h) (Or.inl ⟨by rfl, ?_⟩) ?_ ?_
                                  rotate_left
                                  · intro w'
                                    go_simp
                                    with_reducible rfl
                                  rotate_left
                                  · simp only [Act.put, List.setIfInBounds_toArray, List.set_cons_zero, List.set_cons_succ, i64_w, i32_w]
                                    rfl
                                  refine one_ (i := 5) (N := some 42) #[true, true, true, true, true, true] rfl rfl (by kernel_rfl) (by decide) (fun K hK => ?_)
                                  have hy8 : y329.length = 8 := by rw [KY185.out]; rfl
                                  have hdp : A60 = some ⟨go14, 148, none⟩ := by
                                    rw [KA60.out, if_neg (by have h1 := KR60.out; have h2 := KQ60.out; intro e; rw [e] at h1; have h3 : (148 : Int).toNat = 148 := rfl; omega)]; rfl
                                  refine copy_mid_step rfl (.tmp 38) (.tmp 41) rfl go14 co14 t323.length t323 y329 A185 c185 y329.length w.heap.size _ A60 n60 c60 HO325.out (by have h2 := KQ60.out; omega) (by rfl) hdp (by rw [KN60.out]; rfl) (by rfl) HR332.out hy8 hy8 ?_
                                  intro w41 hg ho
                                  rw [show (mid8 t323 y329) = y333 by rw [Ny333.out, Ny329.out]] at ho
                                  have n0_ := Aside0.mk (Kd.R_grown2 HO322.out rfl hg (fun k e h => by cases e; have h2 := HO322.out.1 go14 h.symm; simp [Value.ownBlock] at h2))
                                  have n1_ := Aside0.mk ho
                                  have n2_ := Aside0.mk (Kd.R_grown2 HO328.out rfl hg (fun k e h => by cases e; have h2 := HO328.out.1 go14 h.symm; simp [Value.ownBlock] at h2))
                                  have n3_ := Aside0.mk (blk_grown (g := gb318) (o := .cells #[.slice A0_0 l0_0.length c0_0, .slice A0_1 l0_1.length c0_1] 53 (0, 0)) BK318.out hg (Kd.R_ne HO325.out BK318.out (by decide)))
                                  have n4_ := Aside0.mk (HB.out.grown hg (below_size HB.out) (fun i e => by cases e; exact GB14.out))
                                  have n5_ := Aside0.mk (show Kd.C (Kd.int .u8) w41 A185 y329.length y329 from by rw [Ny329.out, KA185.out]; exact Kd.C_mid (lo := 148) (hi := 156) (c := co186) ((Kd.R_reads' n2_.out).2.2) KM185.out KL185.out ((Kd.R_reads' n2_.out).2.1))
                                  clear HO322 HO325 HO328 BK318 HB HR332 hg ho hdp hy8
                                  have HO322 := n0_
                                  have HO325 := n1_
                                  have HQ187 := n1_
                                  have HO328 := n2_
                                  have BK318 := n3_
                                  have HB := n4_
                                  have HR332 := n5_
                                  clear n0_ n1_ n2_ n3_ n4_ n5_
                                  refine hK.out _ _ trivial (fun hHeld => ?_)
                                  clear hK K
                                  refine norm_ (a' := ?_) ?_ ?_
                                  rotate_left
                                  · show Act.put _ (some 42) _ = _
                                    simp only [Act.put, List.setIfInBounds_toArray, List.set_cons_zero, List.set_cons_succ, i64_w, i32_w]
                                    rfl
                                  refine done_ (by kernel_rfl) ?_
                                  obtain ⟨Ao189, co189, eo189⟩ := Kd.R_slice HO322.out
                                  subst eo189
                                  try go_wp2_with (first | ((with_reducible refine gate_builtin (b := .append) (xs := #[.const (.slice none 0 0), .tmp 46]) rfl ?_); (try (refine gate_guard (by rfl) ?_; dsimp only)); at_builtin; refine Kd.R_append_rows (Kd.int .u8) (w0 := w) w.heap.size rfl (.const (.slice none 0 0)) (.tmp 46) 22 5 (.int .u8 0) 1 rfl Tryd.underlying22 info5 rfl (by decide) (by omega) (.slice none 0 0) ([] : List Int) t320 _ _ _ (fun k_ => some k_ ≠ (.slice Ao189 t320.length co189 : Value).ownBlock ∧ some k_ ≠ (.slice (some ⟨go14, 0, none⟩) t323.length co14 : Value).ownBlock ∧ some k_ ≠ (.slice Ao186 t326.length co186 : Value).ownBlock) (fun _ => False) rfl rfl ?aO ?aR (fun _ _ h => h) (fun _ h => h.elim) ?aF ?aB ?aS ?aL ?_; (case aR => refine (Kd.R_reads' (e := 5) (base := w.heap.size) (ok := fun k_ => ((True ∧ some k_ ≠ (.slice (some ⟨go14, 0, none⟩) t323.length co14 : Value).ownBlock) ∧ some k_ ≠ (.slice Ao186 t326.length co186 : Value).ownBlock)) (n := t320.length) (c := co189) ?_).2.2; exact (by (with_reducible repeat (first | apply Kd.R_alloc | apply Kd.R_drewN | apply Kd.R_drew)); exact HO322.out)); (case aB => exact (by repeat (first | (with_reducible first | exact HB.out | apply below_alloc | apply pw_below_drewN | apply below_drew1 | refine below_set ?_ GB14.out | refine below_set ?_ GE318.out) | exact HB.out))); (case aF => exact (fun k_ hk => ⟨Kd.fresh' (Kd.R_lt (by (with_reducible repeat (first | apply Kd.R_alloc | apply Kd.R_drewN | apply Kd.R_drew)); exact HO322.out)) k_ hk, Kd.fresh' (Kd.R_lt (by (with_reducible repeat (first | apply Kd.R_alloc | apply Kd.R_drewN | apply Kd.R_drew)); exact HQ187.out)) k_ hk, Kd.fresh' (Kd.R_lt (by (with_reducible repeat (first | apply Kd.R_alloc | apply Kd.R_drewN | apply Kd.R_drew)); exact HO328.out)) k_ hk⟩)); (case aO => exact ((Kd.R_nil _ _ _ _ (fun k_ => some k_ ≠ (.slice Ao189 t320.length co189 : Value).ownBlock ∧ some k_ ≠ (.slice (some ⟨go14, 0, none⟩) t323.length co14 : Value).ownBlock ∧ some k_ ≠ (.slice Ao186 t326.length co186 : Value).ownBlock)))); (case aS => exact (below_size (by repeat (first | (with_reducible first | exact HB.out | apply below_alloc | apply pw_below_drewN | apply below_drew1 | refine below_set ?_ GB14.out | refine below_set ?_ GE318.out) | exact HB.out)))); (case aL => have := LMc18.out; omega); intro v335 w188 ho hb hg hat; rw [← Ny334.out] at ho; have n0_ := Aside0.mk (blk_grown (g := gb318) (o := .cells #[.slice A0_0 l0_0.length c0_0, .slice A0_1 l0_1.length c0_1] 53 (0, 0)) (by (with_reducible repeat (first | refine blk_drewN ?_ _ | refine blk_drew ?_ | refine blk_alloc ?_ _)); (with_reducible repeat (first | refine blk_drewN ?_ _ | refine blk_drew ?_ | refine blk_alloc ?_ _)); exact BK318.out) hg (by simp [Value.ownBlock])); have n1_ := Aside0.mk (Kd.R_after (Kd.R_apart_nil (by (with_reducible repeat (first | apply Kd.R_alloc | apply Kd.R_drewN | apply Kd.R_drew)); exact HO322.out)) hg hat); have n2_ := Aside0.mk (Kd.R_after (Kd.R_apart_nil (by (with_reducible repeat (first | apply Kd.R_alloc | apply Kd.R_drewN | apply Kd.R_drew)); exact HQ187.out)) hg hat); have n3_ := Aside0.mk (Kd.R_after (Kd.R_apart_nil (by (with_reducible repeat (first | apply Kd.R_alloc | apply Kd.R_drewN | apply Kd.R_drew)); exact HO328.out)) hg hat); have n4_ := Aside0.mk (hb); have n5_ := Aside0.mk ((show Kd.C (Kd.int .u8) w188 A185 y329.length y329 from by rw [Ny329.out, KA185.out]; exact Kd.C_mid (lo := 148) (hi := 156) (c := co186) ((Kd.R_reads' (Kd.R_after (Kd.R_apart_nil (by (with_reducible repeat (first | apply Kd.R_alloc | apply Kd.R_drewN | apply Kd.R_drew)); exact HO328.out)) hg hat)).2.2) KM185.out KL185.out ((Kd.R_reads' (Kd.R_after (Kd.R_apart_nil (by (with_reducible repeat (first | apply Kd.R_alloc | apply Kd.R_drewN | apply Kd.R_drew)); exact HO328.out)) hg hat)).2.1))); have n6_ := Aside0.mk (ho); clear BK318; clear HO322; clear HO325; clear HO328; clear HB; clear HR332; have BK318 := n0_; have HO322 := n1_; have HO325 := n2_; have HO328 := n3_; have HB := n4_; have HR332 := n5_; have HO336 := n6_; clear n0_ n1_ n2_ n3_ n4_ n5_ n6_; clear ho hb hg hat; have p22 : 0 ≤ ((ji19) : Int) := of_decide_eq_true (by first | (with_reducible assumption) | assumption); have q22 : ((ji19) : Int) < ((y334.length : Int) : Int) := of_decide_eq_true (by first | (with_reducible assumption) | assumption); obtain ⟨go22, co22, eo22, gb22, gl22, cl22, HG22⟩ := Kd.R_form HO336.out (by omega); (first | cases eo22 | (injection eo22 with ea_ en_ ec_; (first | subst ea_ | (injection ea_ with ea_; subst ea_)); subst ec_; clear en_)); have GB22 := Aside0.mk gb22; have GG22 := Aside0.mk HG22; clear gb22 gl22 HG22; obtain ⟨hx22_0, hf22_0⟩ := Kd.R_celln 0 HO336.out ((ji19) : Int) p22 q22; replace p22 := eq_true p22; replace q22 := eq_true q22; obtain ⟨hy190_, hz190_⟩ := Kd.R_celln 0 HO336.out ((ji19) : Int) (of_decide_eq_true (by first | (with_reducible assumption) | assumption)) (of_decide_eq_true (by first | (with_reducible assumption) | assumption)); have HP190 := Kd.R_putg HO336.out ((ji19) : Int) a2) | ((with_reducible refine gate_store (t := 5) (p := 51) rfl ?_); refine store_event (t := 5) (p := 51) (v := ?vo_w191) (w1 := (w188.setCell ⟨go22, ((ji19) : Int).toNat, none⟩ (.int .u8 a2))) ?hg ?ho ?hn ?hr ?_; (case ho => rfl); (case hg => rfl); (case hn => rfl); (case hr => first | (go_simp; done) | (go_simp; rfl)); intro w191 hw; have hg : w188.grownBy w191 (some go22) := (by rw [hw]; exact HP190.2); have hp_ : Kd.R (Kd.int .u8) 5 w191 w.heap.size (fun k_ => some k_ ≠ (.slice Ao189 t320.length co189 : Value).ownBlock ∧ some k_ ≠ (.slice (some ⟨go14, 0, none⟩) t323.length co14 : Value).ownBlock ∧ some k_ ≠ (.slice Ao186 t326.length co186 : Value).ownBlock) (.slice (some ⟨go22, 0, none⟩) y334.length co22) y337 := (by rw [hw, Ny337.out]; exact HP190.1); clear HP190; have n0_ := Aside0.mk (blk_grown (g := gb318) (o := .cells #[.slice A0_0 l0_0.length c0_0, .slice A0_1 l0_1.length c0_1] 53 (0, 0)) (by (with_reducible repeat (first | refine blk_drewN ?_ _ | refine blk_drew ?_ | refine blk_alloc ?_ _)); exact BK318.out) hg (Kd.R_ne HO336.out BK318.out (by decide))); have n1_ := Aside0.mk (Kd.R_after (v := (.slice (some ⟨go22, 0, none⟩) y334.length co22)) (v1 := (.slice (some ⟨go22, 0, none⟩) y334.length co22)) (ok := (fun k_ => some k_ ≠ (.slice (some ⟨go14, 0, none⟩) t323.length co14 : Value).ownBlock ∧ some k_ ≠ (.slice Ao186 t326.length co186 : Value).ownBlock)) (by (with_reducible repeat (first | apply Kd.R_alloc | apply Kd.R_drewN | apply Kd.R_drew)); exact Kd.R_mono HO322.out (fun _ hk => ⟨⟨hk.1.1.2, hk.1.2⟩, hk.2⟩)) hg (.inl rfl)); have n2_ := Aside0.mk (Kd.R_after (v := (.slice (some ⟨go22, 0, none⟩) y334.length co22)) (v1 := (.slice (some ⟨go22, 0, none⟩) y334.length co22)) (ok := (fun k_ => some k_ ≠ (.slice Ao189 t320.length co189 : Value).ownBlock ∧ some k_ ≠ (.slice Ao186 t326.length co186 : Value).ownBlock)) (by (with_reducible repeat (first | apply Kd.R_alloc | apply Kd.R_drewN | apply Kd.R_drew)); exact Kd.R_mono HO325.out (fun _ hk => ⟨⟨hk.1.1.2, hk.1.2⟩, hk.2⟩)) hg (.inl rfl)); have n3_ := Aside0.mk (Kd.R_after (v := (.slice (some ⟨go22, 0, none⟩) y334.length co22)) (v1 := (.slice (some ⟨go22, 0, none⟩) y334.length co22)) (ok := (fun k_ => some k_ ≠ (.slice Ao189 t320.length co189 : Value).ownBlock ∧ some k_ ≠ (.slice (some ⟨go14, 0, none⟩) t323.length co14 : Value).ownBlock)) (by (with_reducible repeat (first | apply Kd.R_alloc | apply Kd.R_drewN | apply Kd.R_drew)); exact Kd.R_mono HO328.out (fun _ hk => ⟨⟨hk.1.1.2, hk.1.2⟩, hk.2⟩)) hg (.inl rfl)); have n4_ := Aside0.mk (hp_); have n5_ := Aside0.mk ((by rw [hw]; exact below_set (HB.out) GB22.out : Below w.heap.size w w191)); have n6_ := Aside0.mk ((show Kd.C (Kd.int .u8) w191 A185 y329.length y329 from by rw [Ny329.out, KA185.out]; exact Kd.C_mid (lo := 148) (hi := 156) (c := co186) ((Kd.R_reads' (Kd.R_after (v := (.slice (some ⟨go22, 0, none⟩) y334.length co22)) (v1 := (.slice (some ⟨go22, 0, none⟩) y334.length co22)) (ok := (fun k_ => some k_ ≠ (.slice Ao189 t320.length co189 : Value).ownBlock ∧ some k_ ≠ (.slice (some ⟨go14, 0, none⟩) t323.length co14 : Value).ownBlock)) (by (with_reducible repeat (first | apply Kd.R_alloc | apply Kd.R_drewN | apply Kd.R_drew)); exact Kd.R_mono HO328.out (fun _ hk => ⟨⟨hk.1.1.2, hk.1.2⟩, hk.2⟩)) hg (.inl rfl))).2.2) KM185.out KL185.out ((Kd.R_reads' (Kd.R_after (v := (.slice (some ⟨go22, 0, none⟩) y334.length co22)) (v1 := (.slice (some ⟨go22, 0, none⟩) y334.length co22)) (ok := (fun k_ => some k_ ≠ (.slice Ao189 t320.length co189 : Value).ownBlock ∧ some k_ ≠ (.slice (some ⟨go14, 0, none⟩) t323.length co14 : Value).ownBlock)) (by (with_reducible repeat (first | apply Kd.R_alloc | apply Kd.R_drewN | apply Kd.R_drew)); exact Kd.R_mono HO328.out (fun _ hk => ⟨⟨hk.1.1.2, hk.1.2⟩, hk.2⟩)) hg (.inl rfl))).2.1))); clear BK318; clear HO322; clear HO325; clear HO328; clear HO336; clear HB; clear HR332; have BK318 := n0_; have HO322 := n1_; have HO325 := n2_; have HO328 := n3_; have HO336 := n4_; have HB := n5_; have HR332 := n6_; clear n0_ n1_ n2_ n3_ n4_ n5_ n6_; clear hg hw hp_) | ((with_reducible refine gate_callee (f := 26) rfl ?_); refine goesL_ (some 54) rfl rfl Tryd.func26 (by kernel_rfl) rfl #[.slice Ao189 t320.length co189] rfl (by (try simp only [List.map_toArray, List.map_cons, List.map_nil]); first | done | rfl | (simp only [List.length_drop, List.length_take]; rfl)) ?_; (with_reducible refine (hsum_Sum.calls kj3 _ _ t320 t338 t339 _ ?side1 ?side2 A23.out).mono ?_); (case side1 => repeat (first | exact (Kd.R_reads' HO322.out).2.2 | (with_reducible refine Kd.C_alloc ?_ _) | (with_reducible refine Kd.C_drewN ?_ _) | (with_reducible refine Kd.C_drew ?_))); (case side2 => exact (Kd.R_reads' HO322.out).2.1); rintro e w' ⟨rfl, ⟨nd, rfl⟩⟩; refine ⟨_, rfl, ?_⟩) | ((with_reducible refine gate_callee (f := 26) rfl ?_); refine goesL_ (some 59) rfl rfl Tryd.func26 (by kernel_rfl) rfl #[.slice (some ⟨go14, 0, none⟩) y333.length co14] rfl (by (try simp only [List.map_toArray, List.map_cons, List.map_nil]); first | done | (rw [show y333.length = t323.length from (Kd.R_reads' HO325.out).1.symm] <;> rfl) | rfl | (simp only [List.length_drop, List.length_take]; rfl)) ?_; (with_reducible refine (hsum_Sum.calls kj3 _ _ y333 t340 t341 _ ?side1 ?side2 A24.out).mono ?_); (case side1 => repeat (first | exact (Kd.R_reads' HO325.out).2.2 | (with_reducible refine Kd.C_alloc ?_ _) | (with_reducible refine Kd.C_drewN ?_ _) | (with_reducible refine Kd.C_drew ?_))); (case side2 => rw [show y333.length = t323.length from (Kd.R_reads' HO325.out).1.symm]; exact (Kd.R_reads' HO325.out).2.1); rintro e w' ⟨rfl, ⟨nd, rfl⟩⟩; refine ⟨_, rfl, ?_⟩) | ((with_reducible refine gate_callee (f := 26) rfl ?_); refine goesL_ (some 64) rfl rfl Tryd.func26 (by kernel_rfl) rfl #[.slice (some ⟨go22, 0, none⟩) y337.length co22] rfl (by (try simp only [List.map_toArray, List.map_cons, List.map_nil]); first | done | (rw [show y337.length = y334.length from (Kd.R_reads' HO336.out).1.symm] <;> rfl) | rfl | (simp only [List.length_drop, List.length_take]; rfl)) ?_; (with_reducible refine (hsum_Sum.calls kj3 _ _ y337 t342 t343 _ ?side1 ?side2 A25.out).mono ?_); (case side1 => repeat (first | exact (Kd.R_reads' HO336.out).2.2 | (with_reducible refine Kd.C_alloc ?_ _) | (with_reducible refine Kd.C_drewN ?_ _) | (with_reducible refine Kd.C_drew ?_))); (case side2 => rw [show y337.length = y334.length from (Kd.R_reads' HO336.out).1.symm]; exact (Kd.R_reads' HO336.out).2.1); rintro e w' ⟨rfl, ⟨nd, rfl⟩⟩; refine ⟨_, rfl, ?_⟩; have p344 : 0 ≤ ((ji19) : Int) := of_decide_eq_true (by first | (with_reducible assumption) | assumption); have q344 : (ji19) < (t320.length : Int) := of_decide_eq_true (by first | (with_reducible assumption) | assumption); obtain ⟨ad344, e344, hx344_0⟩ := Kd.at_int (Kd.R_reads' HO322.out).2.2 (ji19) p344 q344; cases e344; replace p344 := eq_true p344; replace q344 := eq_true q344) | (go_at_call 24; (with_reducible refine (thwartlaw03_alive.calls kj3  t347 _ A180.out).mono ?_); rintro e w192 ⟨rfl, hb⟩; have n0_ := Aside0.mk (Kd.R_below (by (with_reducible repeat (first | apply Kd.R_alloc | apply Kd.R_drewN | apply Kd.R_drew)); exact HO322.out) hb); have n1_ := Aside0.mk (Kd.R_below (by (with_reducible repeat (first | apply Kd.R_alloc | apply Kd.R_drewN | apply Kd.R_drew)); exact HO325.out) hb); have n2_ := Aside0.mk (Kd.R_below (by (with_reducible repeat (first | apply Kd.R_alloc | apply Kd.R_drewN | apply Kd.R_drew)); exact HO328.out) hb); have n3_ := Aside0.mk (Kd.R_below (by (with_reducible repeat (first | apply Kd.R_alloc | apply Kd.R_drewN | apply Kd.R_drew)); exact HO336.out) hb); have n4_ := Aside0.mk (blk_below (g := gb318) (o := .cells #[.slice A0_0 l0_0.length c0_0, .slice A0_1 l0_1.length c0_1] 53 (0, 0)) (by (with_reducible repeat (first | refine blk_drewN ?_ _ | refine blk_drew ?_ | refine blk_alloc ?_ _)); exact BK318.out) hb); have n5_ := Aside0.mk (Kd.C_below (by repeat (first | (with_reducible exact HR332.out) | (with_reducible refine Kd.C_alloc ?_ _) | (with_reducible refine Kd.C_drewN ?_ _) | (with_reducible refine Kd.C_drew ?_) | exact HR332.out)) hb); have n6_ := Aside0.mk (below_step (by repeat (first | (with_reducible first | exact HB.out | apply below_alloc | apply pw_below_drewN | apply below_drew1 | refine below_set ?_ GE318.out) | exact HB.out)) hb); clear HO322; clear HO325; clear HO328; clear HO336; clear BK318; clear HR332; clear HB; have HO322 := n0_; have HO325 := n1_; have HO328 := n2_; have HO336 := n3_; have BK318 := n4_; have HR332 := n5_; have HB := n6_; clear n0_ n1_ n2_ n3_ n4_ n5_ n6_; (try clear hb); (try clear hb2); (try clear hk); (try clear hi)))
                                  go_ret
                                  exact ⟨by first | rfl | (simp [errW_none, errW_some] <;> rfl) | (simp only [← hji19]; first | rfl | (simp [errW_none, errW_some] <;> rfl)) | (simp [*, errW_none, errW_some] <;> rfl), by repeat (first | (with_reducible first | exact HB.out | apply below_alloc | apply pw_below_drewN | apply below_drew1 | refine below_set ?_ GE318.out) | exact HB.out)⟩
                                · rw [if_neg c179] at H
                                  have c179b0 : (t343 == 0) = false := beq_eq_false_iff_ne.mpr c179
                                  have c179b1 : (t343 != 0) = true := bne_iff_ne.mpr c179
                                  obtain rfl := Option.some.inj H
                                  exact absurd HRT.out (by decide)
                              · rw [if_neg c178] at H
                                have c178b0 : (t341 == 0) = false := beq_eq_false_iff_ne.mpr c178
                                have c178b1 : (t341 != 0) = true := bne_iff_ne.mpr c178
                                obtain rfl := Option.some.inj H
                                exact absurd HRT.out (by decide)
                            · rw [if_neg c177] at H
                              have c177b0 : (t339 == 0) = false := beq_eq_false_iff_ne.mpr c177
                              have c177b1 : (t339 != 0) = true := bne_iff_ne.mpr c177
                              obtain rfl := Option.some.inj H
                              exact absurd HRT.out (by decide)
                          · rw [if_neg c176] at H
                            have c176b0 : (t342 == (wrap64 ((wrap64 (t338 + (wrap64 (a2)))) - (wrap64 (rd t320 (ji19)))))) = false := beq_eq_false_iff_ne.mpr c176
                            have c176b1 : (t342 != (wrap64 ((wrap64 (t338 + (wrap64 (a2)))) - (wrap64 (rd t320 (ji19)))))) = true := bne_iff_ne.mpr c176
                            obtain rfl := Option.some.inj H
                            exact absurd HRT.out (by decide)
                        · rw [if_neg c175] at H
                          have c175b0 : (t338 == t340) = false := beq_eq_false_iff_ne.mpr c175
                          have c175b1 : (t338 != t340) = true := bne_iff_ne.mpr c175
                          obtain rfl := Option.some.inj H
                          exact absurd HRT.out (by decide)
                    · rw [if_neg c26] at H
                      exact absurd H (by simp)
                  · rw [if_neg c21] at H
                    exact absurd H (by simp)
                · rw [if_neg c20] at H
                  exact absurd H (by simp)
              · rw [if_neg c18] at H
                exact absurd H (by simp)
            · rw [if_neg c17] at H
              exact absurd H (by simp)
          · rw [if_neg c16] at H
            exact absurd H (by simp)
        · rw [if_neg c13] at H
          exact absurd H (by simp)

end Go.Proofs.YtpjanlpjjemenaaDoor.P
