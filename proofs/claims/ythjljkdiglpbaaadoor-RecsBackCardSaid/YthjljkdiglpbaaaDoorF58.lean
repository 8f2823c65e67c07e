-- Written by xprint.py (a program of this session's, over the kit's printer) out of the translation. Not trusted: Lean checks it.
import Derived.Test.YthjljkdiglpbaaaDoorF0base
import Derived.Test.YthjljkdiglpbaaaDoorHRecs4
namespace Go.Proofs.YthjljkdiglpbaaaDoor.P
open Go.RowKit Go.Proofs.YthjljkdiglpbaaaDoorW.PrintWords Go.Proofs.YthjljkdiglpbaaaDoorW.PrintLast Go.Proofs.YthjljkdiglpbaaaDoorW.PrintMore Go.Proofs.YthjljkdiglpbaaaDoor.Hand
attribute [local go_sem] max2_int min2_int max_two min_two max_three min_three max_four min_four   -- for this text's walks alone
set_option linter.unusedVariables false
set_option linter.unusedSimpArgs false

/-! ### recs_length: function 58 -/
mutual
def recs_length.j0 : Nat → List Int → Bool → Option (Int × Int)
  | 0, _, _ => none
  | k + 1, x4, x35 => if x35 = true then (some (0, 0)) else (recs_length.l0 k x4 0 x4 (x4.length : Int) 0)
def recs_length.l0 : Nat → List Int → Int → List Int → Int → Int → Option (Int × Int)
  | 0, _, _, _, _, _ => none
  | k + 1, x4, x7, x36, x37, x38 => if x38 < x37 then (if 0 ≤ x38 then (if x38 < (x36.length : Int) then (if (rd x36 x38) < 48 then (some (0, 0)) else (if (rd x36 x38) > 57 then (some (0, 0)) else (recs_length.l0 k x4 (wrap64 ((wrap64 (x7 * 10)) + (((rd x36 x38) - 48) % 256))) x36 x37 (wrap64 (x38 + 1))))) else (none)) else (none)) else (some (x7, (x4.length : Int)))
end
def recs_length.f (k : Nat) (l0 : List Int) : Option (Int × Int) := (bytes_Cut1.f l0).bind fun bt101 => (if 0 ≤ bt101.1 then (if bt101.1 ≤ (l0.length : Int) then (if bt101.2 = true then (if ((l0.take (bt101.1 : Int).toNat).length : Int) = 0 then (recs_length.j0 k (l0.take (bt101.1 : Int).toNat) true) else (if ((l0.take (bt101.1 : Int).toNat).length : Int) > 4 then (recs_length.j0 k (l0.take (bt101.1 : Int).toNat) true) else (if 0 < ((l0.take (bt101.1 : Int).toNat).length : Int) then (recs_length.j0 k (l0.take (bt101.1 : Int).toNat) ((rd (l0.take (bt101.1 : Int).toNat) 0) == 48)) else (none)))) else (recs_length.j0 k (l0.take (bt101.1 : Int).toNat) true)) else (none)) else (none))
theorem recs_length.mono_l : ∀ k, (∀ y0 y1, LeO (recs_length.j0 k y0 y1) (recs_length.j0 (k + 1) y0 y1)) ∧ (∀ y0 y1 y2 y3 y4, LeO (recs_length.l0 k y0 y1 y2 y3 y4) (recs_length.l0 (k + 1) y0 y1 y2 y3 y4))
  | 0 => ⟨fun _ _ r h => by simp [recs_length.j0] at h, fun _ _ _ _ _ r h => by simp [recs_length.l0] at h⟩
  | k + 1 => by
    obtain ⟨ih0, ih1⟩ := recs_length.mono_l k
    refine ⟨?_, ?_⟩
    · intro y0 y1
      unfold recs_length.j0
      repeat' first
      | (with_reducible exact ih0 _ _)
      | (with_reducible exact ih1 _ _ _ _ _)
      | (with_reducible exact LeO.refl _)
      | (with_reducible exact LeO.none _)
      | (with_reducible refine LeO.ite ?_ ?_)
      | (with_reducible refine LeO.bind ?_ (fun _ => ?_))
      | exact ih0 _ _
      | exact ih1 _ _ _ _ _
      | exact LeO.none _
      | refine LeO.ite ?_ ?_
      | refine LeO.bind ?_ (fun _ => ?_)
    · intro y0 y1 y2 y3 y4
      unfold recs_length.l0
      repeat' first
      | (with_reducible exact ih0 _ _)
      | (with_reducible exact ih1 _ _ _ _ _)
      | (with_reducible exact LeO.refl _)
      | (with_reducible exact LeO.none _)
      | (with_reducible refine LeO.ite ?_ ?_)
      | (with_reducible refine LeO.bind ?_ (fun _ => ?_))
      | exact ih0 _ _
      | exact ih1 _ _ _ _ _
      | exact LeO.none _
      | refine LeO.ite ?_ ?_
      | refine LeO.bind ?_ (fun _ => ?_)
theorem recs_length.mono : ∀ a0 k, LeO (recs_length.f k a0) (recs_length.f (k + 1) a0) := by
  intro a0 k
  obtain ⟨ih0, ih1⟩ := recs_length.mono_l k
  unfold recs_length.f
  repeat' first
      | (with_reducible exact ih0 _ _)
      | (with_reducible exact ih1 _ _ _ _ _)
      | (with_reducible exact LeO.refl _)
      | (with_reducible exact LeO.none _)
      | (with_reducible refine LeO.ite ?_ ?_)
      | (with_reducible refine LeO.bind ?_ (fun _ => ?_))
      | exact ih0 _ _
      | exact ih1 _ _ _ _ _
      | exact LeO.none _
      | refine LeO.ite ?_ ?_
      | refine LeO.bind ?_ (fun _ => ?_)
set_option maxHeartbeats 8000000 in
set_option maxRecDepth 100000 in
theorem recs_length.calls (k : Nat) (A0 : Option Addr) (c0 : Nat) (l0 : List Int) (r1 : Int) (r2 : Int) (w : World) (hr0 : Kd.C (Kd.int .u8) w A0 l0.length l0) (hc0 : l0.length ≤ c0) (h : recs_length.f k l0 = some (r1, r2)) :
    Calls Tryd.prog 58 #[.slice A0 l0.length c0] w fun e w' => e = .returned (.tuple #[.int .i64 r1, .int .i64 r2]) ∧ Below w.heap.size w w' := by
  have HR0 := Aside0.mk hr0
  have HC0 := Aside0.mk hc0
  clear hr0 hc0
  have HB := Aside0.mk (Below.refl w.heap.size w)
  have H : ((bytes_Cut1.f l0).bind fun bt101 => (if 0 ≤ bt101.1 then (if bt101.1 ≤ (l0.length : Int) then (if bt101.2 = true then (if ((l0.take (bt101.1 : Int).toNat).length : Int) = 0 then (recs_length.j0 k (l0.take (bt101.1 : Int).toNat) true) else (if ((l0.take (bt101.1 : Int).toNat).length : Int) > 4 then (recs_length.j0 k (l0.take (bt101.1 : Int).toNat) true) else (if 0 < ((l0.take (bt101.1 : Int).toNat).length : Int) then (recs_length.j0 k (l0.take (bt101.1 : Int).toNat) ((rd (l0.take (bt101.1 : Int).toNat) 0) == 48)) else (none)))) else (recs_length.j0 k (l0.take (bt101.1 : Int).toNat) true)) else (none)) else (none))) = some (r1, r2) := h
  clear h
  replace H := Option.bind_eq_some_iff.mp H
  obtain ⟨⟨t101, t102⟩, A20, H⟩ := H
  replace H : (if 0 ≤ t101 then (if t101 ≤ (l0.length : Int) then (if t102 = true then (if ((l0.take (t101 : Int).toNat).length : Int) = 0 then (recs_length.j0 k (l0.take (t101 : Int).toNat) true) else (if ((l0.take (t101 : Int).toNat).length : Int) > 4 then (recs_length.j0 k (l0.take (t101 : Int).toNat) true) else (if 0 < ((l0.take (t101 : Int).toNat).length : Int) then (recs_length.j0 k (l0.take (t101 : Int).toNat) ((rd (l0.take (t101 : Int).toNat) 0) == 48)) else (none)))) else (recs_length.j0 k (l0.take (t101 : Int).toNat) true)) else (none)) else (none)) = some (r1, r2) := H
  have A2 := Aside0.mk A20
  clear A20
  by_cases c3 : 0 ≤ t101
  · rw [if_pos c3] at H
    have c3b0 := eq_true c3
    have c3b1 : decide (0 ≤ t101) = true := decide_eq_true c3
    clear c3
    by_cases c4 : t101 ≤ (l0.length : Int)
    · rw [if_pos c4] at H
      have c4b0 := eq_true c4
      have c4b1 : decide (t101 ≤ (l0.length : Int)) = true := decide_eq_true c4
      clear c4
      obtain ⟨y, hy⟩ : ∃ y, y = l0.take (t101 : Int).toNat := ⟨_, rfl⟩
      rw [← hy] at H
      have HY := Aside0.mk hy
      clear hy
      have HC5 := Aside0.mk H
      clear H
      go_enter Tryd.func58, Tryd.ntmps58
      have kc := Lib.run_convert_bytes_const (P := Tryd.prog) w 22 5 #[.int .u8 32] 1 1 Tryd.underlying22 Tryd.underlying5
      go_upto_region 2 with ((with_reducible refine gate_callee (f := 81) rfl ?_); refine goesL_ (some 14) rfl rfl Tryd.func81 (by kernel_rfl) rfl #[.slice A0 l0.length c0, .slice (some ⟨w.heap.size, 0, none⟩) 1 1] rfl (by (try simp only [List.map_toArray, List.map_cons, List.map_nil]); first | done | rfl) ?_; (with_reducible refine (bytes_Cut1.at A0 c0 l0 t101 t102 w.heap.size 1 _ (Kd.C_alloc HR0.out _) HC0.out (cell_marked w (.int .u8 32) 5 (1, 2)) A2.out).mono ?_); rintro e w6 ⟨x5_, rfl, hb⟩; rw [← HY.out]; refine ⟨_, rfl, ?_⟩; have n0_ := Aside0.mk (((Below.refl w.heap.size w).alloc (Nat.le_refl _) (.cells #[.int .u8 32] 5 (1, 2))).trans (hb.mono (by simp))); clear HB hb; have HB := n0_; clear n0_; obtain ⟨i07, hi07, _, hsz7, _⟩ := info_parts info5; obtain ⟨hcut7, hA7, hC7⟩ := print_take_of (P := Tryd.prog) (Value.int .u8) 0 22 5 .i64 Tryd.underlying22 hi07 hsz7 A0 c0 l0 t101 (of_decide_eq_true (by first | (with_reducible assumption) | assumption)) (of_decide_eq_true (by first | (with_reducible assumption) | assumption)) HC0.out; have HR103 := Aside0.mk (Kd.C_of_reads (h1 := fun _ => rfl) (hA7 _ (Kd.reads_of_C HR0.out))); have HC103 := Aside0.mk hC7; rw [← HY.out] at HR103 HC103; clear hA7 hC7 hi07 hsz7)
      (try simp only [Act.put, List.setIfInBounds_toArray, List.set_cons_zero, List.set_cons_succ])
      go_cut [35] (fun v35 wc => ∃ (kq : Nat) (x35_4 : Bool), v35 = .bool x35_4 ∧ Aside0 (recs_length.j0 kq y x35_4 = some (r1, r2)) ∧ Aside0 (kq ≤ k) ∧ Aside0 (Below w.heap.size w wc))
      case first =>
        have H := HC5.out
        clear HC5
        by_cases c8 : t102 = true
        · subst c8
          have H1 : (if (y.length : Int) = 0 then (recs_length.j0 k y true) else (if (y.length : Int) > 4 then (recs_length.j0 k y true) else (if 0 < (y.length : Int) then (recs_length.j0 k y ((rd y 0) == 48)) else (none)))) = some (r1, r2) := by rw [if_pos rfl] at H; exact H
          clear H
          have H := H1
          clear H1
          by_cases c9 : (y.length : Int) = 0
          · rw [if_pos c9] at H
            have c9b0 : ((y.length : Int) == 0) = true := beq_iff_eq.mpr c9
            have c9b1 : ((y.length : Int) != 0) = false := bne_eq_false_iff_eq.mpr c9
            clear c9
            (first | rw [c9b0] | (simp only [i64_w, i32_w]; rw [c9b0]) | skip)
            have H' := Aside0.mk H
            clear H
            go_wp2
            go_meet
            case rel => exact ⟨_, (true), (by first | rfl | (simp; done) | (simp [*]; done)), H', ⟨by first | omega | exact Nat.le_refl _⟩, ⟨by repeat (first | (with_reducible first | exact HB.out | apply below_alloc | apply pw_below_drewN | apply below_drew1) | exact HB.out)⟩⟩
          · rw [if_neg c9] at H
            have c9b0 : ((y.length : Int) == 0) = false := beq_eq_false_iff_ne.mpr c9
            have c9b1 : ((y.length : Int) != 0) = true := bne_iff_ne.mpr c9
            have c9b2 : ¬ (y = []) := fun h_ => c9 (by rw [h_]; rfl)
            (first | rw [c9b0] | (simp only [i64_w, i32_w]; rw [c9b0]) | skip)
            by_cases c10 : (y.length : Int) > 4
            · rw [if_pos c10] at H
              have c10b0 : decide (4 < (y.length : Int)) = true := decide_eq_true c10
              have c10b1 : decide (4 < y.length) = true := decide_eq_true (by omega)
              clear c10
              have H' := Aside0.mk H
              clear H
              go_wp2
              go_meet
              case rel => exact ⟨_, (true), (by first | rfl | (simp; done) | (simp [*]; done)), H', ⟨by first | omega | exact Nat.le_refl _⟩, ⟨by repeat (first | (with_reducible first | exact HB.out | apply below_alloc | apply pw_below_drewN | apply below_drew1) | exact HB.out)⟩⟩
            · rw [if_neg c10] at H
              have c10b0 : decide (4 < (y.length : Int)) = false := decide_eq_false c10
              have c10b1 : decide (4 < y.length) = false := decide_eq_false (by omega)
              clear c10
              by_cases c11 : 0 < (y.length : Int)
              · rw [if_pos c11] at H
                have c11b0 : decide (0 < (y.length : Int)) = true := decide_eq_true c11
                have c11b1 : decide (0 < y.length) = true := decide_eq_true (by omega)
                clear c11
                have H' := Aside0.mk H
                clear H
                have p104 : 0 ≤ (0 : Int) := (by omega)
                have q104 : 0 < (y.length : Int) := of_decide_eq_true (by first | (with_reducible assumption) | assumption)
                obtain ⟨ad104, e104, hx104_0⟩ := Kd.at_int HR103.out 0 p104 q104
                cases e104
                have qi104 : (0 < y.length) = True := eq_true (by omega)
                (try rw [show ((0 : Int)).toNat = 0 from rfl] at hx104_0)
                (try rw [Addr.add_zero'] at hx104_0)
                replace hx104_0 := (HB.out.cell (World.block_lt_of_cell? w _ hx104_0)).trans hx104_0
                replace p104 := eq_true p104
                replace q104 := eq_true q104
                go_wp2
                go_meet
                case rel => exact ⟨_, (((rd y 0) == 48)), (by first | rfl | (simp; done) | (simp [*]; done)), H', ⟨by first | omega | exact Nat.le_refl _⟩, ⟨by repeat (first | (with_reducible first | exact HB.out | apply below_alloc | apply pw_below_drewN | apply below_drew1) | exact HB.out)⟩⟩
              · rw [if_neg c11] at H
                exact absurd H (by simp)
        · replace c8 := Bool.eq_false_iff.mpr c8
          subst c8
          have H1 : (recs_length.j0 k y true) = some (r1, r2) := by rw [if_neg (show ¬ (false = true) by decide)] at H; exact H
          clear H
          have H := H1
          clear H1
          have H' := Aside0.mk H
          clear H
          go_wp2
          go_meet
          case rel => exact ⟨_, (true), (by first | rfl | (simp; done) | (simp [*]; done)), H', ⟨by first | omega | exact Nat.le_refl _⟩, ⟨by repeat (first | (with_reducible first | exact HB.out | apply below_alloc | apply pw_below_drewN | apply below_drew1) | exact HB.out)⟩⟩
      case rest =>
        clear HC5
        try clear c1
        try clear p1
        try clear q1
        try clear hx1
        try clear qi1
        try clear p2
        try clear c3
        try clear c3b0
        try clear c3b1
        try clear c4
        try clear c4b0
        try clear c4b1
        try clear c5
        try clear c8
        try clear c9
        try clear c9b0
        try clear c9b1
        try clear c9b2
        try clear c10
        try clear c10b0
        try clear c10b1
        try clear p10
        try clear q10
        try clear hx10
        try clear qi10
        try clear c11
        try clear c11b0
        try clear c11b1
        try clear hx104_0
        try clear p104
        try clear q104
        obtain ⟨kq, x35_4, rfl, HA, HJ4, HB⟩ := hcut
        cases kq with
        | zero => exact absurd HA.out (by simp [recs_length.j0])
        | succ kj4 =>
          have H := HA.out
          clear HA
          simp only [recs_length.j0] at H
          by_cases c12 : x35_4 = true
          · subst c12
            have H1 : (some (0, 0)) = some (r1, r2) := by rw [if_pos rfl] at H; exact H
            clear H
            have H := H1
            clear H1
            simp only [Option.some.injEq, Prod.mk.injEq] at H
            obtain ⟨rfl, rfl⟩ := H
            go_wp2
            go_ret2
            exact ⟨by first | rfl | (simp [errW_none, errW_some] <;> rfl) | (simp [*, errW_none, errW_some] <;> rfl), by repeat (first | (with_reducible first | exact HB.out | apply below_alloc | apply pw_below_drewN | apply below_drew1) | exact HB.out)⟩
          · replace c12 := Bool.eq_false_iff.mpr c12
            subst c12
            have H1 : (recs_length.l0 kj4 y 0 y (y.length : Int) 0) = some (r1, r2) := by rw [if_neg (show ¬ (false = true) by decide)] at H; exact H
            clear H
            have H := H1
            clear H1
            have H' := Aside0.mk H
            clear H
            go_wp2
            go_loopg [7, 38] kj4 (fun kq v7 v38 w' => ∃ (x7_2 : Int) (x38_2 : Int), v7 = .int .i64 x7_2 ∧ v38 = .int .i64 x38_2 ∧ Aside0 (recs_length.l0 kq y x7_2 y (y.length : Int) x38_2 = some (r1, r2)) ∧ Aside0 (kq ≤ kj4) ∧ Aside0 (Below w.heap.size w w'))
            case atStart => exact ⟨(0), (0), (by first | rfl | (simp; done) | (simp [*]; done)), (by first | rfl | (simp; done) | (simp [*]; done)), H', ⟨Nat.le_refl _⟩, ⟨by repeat (first | (with_reducible first | exact HB.out | apply below_alloc | apply pw_below_drewN | apply below_drew1) | exact HB.out)⟩⟩
            case round =>
              clear H'
              try clear c1
              try clear p1
              try clear q1
              try clear hx1
              try clear qi1
              try clear p2
              try clear c3
              try clear c3b0
              try clear c3b1
              try clear c4
              try clear c4b0
              try clear c4b1
              try clear c5
              try clear c8
              try clear c9
              try clear c9b0
              try clear c9b1
              try clear c9b2
              try clear c10
              try clear c10b0
              try clear c10b1
              try clear p10
              try clear q10
              try clear hx10
              try clear qi10
              try clear c11
              try clear c11b0
              try clear c11b1
              try clear c12
              try clear hx104_0
              try clear p1
              try clear p10
              try clear p104
              try clear p2
              try clear q1
              try clear q10
              try clear q104
              obtain ⟨x7_2, x38_2, rfl, rfl, HA, HK2, HB⟩ := hrel
              cases gk with
              | zero => exact absurd HA.out (by simp [recs_length.l0])
              | succ k2 =>
                have H := HA.out
                clear HA
                simp only [recs_length.l0] at H
                by_cases c13 : x38_2 < (y.length : Int)
                · rw [if_pos c13] at H
                  have c13b0 : decide (x38_2 < (y.length : Int)) = true := decide_eq_true c13
                  clear c13
                  by_cases c14 : 0 ≤ x38_2
                  · rw [if_pos c14] at H
                    have c14b0 : decide (0 ≤ x38_2) = true := decide_eq_true c14
                    clear c14
                    by_cases c15 : x38_2 < (y.length : Int)
                    · rw [if_pos c15] at H
                      have c15b0 : decide (x38_2 < (y.length : Int)) = true := decide_eq_true c15
                      clear c15
                      by_cases c16 : (rd y x38_2) < 48
                      · rw [if_pos c16] at H
                        have c16b0 : decide ((rd y x38_2) < 48) = true := decide_eq_true c16
                        clear c16
                        simp only [Option.some.injEq, Prod.mk.injEq] at H
                        obtain ⟨rfl, rfl⟩ := H
                        have p105 : 0 ≤ (x38_2 : Int) := of_decide_eq_true (by first | (with_reducible assumption) | assumption)
                        have q105 : x38_2 < (y.length : Int) := of_decide_eq_true (by first | (with_reducible assumption) | assumption)
                        obtain ⟨ad105, e105, hx105_0⟩ := Kd.at_int HR103.out x38_2 p105 q105
                        cases e105
                        replace hx105_0 := (HB.out.cell (World.block_lt_of_cell? w _ hx105_0)).trans hx105_0
                        replace p105 := eq_true p105
                        replace q105 := eq_true q105
                        go_wp2
                        go_ret2
                        exact ⟨by first | rfl | (simp [errW_none, errW_some] <;> rfl) | (simp [*, errW_none, errW_some] <;> rfl), by repeat (first | (with_reducible first | exact HB.out | apply below_alloc | apply pw_below_drewN | apply below_drew1) | exact HB.out)⟩
                      · rw [if_neg c16] at H
                        have c16b0 : decide ((rd y x38_2) < 48) = false := decide_eq_false c16
                        clear c16
                        by_cases c17 : (rd y x38_2) > 57
                        · rw [if_pos c17] at H
                          have c17b0 : decide (57 < (rd y x38_2)) = true := decide_eq_true c17
                          clear c17
                          simp only [Option.some.injEq, Prod.mk.injEq] at H
                          obtain ⟨rfl, rfl⟩ := H
                          have p105 : 0 ≤ (x38_2 : Int) := of_decide_eq_true (by first | (with_reducible assumption) | assumption)
                          have q105 : x38_2 < (y.length : Int) := of_decide_eq_true (by first | (with_reducible assumption) | assumption)
                          obtain ⟨ad105, e105, hx105_0⟩ := Kd.at_int HR103.out x38_2 p105 q105
                          cases e105
                          replace hx105_0 := (HB.out.cell (World.block_lt_of_cell? w _ hx105_0)).trans hx105_0
                          replace p105 := eq_true p105
                          replace q105 := eq_true q105
                          go_wp2
                          go_ret2
                          exact ⟨by first | rfl | (simp [errW_none, errW_some] <;> rfl) | (simp [*, errW_none, errW_some] <;> rfl), by repeat (first | (with_reducible first | exact HB.out | apply below_alloc | apply pw_below_drewN | apply below_drew1) | exact HB.out)⟩
                        · rw [if_neg c17] at H
                          have c17b0 : decide (57 < (rd y x38_2)) = false := decide_eq_false c17
                          clear c17
                          have H' := Aside0.mk H
                          clear H
                          have p105 : 0 ≤ (x38_2 : Int) := of_decide_eq_true (by first | (with_reducible assumption) | assumption)
                          have q105 : x38_2 < (y.length : Int) := of_decide_eq_true (by first | (with_reducible assumption) | assumption)
                          obtain ⟨ad105, e105, hx105_0⟩ := Kd.at_int HR103.out x38_2 p105 q105
                          cases e105
                          replace hx105_0 := (HB.out.cell (World.block_lt_of_cell? w _ hx105_0)).trans hx105_0
                          replace p105 := eq_true p105
                          replace q105 := eq_true q105
                          go_wp2
                          go_roundg k2
                          case measure => have := HJ4.out; have := HK2.out; omega
                          case rel => exact ⟨(wrap64 ((wrap64 (x7_2 * 10)) + (((rd y x38_2) - 48) % 256))), (wrap64 (x38_2 + 1)), (by first | rfl | (simp; done) | (simp [*]; done)), (by first | rfl | (simp; done) | (simp [*]; done)), H', ⟨by have := HJ4.out; have := HK2.out; omega⟩, ⟨by repeat (first | (with_reducible first | exact HB.out | apply below_alloc | apply pw_below_drewN | apply below_drew1) | exact HB.out)⟩⟩
                    · rw [if_neg c15] at H
                      exact absurd H (by simp)
                  · rw [if_neg c14] at H
                    exact absurd H (by simp)
                · rw [if_neg c13] at H
                  have c13b0 : decide (x38_2 < (y.length : Int)) = false := decide_eq_false c13
                  clear c13
                  simp only [Option.some.injEq, Prod.mk.injEq] at H
                  obtain ⟨rfl, rfl⟩ := H
                  go_wp2
                  go_ret2
                  exact ⟨by first | rfl | (simp [errW_none, errW_some] <;> rfl) | (simp [*, errW_none, errW_some] <;> rfl), by repeat (first | (with_reducible first | exact HB.out | apply below_alloc | apply pw_below_drewN | apply below_drew1) | exact HB.out)⟩
    · rw [if_neg c4] at H
      exact absurd H (by simp)
  · rw [if_neg c3] at H
    exact absurd H (by simp)

end Go.Proofs.YthjljkdiglpbaaaDoor.P
