import Derived.Test.YthjljkdiglpbaaaDoorZB2
import Derived.Lib.AppendIntMem
import Derived.Lib.LaidTab
import Derived.LaidSub
import Derived.MakeChecks
-- F42
-- Written by xprint.py (a program of this session's, over the kit's printer) out of the translation. Not trusted: Lean checks it.
namespace Go.Proofs.YthjljkdiglpbaaaDoor.P
open Go.RowKit Go.Proofs.YthjljkdiglpbaaaDoorW.PrintWords Go.Proofs.YthjljkdiglpbaaaDoorW.PrintLast Go.Proofs.YthjljkdiglpbaaaDoorW.PrintMore Go.Proofs.YthjljkdiglpbaaaDoor.Hand
attribute [local go_sem] max2_int min2_int max_two min_two max_three min_three max_four min_four   -- for this text's walks alone
set_option linter.unusedVariables false
set_option linter.unusedSimpArgs false

/-! ### head_May: function 42 -/
def head_May.f (k : Nat) (a0_0 : ByteArray) (a0_1 : ByteArray) (a0_2 : Int) (a0_3 : Int) (a0_4 : Int) (a0_5 : Int) (a0_6 : Int) (a0_7 : Int) (a0_8 : ByteArray) : Option (Int) := (head_Lay.f k a0_0 a0_1 a0_2 a0_3 a0_4 a0_5 a0_6 a0_7 a0_8).bind fun bt106 => (some bt106.2)
theorem head_May.mono : ∀ a0 a1 a2 a3 a4 a5 a6 a7 a8 k, LeO (head_May.f k a0 a1 a2 a3 a4 a5 a6 a7 a8) (head_May.f (k + 1) a0 a1 a2 a3 a4 a5 a6 a7 a8) := by
  intro a0 a1 a2 a3 a4 a5 a6 a7 a8 k
  unfold head_May.f
  repeat' first
      | (with_reducible exact head_Lay.mono _ _ _ _ _ _ _ _ _ _)
      | (with_reducible exact LeO.refl _)
      | (with_reducible exact LeO.none _)
      | (with_reducible refine LeO.ite ?_ ?_)
      | (with_reducible refine LeO.bind ?_ (fun _ => ?_))
      | exact head_Lay.mono _ _ _ _ _ _ _ _ _ _
      | exact LeO.none _
      | refine LeO.ite ?_ ?_
      | refine LeO.bind ?_ (fun _ => ?_)
set_option maxHeartbeats 8000000 in
set_option maxRecDepth 100000 in
theorem head_May.calls (k : Nat) (a0_0 : ByteArray) (a0_1 : ByteArray) (a0_2 : Int) (a0_3 : Int) (a0_4 : Int) (a0_5 : Int) (a0_6 : Int) (a0_7 : Int) (a0_8 : ByteArray) (r : Int) (w : World) (h : head_May.f k a0_0 a0_1 a0_2 a0_3 a0_4 a0_5 a0_6 a0_7 a0_8 = some r) :
    Calls Tryd.prog 42 #[.agg #[.string a0_0, .string a0_1, .int .i64 a0_2, .int .i64 a0_3, .int .i64 a0_4, .int .i64 a0_5, .int .i64 a0_6, .int .u8 a0_7, .string a0_8]] w fun e w' => e = .returned (.int .i64 r) ∧ Below w.heap.size w w' := by
  have hu57 := Tryd.underlying57
  have HB := Aside0.mk (Below.refl w.heap.size w)
  have H : ((head_Lay.f k a0_0 a0_1 a0_2 a0_3 a0_4 a0_5 a0_6 a0_7 a0_8).bind fun bt106 => (some bt106.2)) = some r := h
  clear h
  replace H := Option.bind_eq_some_iff.mp H
  obtain ⟨⟨t106, t109⟩, A20, H⟩ := H
  replace H : (some t109) = some r := H
  have A2 := Aside0.mk A20
  clear A20
  obtain rfl := Option.some.inj H
  go_enter Tryd.func42, Tryd.ntmps42
  go_wp2_with (first | ((with_reducible refine gate_dst (N := 1) rfl ?_); refine box_event ?hg (N := 1) ?hd (cs := #[.string a0_0, .string a0_1, .int .i64 a0_2, .int .i64 a0_3, .int .i64 a0_4, .int .i64 a0_5, .int .i64 a0_6, .int .u8 a0_7, .string a0_8]) (t := 57) ?hr ?_; (case hd => rfl); (case hg => rfl); (case hr => first | (go_simp; done) | (go_simp; rfl)); intro gb105 hg w3 hbox hb; have n0_ := Aside0.mk (below_step (by repeat (first | (with_reducible first | exact HB.out | apply below_alloc | apply pw_below_drewN | apply below_drew1) | exact HB.out)) hb); have n1_ := Aside0.mk (hbox); have n2_ := Aside0.mk ((by rw [hg]; exact (below_size (by repeat (first | (with_reducible first | exact HB.out | apply below_alloc | apply pw_below_drewN | apply below_drew1) | exact HB.out))) : w.heap.size ≤ gb105)); have n3_ := Aside0.mk ((by rw [hg]; exact (below_size (by repeat (first | (with_reducible first | exact HB.out | apply below_alloc | apply pw_below_drewN | apply below_drew1) | exact HB.out))) : w.heap.size ≤ gb105)); clear HB; have HB := n0_; have BK105 := n1_; have GW105 := n2_; have GE105 := n3_; clear n0_ n1_ n2_ n3_; clear hb hbox hg; have hcz4_0 : w3.cell? ⟨gb105, 0, none⟩ = some (.string a0_0) := (blk_cell BK105.out 0).trans rfl; have hcz4_1 : w3.cell? ⟨gb105, 1, none⟩ = some (.string a0_1) := (blk_cell BK105.out 1).trans rfl; have hcz4_2 : w3.cell? ⟨gb105, 2, none⟩ = some (.int .i64 a0_2) := (blk_cell BK105.out 2).trans rfl; have hcz4_3 : w3.cell? ⟨gb105, 3, none⟩ = some (.int .i64 a0_3) := (blk_cell BK105.out 3).trans rfl; have hcz4_4 : w3.cell? ⟨gb105, 4, none⟩ = some (.int .i64 a0_4) := (blk_cell BK105.out 4).trans rfl; have hcz4_5 : w3.cell? ⟨gb105, 5, none⟩ = some (.int .i64 a0_5) := (blk_cell BK105.out 5).trans rfl; have hcz4_6 : w3.cell? ⟨gb105, 6, none⟩ = some (.int .i64 a0_6) := (blk_cell BK105.out 6).trans rfl; have hcz4_7 : w3.cell? ⟨gb105, 7, none⟩ = some (.int .u8 a0_7) := (blk_cell BK105.out 7).trans rfl; have hcz4_8 : w3.cell? ⟨gb105, 8, none⟩ = some (.string a0_8) := (blk_cell BK105.out 8).trans rfl; have hfz4_0 := blk_frozen BK105.out 0; have hfz4_1 := blk_frozen BK105.out 1; have hfz4_2 := blk_frozen BK105.out 2; have hfz4_3 := blk_frozen BK105.out 3; have hfz4_4 := blk_frozen BK105.out 4; have hfz4_5 := blk_frozen BK105.out 5; have hfz4_6 := blk_frozen BK105.out 6; have hfz4_7 := blk_frozen BK105.out 7; have hfz4_8 := blk_frozen BK105.out 8) | ((with_reducible refine gate_callee (f := 31) rfl ?_); refine goesL_ (some 7) rfl rfl Tryd.func31 (by kernel_rfl) rfl #[.agg #[.string a0_0, .string a0_1, .int .i64 a0_2, .int .i64 a0_3, .int .i64 a0_4, .int .i64 a0_5, .int .i64 a0_6, .int .u8 a0_7, .string a0_8]] rfl (by (try simp only [List.map_toArray, List.map_cons, List.map_nil]); first | done | rfl | (simp only [List.length_drop, List.length_take]; rfl)) ?_; (with_reducible refine (head_Lay.calls k a0_0 a0_1 a0_2 a0_3 a0_4 a0_5 a0_6 a0_7 a0_8 t106 t109 _ A2.out).mono ?_); rintro e w5 ⟨v107, rfl, ho0, hb⟩; refine ⟨_, rfl, ?_⟩; have n0_ := Aside0.mk (Kd.R_lower ho0 (below_size (by repeat (first | (with_reducible first | exact HB.out | apply below_alloc | apply pw_below_drewN | apply below_drew1 | refine below_set ?_ GE105.out) | exact HB.out)))); have n1_ := Aside0.mk (blk_below (g := gb105) (o := .cells #[.string a0_0, .string a0_1, .int .i64 a0_2, .int .i64 a0_3, .int .i64 a0_4, .int .i64 a0_5, .int .i64 a0_6, .int .u8 a0_7, .string a0_8] 57 (0, 0)) (by (with_reducible repeat (first | refine blk_drewN ?_ _ | refine blk_drew ?_ | refine blk_alloc ?_ _)); exact BK105.out) hb); have n2_ := Aside0.mk (below_step (by repeat (first | (with_reducible first | exact HB.out | apply below_alloc | apply pw_below_drewN | apply below_drew1 | refine below_set ?_ GE105.out) | exact HB.out)) hb); clear BK105; clear HB; have HO108 := n0_; have BK105 := n1_; have HB := n2_; clear n0_ n1_ n2_; (try clear hb); (try clear hb2); (try clear hk); (try clear hi); (try clear ho0)))
  go_ret
  exact ⟨by first | rfl | (simp [errW_none, errW_some] <;> rfl) | (simp [*, errW_none, errW_some] <;> rfl), by repeat (first | (with_reducible first | exact HB.out | apply below_alloc | apply pw_below_drewN | apply below_drew1 | refine below_set ?_ GE105.out) | exact HB.out)⟩

end Go.Proofs.YthjljkdiglpbaaaDoor.P

-- F67
-- Written by xprint.py (a program of this session's, over the kit's printer) out of the translation. Not trusted: Lean checks it.
namespace Go.Proofs.YthjljkdiglpbaaaDoor.P
open Go.RowKit Go.Proofs.YthjljkdiglpbaaaDoorW.PrintWords Go.Proofs.YthjljkdiglpbaaaDoorW.PrintLast Go.Proofs.YthjljkdiglpbaaaDoorW.PrintMore Go.Proofs.YthjljkdiglpbaaaDoor.Hand
attribute [local go_sem] max2_int min2_int max_two min_two max_three min_three max_four min_four   -- for this text's walks alone
set_option linter.unusedVariables false
set_option linter.unusedSimpArgs false

/-! ### hsum_Told: function 67 -/
def hsum_Told.f (l0 : List Int) : Option (Int × Int) := if (l0.length : Int) = 512 then (if 148 ≤ 156 then (if 156 ≤ (l0.length : Int) then ((numf_Get.f ((l0.take 156).drop 148)).bind fun bt102 => (if bt102.2 = 0 then (if bt102.1 < 0 then (some (0, 3)) else (if bt102.1 > 1048576 then (some (0, 3)) else (some (bt102.1, 0)))) else (some (0, bt102.2)))) else (none)) else (none)) else (some (0, 1))
set_option maxHeartbeats 8000000 in
set_option maxRecDepth 100000 in
theorem hsum_Told.calls (A0 : Option Addr) (c0 : Nat) (l0 : List Int) (r1 : Int) (r2 : Int) (w : World) (hr0 : Kd.C (Kd.int .u8) w A0 l0.length l0) (hc0 : l0.length ≤ c0) (h : hsum_Told.f l0 = some (r1, r2)) :
    Calls Tryd.prog 67 #[.slice A0 l0.length c0] w fun e w' => e = .returned (.tuple #[.int .i64 r1, .int .i64 r2]) ∧ Below w.heap.size w w' := by
  have HR0 := Aside0.mk hr0
  have HC0 := Aside0.mk hc0
  clear hr0 hc0
  have HB := Aside0.mk (Below.refl w.heap.size w)
  have H : (if (l0.length : Int) = 512 then (if 148 ≤ 156 then (if 156 ≤ (l0.length : Int) then ((numf_Get.f ((l0.take 156).drop 148)).bind fun bt102 => (if bt102.2 = 0 then (if bt102.1 < 0 then (some (0, 3)) else (if bt102.1 > 1048576 then (some (0, 3)) else (some (bt102.1, 0)))) else (some (0, bt102.2)))) else (none)) else (none)) else (some (0, 1))) = some (r1, r2) := h
  clear h
  by_cases c2 : (l0.length : Int) = 512
  · rw [if_pos c2] at H
    have c2b0 : ((l0.length : Int) == 512) = true := beq_iff_eq.mpr c2
    have c2b1 : ((l0.length : Int) != 512) = false := bne_eq_false_iff_eq.mpr c2
    clear c2
    by_cases c3 : 148 ≤ 156
    · rw [if_pos c3] at H
      have c3b0 := eq_true c3
      have c3b1 : decide (148 ≤ 156) = true := decide_eq_true c3
      clear c3
      by_cases c4 : 156 ≤ (l0.length : Int)
      · rw [if_pos c4] at H
        have c4b0 := eq_true c4
        have c4b1 : decide (156 ≤ (l0.length : Int)) = true := decide_eq_true c4
        clear c4
        replace H := Option.bind_eq_some_iff.mp H
        obtain ⟨⟨t102, t103⟩, A50, H⟩ := H
        replace H : (if t103 = 0 then (if t102 < 0 then (some (0, 3)) else (if t102 > 1048576 then (some (0, 3)) else (some (t102, 0)))) else (some (0, t103))) = some (r1, r2) := H
        have A5 := Aside0.mk A50
        clear A50
        by_cases c6 : t103 = 0
        · rw [if_pos c6] at H
          have c6b0 : (t103 == 0) = true := beq_iff_eq.mpr c6
          have c6b1 : (t103 != 0) = false := bne_eq_false_iff_eq.mpr c6
          clear c6
          by_cases c7 : t102 < 0
          · rw [if_pos c7] at H
            have c7b0 : decide (t102 < 0) = true := decide_eq_true c7
            clear c7
            simp only [Option.some.injEq, Prod.mk.injEq] at H
            obtain ⟨rfl, rfl⟩ := H
            obtain ⟨i08, hi08, _, hsz8, _⟩ := info_parts info5
            obtain ⟨A8, hcut8, hA8, hC8⟩ := print_mid_of (P := Tryd.prog) (Value.int .u8) 0 22 5 .i64 .i64 Tryd.underlying22 hi08 hsz8 A0 c0 l0 148 156 (by omega) (by first | omega | exact of_decide_eq_true (by first | (with_reducible assumption) | assumption)) (of_decide_eq_true (by first | (with_reducible assumption) | assumption)) HC0.out
            have HR101 := Aside0.mk (Kd.C_of_reads (h1 := fun _ => rfl) (hA8 _ (Kd.reads_of_C HR0.out)))
            have HC101 := Aside0.mk hC8
            clear hA8 hC8 hi08 hsz8
            go_enter Tryd.func67, Tryd.ntmps67
            go_wp2_with (first | ((with_reducible refine gate_callee (f := 71) rfl ?_); refine goesL_ (some 12) rfl rfl Tryd.func71 (by kernel_rfl) rfl #[.slice A8 ((l0.take 156).drop 148).length (c0 - 148)] rfl (by (try simp only [List.map_toArray, List.map_cons, List.map_nil]); first | done | (rw [show ((l0.take 156).drop 148).length = (156 - 148) from (by rw [List.length_drop, List.length_take]; have h_ : (156 : Int) ≤ (l0.length : Int) := of_decide_eq_true (by first | (with_reducible assumption) | assumption); omega)] <;> rfl) | rfl | (simp only [List.length_drop, List.length_take]; rfl)) ?_; (with_reducible refine (numf_Get.calls _ _ ((l0.take 156).drop 148) t102 t103 _ ?side1 ?side2 A5.out).mono ?_); (case side1 => repeat (first | exact HR101.out | (with_reducible refine Kd.C_alloc ?_ _) | (with_reducible refine Kd.C_drewN ?_ _) | (with_reducible refine Kd.C_drew ?_))); (case side2 => exact HC101.out); rintro e w9 ⟨rfl, hb⟩; refine ⟨_, rfl, ?_⟩; have n0_ := Aside0.mk (below_step (by repeat (first | (with_reducible first | exact HB.out | apply below_alloc | apply pw_below_drewN | apply below_drew1) | exact HB.out)) hb); clear HB; have HB := n0_; clear n0_; (try clear hb); (try clear hb2); (try clear hk); (try clear hi)))
            go_ret2
            exact ⟨by first | rfl | (simp [errW_none, errW_some] <;> rfl) | (simp [*, errW_none, errW_some] <;> rfl), by repeat (first | (with_reducible first | exact HB.out | apply below_alloc | apply pw_below_drewN | apply below_drew1) | exact HB.out)⟩
          · rw [if_neg c7] at H
            have c7b0 : decide (t102 < 0) = false := decide_eq_false c7
            clear c7
            by_cases c10 : t102 > 1048576
            · rw [if_pos c10] at H
              have c10b0 : decide (1048576 < t102) = true := decide_eq_true c10
              clear c10
              simp only [Option.some.injEq, Prod.mk.injEq] at H
              obtain ⟨rfl, rfl⟩ := H
              obtain ⟨i011, hi011, _, hsz11, _⟩ := info_parts info5
              obtain ⟨A11, hcut11, hA11, hC11⟩ := print_mid_of (P := Tryd.prog) (Value.int .u8) 0 22 5 .i64 .i64 Tryd.underlying22 hi011 hsz11 A0 c0 l0 148 156 (by omega) (by first | omega | exact of_decide_eq_true (by first | (with_reducible assumption) | assumption)) (of_decide_eq_true (by first | (with_reducible assumption) | assumption)) HC0.out
              have HR101 := Aside0.mk (Kd.C_of_reads (h1 := fun _ => rfl) (hA11 _ (Kd.reads_of_C HR0.out)))
              have HC101 := Aside0.mk hC11
              clear hA11 hC11 hi011 hsz11
              go_enter Tryd.func67, Tryd.ntmps67
              go_wp2_with (first | ((with_reducible refine gate_callee (f := 71) rfl ?_); refine goesL_ (some 12) rfl rfl Tryd.func71 (by kernel_rfl) rfl #[.slice A11 ((l0.take 156).drop 148).length (c0 - 148)] rfl (by (try simp only [List.map_toArray, List.map_cons, List.map_nil]); first | done | (rw [show ((l0.take 156).drop 148).length = (156 - 148) from (by rw [List.length_drop, List.length_take]; have h_ : (156 : Int) ≤ (l0.length : Int) := of_decide_eq_true (by first | (with_reducible assumption) | assumption); omega)] <;> rfl) | rfl | (simp only [List.length_drop, List.length_take]; rfl)) ?_; (with_reducible refine (numf_Get.calls _ _ ((l0.take 156).drop 148) t102 t103 _ ?side1 ?side2 A5.out).mono ?_); (case side1 => repeat (first | exact HR101.out | (with_reducible refine Kd.C_alloc ?_ _) | (with_reducible refine Kd.C_drewN ?_ _) | (with_reducible refine Kd.C_drew ?_))); (case side2 => exact HC101.out); rintro e w12 ⟨rfl, hb⟩; refine ⟨_, rfl, ?_⟩; have n0_ := Aside0.mk (below_step (by repeat (first | (with_reducible first | exact HB.out | apply below_alloc | apply pw_below_drewN | apply below_drew1) | exact HB.out)) hb); clear HB; have HB := n0_; clear n0_; (try clear hb); (try clear hb2); (try clear hk); (try clear hi)))
              go_ret2
              exact ⟨by first | rfl | (simp [errW_none, errW_some] <;> rfl) | (simp [*, errW_none, errW_some] <;> rfl), by repeat (first | (with_reducible first | exact HB.out | apply below_alloc | apply pw_below_drewN | apply below_drew1) | exact HB.out)⟩
            · rw [if_neg c10] at H
              have c10b0 : decide (1048576 < t102) = false := decide_eq_false c10
              clear c10
              simp only [Option.some.injEq, Prod.mk.injEq] at H
              obtain ⟨rfl, rfl⟩ := H
              obtain ⟨i013, hi013, _, hsz13, _⟩ := info_parts info5
              obtain ⟨A13, hcut13, hA13, hC13⟩ := print_mid_of (P := Tryd.prog) (Value.int .u8) 0 22 5 .i64 .i64 Tryd.underlying22 hi013 hsz13 A0 c0 l0 148 156 (by omega) (by first | omega | exact of_decide_eq_true (by first | (with_reducible assumption) | assumption)) (of_decide_eq_true (by first | (with_reducible assumption) | assumption)) HC0.out
              have HR101 := Aside0.mk (Kd.C_of_reads (h1 := fun _ => rfl) (hA13 _ (Kd.reads_of_C HR0.out)))
              have HC101 := Aside0.mk hC13
              clear hA13 hC13 hi013 hsz13
              go_enter Tryd.func67, Tryd.ntmps67
              go_wp2_with (first | ((with_reducible refine gate_callee (f := 71) rfl ?_); refine goesL_ (some 12) rfl rfl Tryd.func71 (by kernel_rfl) rfl #[.slice A13 ((l0.take 156).drop 148).length (c0 - 148)] rfl (by (try simp only [List.map_toArray, List.map_cons, List.map_nil]); first | done | (rw [show ((l0.take 156).drop 148).length = (156 - 148) from (by rw [List.length_drop, List.length_take]; have h_ : (156 : Int) ≤ (l0.length : Int) := of_decide_eq_true (by first | (with_reducible assumption) | assumption); omega)] <;> rfl) | rfl | (simp only [List.length_drop, List.length_take]; rfl)) ?_; (with_reducible refine (numf_Get.calls _ _ ((l0.take 156).drop 148) t102 t103 _ ?side1 ?side2 A5.out).mono ?_); (case side1 => repeat (first | exact HR101.out | (with_reducible refine Kd.C_alloc ?_ _) | (with_reducible refine Kd.C_drewN ?_ _) | (with_reducible refine Kd.C_drew ?_))); (case side2 => exact HC101.out); rintro e w14 ⟨rfl, hb⟩; refine ⟨_, rfl, ?_⟩; have n0_ := Aside0.mk (below_step (by repeat (first | (with_reducible first | exact HB.out | apply below_alloc | apply pw_below_drewN | apply below_drew1) | exact HB.out)) hb); clear HB; have HB := n0_; clear n0_; (try clear hb); (try clear hb2); (try clear hk); (try clear hi)))
              go_ret2
              exact ⟨by first | rfl | (simp [errW_none, errW_some] <;> rfl) | (simp [*, errW_none, errW_some] <;> rfl), by repeat (first | (with_reducible first | exact HB.out | apply below_alloc | apply pw_below_drewN | apply below_drew1) | exact HB.out)⟩
        · rw [if_neg c6] at H
          have c6b0 : (t103 == 0) = false := beq_eq_false_iff_ne.mpr c6
          have c6b1 : (t103 != 0) = true := bne_iff_ne.mpr c6
          simp only [Option.some.injEq, Prod.mk.injEq] at H
          obtain ⟨rfl, rfl⟩ := H
          obtain ⟨i015, hi015, _, hsz15, _⟩ := info_parts info5
          obtain ⟨A15, hcut15, hA15, hC15⟩ := print_mid_of (P := Tryd.prog) (Value.int .u8) 0 22 5 .i64 .i64 Tryd.underlying22 hi015 hsz15 A0 c0 l0 148 156 (by omega) (by first | omega | exact of_decide_eq_true (by first | (with_reducible assumption) | assumption)) (of_decide_eq_true (by first | (with_reducible assumption) | assumption)) HC0.out
          have HR101 := Aside0.mk (Kd.C_of_reads (h1 := fun _ => rfl) (hA15 _ (Kd.reads_of_C HR0.out)))
          have HC101 := Aside0.mk hC15
          clear hA15 hC15 hi015 hsz15
          go_enter Tryd.func67, Tryd.ntmps67
          go_wp2_with (first | ((with_reducible refine gate_callee (f := 71) rfl ?_); refine goesL_ (some 12) rfl rfl Tryd.func71 (by kernel_rfl) rfl #[.slice A15 ((l0.take 156).drop 148).length (c0 - 148)] rfl (by (try simp only [List.map_toArray, List.map_cons, List.map_nil]); first | done | (rw [show ((l0.take 156).drop 148).length = (156 - 148) from (by rw [List.length_drop, List.length_take]; have h_ : (156 : Int) ≤ (l0.length : Int) := of_decide_eq_true (by first | (with_reducible assumption) | assumption); omega)] <;> rfl) | rfl | (simp only [List.length_drop, List.length_take]; rfl)) ?_; (with_reducible refine (numf_Get.calls _ _ ((l0.take 156).drop 148) t102 t103 _ ?side1 ?side2 A5.out).mono ?_); (case side1 => repeat (first | exact HR101.out | (with_reducible refine Kd.C_alloc ?_ _) | (with_reducible refine Kd.C_drewN ?_ _) | (with_reducible refine Kd.C_drew ?_))); (case side2 => exact HC101.out); rintro e w16 ⟨rfl, hb⟩; refine ⟨_, rfl, ?_⟩; have n0_ := Aside0.mk (below_step (by repeat (first | (with_reducible first | exact HB.out | apply below_alloc | apply pw_below_drewN | apply below_drew1) | exact HB.out)) hb); clear HB; have HB := n0_; clear n0_; (try clear hb); (try clear hb2); (try clear hk); (try clear hi)))
          go_ret2
          exact ⟨by first | rfl | (simp [errW_none, errW_some] <;> rfl) | (simp [*, errW_none, errW_some] <;> rfl), by repeat (first | (with_reducible first | exact HB.out | apply below_alloc | apply pw_below_drewN | apply below_drew1) | exact HB.out)⟩
      · rw [if_neg c4] at H
        exact absurd H (by simp)
    · rw [if_neg c3] at H
      exact absurd H (by simp)
  · rw [if_neg c2] at H
    have c2b0 : ((l0.length : Int) == 512) = false := beq_eq_false_iff_ne.mpr c2
    have c2b1 : ((l0.length : Int) != 512) = true := bne_iff_ne.mpr c2
    simp only [Option.some.injEq, Prod.mk.injEq] at H
    obtain ⟨rfl, rfl⟩ := H
    go_enter Tryd.func67, Tryd.ntmps67
    go_wp2
    go_ret2
    exact ⟨by first | rfl | (simp [errW_none, errW_some] <;> rfl) | (simp [*, errW_none, errW_some] <;> rfl), by repeat (first | (with_reducible first | exact HB.out | apply below_alloc | apply pw_below_drewN | apply below_drew1) | exact HB.out)⟩

end Go.Proofs.YthjljkdiglpbaaaDoor.P

-- F45
-- Written by xprint.py (a program of this session's, over the kit's printer) out of the translation. Not trusted: Lean checks it.
namespace Go.Proofs.YthjljkdiglpbaaaDoor.P
open Go.RowKit Go.Proofs.YthjljkdiglpbaaaDoorW.PrintWords Go.Proofs.YthjljkdiglpbaaaDoorW.PrintLast Go.Proofs.YthjljkdiglpbaaaDoorW.PrintMore Go.Proofs.YthjljkdiglpbaaaDoor.Hand
attribute [local go_sem] max2_int min2_int max_two min_two max_three min_three max_four min_four   -- for this text's walks alone
set_option linter.unusedVariables false
set_option linter.unusedSimpArgs false

/-! ### hsum_Check: function 45 -/
def hsum_Check.f (k : Nat) (l0 : List Int) : Option (Int) := (hsum_Told.f l0).bind fun bt106 => (if bt106.2 = 0 then ((hsum_Sum.f k l0).bind fun bt108 => (if bt108.2 = 0 then (if bt108.1 = bt106.1 then (some bt108.2) else (some 9)) else (some bt108.2))) else (some bt106.2))
theorem hsum_Check.mono : ∀ a0 k, LeO (hsum_Check.f k a0) (hsum_Check.f (k + 1) a0) := by
  intro a0 k
  unfold hsum_Check.f
  repeat' first
      | (with_reducible exact hsum_Sum.mono _ _)
      | (with_reducible exact LeO.refl _)
      | (with_reducible exact LeO.none _)
      | (with_reducible refine LeO.ite ?_ ?_)
      | (with_reducible refine LeO.bind ?_ (fun _ => ?_))
      | exact hsum_Sum.mono _ _
      | exact LeO.none _
      | refine LeO.ite ?_ ?_
      | refine LeO.bind ?_ (fun _ => ?_)
set_option maxHeartbeats 8000000 in
set_option maxRecDepth 100000 in
theorem hsum_Check.calls (k : Nat) (A0 : Option Addr) (c0 : Nat) (l0 : List Int) (r : Int) (w : World) (hr0 : Kd.C (Kd.int .u8) w A0 l0.length l0) (hc0 : l0.length ≤ c0) (h : hsum_Check.f k l0 = some r) :
    Calls Tryd.prog 45 #[.slice A0 l0.length c0] w fun e w' => e = .returned (.int .i64 r) ∧ Below w.heap.size w w' := by
  have HR0 := Aside0.mk hr0
  have HC0 := Aside0.mk hc0
  clear hr0 hc0
  have HB := Aside0.mk (Below.refl w.heap.size w)
  have H : ((hsum_Told.f l0).bind fun bt106 => (if bt106.2 = 0 then ((hsum_Sum.f k l0).bind fun bt108 => (if bt108.2 = 0 then (if bt108.1 = bt106.1 then (some bt108.2) else (some 9)) else (some bt108.2))) else (some bt106.2))) = some r := h
  clear h
  replace H := Option.bind_eq_some_iff.mp H
  obtain ⟨⟨t106, t107⟩, A20, H⟩ := H
  replace H : (if t107 = 0 then ((hsum_Sum.f k l0).bind fun bt108 => (if bt108.2 = 0 then (if bt108.1 = t106 then (some bt108.2) else (some 9)) else (some bt108.2))) else (some t107)) = some r := H
  have A2 := Aside0.mk A20
  clear A20
  by_cases c3 : t107 = 0
  · rw [if_pos c3] at H
    have c3b0 : (t107 == 0) = true := beq_iff_eq.mpr c3
    have c3b1 : (t107 != 0) = false := bne_eq_false_iff_eq.mpr c3
    clear c3
    replace H := Option.bind_eq_some_iff.mp H
    obtain ⟨⟨t108, t109⟩, A40, H⟩ := H
    replace H : (if t109 = 0 then (if t108 = t106 then (some t109) else (some 9)) else (some t109)) = some r := H
    have A4 := Aside0.mk A40
    clear A40
    by_cases c5 : t109 = 0
    · rw [if_pos c5] at H
      have c5b0 : (t109 == 0) = true := beq_iff_eq.mpr c5
      have c5b1 : (t109 != 0) = false := bne_eq_false_iff_eq.mpr c5
      clear c5
      by_cases c6 : t108 = t106
      · rw [if_pos c6] at H
        have c6b0 : (t108 == t106) = true := beq_iff_eq.mpr c6
        have c6b1 : (t108 != t106) = false := bne_eq_false_iff_eq.mpr c6
        clear c6
        obtain rfl := Option.some.inj H
        go_enter Tryd.func45, Tryd.ntmps45
        go_wp2_with (first | ((with_reducible refine gate_callee (f := 67) rfl ?_); refine goesL_ (some 8) rfl rfl Tryd.func67 (by kernel_rfl) rfl #[.slice A0 l0.length c0] rfl (by (try simp only [List.map_toArray, List.map_cons, List.map_nil]); first | done | rfl | (simp only [List.length_drop, List.length_take]; rfl)) ?_; (with_reducible refine (hsum_Told.calls _ _ l0 t106 t107 _ ?side1 ?side2 A2.out).mono ?_); (case side1 => repeat (first | exact HR0.out | (with_reducible refine Kd.C_alloc ?_ _) | (with_reducible refine Kd.C_drewN ?_ _) | (with_reducible refine Kd.C_drew ?_))); (case side2 => exact HC0.out); rintro e w7 ⟨rfl, hb⟩; refine ⟨_, rfl, ?_⟩; have n0_ := Aside0.mk (below_step (by repeat (first | (with_reducible first | exact HB.out | apply below_alloc | apply pw_below_drewN | apply below_drew1) | exact HB.out)) hb); clear HB; have HB := n0_; clear n0_; (try clear hb); (try clear hb2); (try clear hk); (try clear hi)) | ((with_reducible refine gate_callee (f := 68) rfl ?_); refine goesL_ (some 16) rfl rfl Tryd.func68 (by kernel_rfl) rfl #[.slice A0 l0.length c0] rfl (by (try simp only [List.map_toArray, List.map_cons, List.map_nil]); first | done | rfl | (simp only [List.length_drop, List.length_take]; rfl)) ?_; (with_reducible refine (hsum_Sum.calls k _ _ l0 t108 t109 _ ?side1 ?side2 A4.out).mono ?_); (case side1 => repeat (first | exact (Kd.C_below HR0.out HB.out) | (with_reducible refine Kd.C_alloc ?_ _) | (with_reducible refine Kd.C_drewN ?_ _) | (with_reducible refine Kd.C_drew ?_))); (case side2 => exact HC0.out); rintro e w' ⟨rfl, ⟨nd, rfl⟩⟩; refine ⟨_, rfl, ?_⟩))
        go_ret
        exact ⟨by first | rfl | (simp [errW_none, errW_some] <;> rfl) | (simp [*, errW_none, errW_some] <;> rfl), by repeat (first | (with_reducible first | exact HB.out | apply below_alloc | apply pw_below_drewN | apply below_drew1) | exact HB.out)⟩
      · rw [if_neg c6] at H
        have c6b0 : (t108 == t106) = false := beq_eq_false_iff_ne.mpr c6
        have c6b1 : (t108 != t106) = true := bne_iff_ne.mpr c6
        obtain rfl := Option.some.inj H
        go_enter Tryd.func45, Tryd.ntmps45
        go_wp2_with (first | ((with_reducible refine gate_callee (f := 67) rfl ?_); refine goesL_ (some 8) rfl rfl Tryd.func67 (by kernel_rfl) rfl #[.slice A0 l0.length c0] rfl (by (try simp only [List.map_toArray, List.map_cons, List.map_nil]); first | done | rfl | (simp only [List.length_drop, List.length_take]; rfl)) ?_; (with_reducible refine (hsum_Told.calls _ _ l0 t106 t107 _ ?side1 ?side2 A2.out).mono ?_); (case side1 => repeat (first | exact HR0.out | (with_reducible refine Kd.C_alloc ?_ _) | (with_reducible refine Kd.C_drewN ?_ _) | (with_reducible refine Kd.C_drew ?_))); (case side2 => exact HC0.out); rintro e w8 ⟨rfl, hb⟩; refine ⟨_, rfl, ?_⟩; have n0_ := Aside0.mk (below_step (by repeat (first | (with_reducible first | exact HB.out | apply below_alloc | apply pw_below_drewN | apply below_drew1) | exact HB.out)) hb); clear HB; have HB := n0_; clear n0_; (try clear hb); (try clear hb2); (try clear hk); (try clear hi)) | ((with_reducible refine gate_callee (f := 68) rfl ?_); refine goesL_ (some 16) rfl rfl Tryd.func68 (by kernel_rfl) rfl #[.slice A0 l0.length c0] rfl (by (try simp only [List.map_toArray, List.map_cons, List.map_nil]); first | done | rfl | (simp only [List.length_drop, List.length_take]; rfl)) ?_; (with_reducible refine (hsum_Sum.calls k _ _ l0 t108 t109 _ ?side1 ?side2 A4.out).mono ?_); (case side1 => repeat (first | exact (Kd.C_below HR0.out HB.out) | (with_reducible refine Kd.C_alloc ?_ _) | (with_reducible refine Kd.C_drewN ?_ _) | (with_reducible refine Kd.C_drew ?_))); (case side2 => exact HC0.out); rintro e w' ⟨rfl, ⟨nd, rfl⟩⟩; refine ⟨_, rfl, ?_⟩))
        go_ret
        exact ⟨by first | rfl | (simp [errW_none, errW_some] <;> rfl) | (simp [*, errW_none, errW_some] <;> rfl), by repeat (first | (with_reducible first | exact HB.out | apply below_alloc | apply pw_below_drewN | apply below_drew1) | exact HB.out)⟩
    · rw [if_neg c5] at H
      have c5b0 : (t109 == 0) = false := beq_eq_false_iff_ne.mpr c5
      have c5b1 : (t109 != 0) = true := bne_iff_ne.mpr c5
      obtain rfl := Option.some.inj H
      go_enter Tryd.func45, Tryd.ntmps45
      go_wp2_with (first | ((with_reducible refine gate_callee (f := 67) rfl ?_); refine goesL_ (some 8) rfl rfl Tryd.func67 (by kernel_rfl) rfl #[.slice A0 l0.length c0] rfl (by (try simp only [List.map_toArray, List.map_cons, List.map_nil]); first | done | rfl | (simp only [List.length_drop, List.length_take]; rfl)) ?_; (with_reducible refine (hsum_Told.calls _ _ l0 t106 t107 _ ?side1 ?side2 A2.out).mono ?_); (case side1 => repeat (first | exact HR0.out | (with_reducible refine Kd.C_alloc ?_ _) | (with_reducible refine Kd.C_drewN ?_ _) | (with_reducible refine Kd.C_drew ?_))); (case side2 => exact HC0.out); rintro e w9 ⟨rfl, hb⟩; refine ⟨_, rfl, ?_⟩; have n0_ := Aside0.mk (below_step (by repeat (first | (with_reducible first | exact HB.out | apply below_alloc | apply pw_below_drewN | apply below_drew1) | exact HB.out)) hb); clear HB; have HB := n0_; clear n0_; (try clear hb); (try clear hb2); (try clear hk); (try clear hi)) | ((with_reducible refine gate_callee (f := 68) rfl ?_); refine goesL_ (some 16) rfl rfl Tryd.func68 (by kernel_rfl) rfl #[.slice A0 l0.length c0] rfl (by (try simp only [List.map_toArray, List.map_cons, List.map_nil]); first | done | rfl | (simp only [List.length_drop, List.length_take]; rfl)) ?_; (with_reducible refine (hsum_Sum.calls k _ _ l0 t108 t109 _ ?side1 ?side2 A4.out).mono ?_); (case side1 => repeat (first | exact (Kd.C_below HR0.out HB.out) | (with_reducible refine Kd.C_alloc ?_ _) | (with_reducible refine Kd.C_drewN ?_ _) | (with_reducible refine Kd.C_drew ?_))); (case side2 => exact HC0.out); rintro e w' ⟨rfl, ⟨nd, rfl⟩⟩; refine ⟨_, rfl, ?_⟩))
      go_ret
      exact ⟨by first | rfl | (simp [errW_none, errW_some] <;> rfl) | (simp [*, errW_none, errW_some] <;> rfl), by repeat (first | (with_reducible first | exact HB.out | apply below_alloc | apply pw_below_drewN | apply below_drew1) | exact HB.out)⟩
  · rw [if_neg c3] at H
    have c3b0 : (t107 == 0) = false := beq_eq_false_iff_ne.mpr c3
    have c3b1 : (t107 != 0) = true := bne_iff_ne.mpr c3
    obtain rfl := Option.some.inj H
    go_enter Tryd.func45, Tryd.ntmps45
    go_wp2_with (first | ((with_reducible refine gate_callee (f := 67) rfl ?_); refine goesL_ (some 8) rfl rfl Tryd.func67 (by kernel_rfl) rfl #[.slice A0 l0.length c0] rfl (by (try simp only [List.map_toArray, List.map_cons, List.map_nil]); first | done | rfl | (simp only [List.length_drop, List.length_take]; rfl)) ?_; (with_reducible refine (hsum_Told.calls _ _ l0 t106 t107 _ ?side1 ?side2 A2.out).mono ?_); (case side1 => repeat (first | exact HR0.out | (with_reducible refine Kd.C_alloc ?_ _) | (with_reducible refine Kd.C_drewN ?_ _) | (with_reducible refine Kd.C_drew ?_))); (case side2 => exact HC0.out); rintro e w10 ⟨rfl, hb⟩; refine ⟨_, rfl, ?_⟩; have n0_ := Aside0.mk (below_step (by repeat (first | (with_reducible first | exact HB.out | apply below_alloc | apply pw_below_drewN | apply below_drew1) | exact HB.out)) hb); clear HB; have HB := n0_; clear n0_; (try clear hb); (try clear hb2); (try clear hk); (try clear hi)))
    go_ret
    exact ⟨by first | rfl | (simp [errW_none, errW_some] <;> rfl) | (simp [*, errW_none, errW_some] <;> rfl), by repeat (first | (with_reducible first | exact HB.out | apply below_alloc | apply pw_below_drewN | apply below_drew1) | exact HB.out)⟩

end Go.Proofs.YthjljkdiglpbaaaDoor.P

-- HTab
/- The library's table of tens, as contracts of our own ask for it: it stands, and it stays. -/
namespace Go.Proofs.YthjljkdiglpbaaaDoor.Hand
open Go.RowKit Go.Proofs.YthjljkdiglpbaaaDoorW.PrintWords Go.Proofs.YthjljkdiglpbaaaDoorW.PrintLast
abbrev TabOk (w : World) : Prop := Lib.TabIs Tryd.prog w "internal/strconv.uint64pow10" .u64 Lib.pow10Tab
theorem TabOk.below {w w' : World} (h : TabOk w) (hb : Below w.heap.size w w') : TabOk w' := Lib.tabBelow_of_tabIs h w' hb
theorem TabOk.alloc {w : World} (h : TabOk w) (o : Obj) : TabOk (w.alloc o) := h.below ((Below.refl w.heap.size w).alloc (Nat.le_refl _) o)
theorem TabOk.drewN {w : World} (h : TabOk w) (n : Nat) : TabOk (w.drewN n) := h.below (pw_below_drewN (Below.refl w.heap.size w) n)
theorem TabOk.drew {w : World} (h : TabOk w) : TabOk w.drew := h.below (below_drew1 (Below.refl w.heap.size w))
set_option maxRecDepth 100000 in
/-- What the row says of the table is what is asked here. -/
theorem tab_of_laid {W : World} {l : List (String × DataW Unit)} (h : laidMetH Tryd.prog l W) (hf : l.filter (fun x => x.1 == "internal/strconv.uint64pow10") = [("internal/strconv.uint64pow10", Lib.tabData .u64 Lib.pow10Tab)]) : TabOk W := by
  have h2 := h.filter (fun x => x.1 == "internal/strconv.uint64pow10")
  rw [hf] at h2
  rw [MakeChecks.laidMetH_plain _ _ _ (by kernel_rfl)] at h2
  exact Lib.tabIs_of_head (g := 1) (t := 163) (by kernel_rfl) (by kernel_rfl) Tryd.underlying163 Tryd.underlying131 (by kernel_rfl) (by kernel_rfl) h2
end Go.Proofs.YthjljkdiglpbaaaDoor.Hand

-- HLit
/- '[]byte("..")' of a constant: the literal's row as it stands behind the conversion. -/
namespace Go.Proofs.YthjljkdiglpbaaaDoor.Hand
open Go.RowKit Go.Shelf Go.Proofs.YthjljkdiglpbaaaDoorW Go.Proofs.YthjljkdiglpbaaaDoorW.PrintWords Go.Proofs.YthjljkdiglpbaaaDoorW.PrintLast Go.Proofs.YthjljkdiglpbaaaDoorW.PrintMore
set_option linter.unusedVariables false
theorem C_lit (w : World) (xs : List Int) (h : xs.length ≤ 9223372036854775807) (t : TypeId) (fr : Nat × Nat) :
    Kd.C (Kd.int .u8) (w.alloc (.cells (xs.map (Value.int .u8)).toArray t fr)) (some ⟨w.heap.size, 0, none⟩) xs.length xs := by
  refine Kd.C_of_reads (enc := Value.int .u8) (d := (0 : Int)) (h1 := fun _ => rfl) ⟨rfl, h, fun _ => ⟨_, rfl, fun j hj => ?_⟩⟩
  rw [add_flat, Nat.zero_add, cell_fresh]
  simp [hj]
theorem V_lit (w : World) (xs : List Int) (h : xs.length ≤ 9223372036854775807) (t : TypeId) (fr : Nat × Nat) (b : Nat) :
    Kd.V (Kd.int .u8) 5 (w.alloc (.cells (xs.map (Value.int .u8)).toArray t fr)) b (fun k_ => k_ < (w.alloc (.cells (xs.map (Value.int .u8)).toArray t fr)).heap.size) (.slice (some ⟨w.heap.size, 0, none⟩) xs.length xs.length) xs :=
  Kd.V_mk (Nat.le_refl _) (Kd.C_F (Kd.heap_int .u8) (C_lit w xs h t fr))
end Go.Proofs.YthjljkdiglpbaaaDoor.Hand

-- HHead2
/- Contract, by hand, of head.Parse. -/
namespace Go.Proofs.YthjljkdiglpbaaaDoor.Hand
open Go.RowKit Go.Proofs.YthjljkdiglpbaaaDoor.P Go.Proofs.YthjljkdiglpbaaaDoorW Go.Proofs.YthjljkdiglpbaaaDoorW.PrintWords Go.Proofs.YthjljkdiglpbaaaDoorW.PrintLast Go.Proofs.YthjljkdiglpbaaaDoorW.PrintMore
set_option linter.unusedVariables false
set_option linter.unusedSimpArgs false

def magicL : List UInt8 := [117, 115, 116, 97, 114, 0, 48, 48]
abbrev Head := ByteArray × ByteArray × Int × Int × Int × Int × Int × Int × ByteArray × Int
def noHead (e : Int) : Head := ((⟨#[]⟩ : ByteArray), (⟨#[]⟩ : ByteArray), 0, 0, 0, 0, 0, 0, (⟨#[]⟩ : ByteArray), e)
def cutAt (l : List Int) (a b : Nat) : List Int := (l.take b).drop a
theorem drawn_below {w w' : World} (h : Drawn0 w w') : Below w.heap.size w w' := by
  obtain ⟨n, rfl⟩ := h
  exact pw_below_drewN (Below.refl _ _) n
def typeOf (l : List Int) : Int := if rd l 156 = 0 then 48 else rd l 156
/-- What the fields are, if the sum and the magic are right. -/
def head_fields (l : List Int) : Option (ByteArray × ByteArray × ByteArray × Int × Int × Int × Int × Int × Int) :=
  (strf_Get.f (cutAt l 345 500)).bind fun p => (strf_Get.f (cutAt l 0 100)).bind fun n => (strf_Get.f (cutAt l 157 257)).bind fun k => (numf_Get.f (cutAt l 100 108)).bind fun m => (numf_Get.f (cutAt l 108 116)).bind fun u => (numf_Get.f (cutAt l 116 124)).bind fun g => (numf_Get.f (cutAt l 124 136)).bind fun s => (numf_Get.f (cutAt l 136 148)).bind fun t =>
    some (p.1, n.1, k.1, m.1, u.1, g.1, s.1, t.1, (firstE (firstE (firstE (firstE (firstE (firstE (firstE (firstE 0 p.2) n.2) k.2) m.2) u.2) g.2) s.2) t.2))
def head_Parse.f (k : Nat) (l : List Int) : Option Head :=
  (hsum_Check.f k l).bind fun e => if e = 0 then (if l.length = 512 then (if Lib.hasPrefix (Lib.bytesOf (l.drop 257)) magicL = true then
    (head_fields l).bind fun (p, n, k, m, u, g, s, t, e) => if e = 0 then (head_IsType.f (typeOf l)).bind fun b => (if b = true then (head_below.f p n m u g t s (typeOf l) k).bind fun c => (if c = true then some (noHead 10) else some (p, n, m, u, g, t, s, typeOf l, k, 0)) else some (noHead 11)) else some (noHead e)
    else some (noHead 3)) else none) else some (noHead e)

set_option maxHeartbeats 16000000 in
set_option maxRecDepth 1000000 in
theorem head_Parse.calls (k : Nat) (A0 : Option Addr) (c0 : Nat) (l0 : List Int) (r1 r2 : ByteArray) (r3 r4 r5 r6 r7 r8 : Int) (r9 : ByteArray) (r10 : Int) (w : World) (hr0 : Kd.C (Kd.int .u8) w A0 l0.length l0) (hc0 : l0.length ≤ c0) (h : head_Parse.f k l0 = some (r1, r2, r3, r4, r5, r6, r7, r8, r9, r10)) :
    Calls Tryd.prog 26 #[.slice A0 l0.length c0] w fun e w' => e = .returned (.tuple #[.agg #[.string r1, .string r2, .int .i64 r3, .int .i64 r4, .int .i64 r5, .int .i64 r6, .int .i64 r7, .int .u8 r8, .string r9], .int .i64 r10]) ∧ Below w.heap.size w w' := by
  have hu57 := Tryd.underlying57
  have HR0 := Aside0.mk hr0
  have HC0 := Aside0.mk hc0
  obtain ⟨e0, hK, h⟩ := Option.bind_eq_some_iff.1 h
  have HK := Aside0.mk hK
  clear hK hr0 hc0
  by_cases c0_ : ¬ e0 = 0
  · rw [if_neg c0_] at h
    unfold noHead at h
    simp only [Option.some.injEq, Prod.mk.injEq] at h
    obtain ⟨rfl, rfl, rfl, rfl, rfl, rfl, rfl, rfl, rfl, rfl⟩ := h
    have b1 : (e0 != 0) = true := bne_iff_ne.2 c0_
    clear c0_
    go_enter Tryd.func26, Tryd.ntmps26
    go_wp2_with (first | ((with_reducible refine gate_dst (N := 2) rfl ?_); refine box_event ?hg (N := 2) ?hd (cs := #[.string (⟨#[]⟩ : ByteArray), .string (⟨#[]⟩ : ByteArray), .int .i64 0, .int .i64 0, .int .i64 0, .int .i64 0, .int .i64 0, .int .u8 0, .string (⟨#[]⟩ : ByteArray)]) (t := 57) ?hr ?_; (case hd => rfl); (case hg => rfl); (case hr => first | (go_simp; done) | (go_simp; rfl)); intro gg hg w1 hbox hb; have HB := Aside0.mk hb; have BG := Aside0.mk hbox; have GG := Aside0.mk (Nat.le_of_eq hg.symm); clear hb hbox hg) | (go_at_call 45; (with_reducible refine (hsum_Check.calls k _ c0 l0 e0 _ (Kd.C_below HR0.out HB.out) HC0.out HK.out).mono ?_); rintro e w2 ⟨rfl, hb⟩; have n0_ := Aside0.mk (below_step HB.out hb); have n1_ := Aside0.mk (blk_below BG.out hb); clear HB BG hb; have HB := n0_; have BG := n1_; clear n0_ n1_; have hg0 := (blk_cell BG.out 0).trans (rfl : _ = some (.string (⟨#[]⟩ : ByteArray) : Value)); have fg0 := blk_frozen BG.out 0; have hg1 := (blk_cell BG.out 1).trans (rfl : _ = some (.string (⟨#[]⟩ : ByteArray) : Value)); have fg1 := blk_frozen BG.out 1; have hg2 := (blk_cell BG.out 2).trans (rfl : _ = some (.int .i64 0 : Value)); have fg2 := blk_frozen BG.out 2; have hg3 := (blk_cell BG.out 3).trans (rfl : _ = some (.int .i64 0 : Value)); have fg3 := blk_frozen BG.out 3; have hg4 := (blk_cell BG.out 4).trans (rfl : _ = some (.int .i64 0 : Value)); have fg4 := blk_frozen BG.out 4; have hg5 := (blk_cell BG.out 5).trans (rfl : _ = some (.int .i64 0 : Value)); have fg5 := blk_frozen BG.out 5; have hg6 := (blk_cell BG.out 6).trans (rfl : _ = some (.int .i64 0 : Value)); have fg6 := blk_frozen BG.out 6; have hg7 := (blk_cell BG.out 7).trans (rfl : _ = some (.int .u8 0 : Value)); have fg7 := blk_frozen BG.out 7; have hg8 := (blk_cell BG.out 8).trans (rfl : _ = some (.string (⟨#[]⟩ : ByteArray) : Value)); have fg8 := blk_frozen BG.out 8))
    refine bodyPost_ret (results_ct rfl _ _ gg 57 #[.string (⟨#[]⟩ : ByteArray), .string (⟨#[]⟩ : ByteArray), .int .i64 0, .int .i64 0, .int .i64 0, .int .i64 0, .int .i64 0, .int .u8 0, .string (⟨#[]⟩ : ByteArray)] (0, 0) _ rfl (blk_set (blk_set (blk_set (blk_set (blk_set (blk_set (blk_set (blk_set (blk_set BG.out 0 (.string (⟨#[]⟩ : ByteArray))) 1 (.string (⟨#[]⟩ : ByteArray))) 2 (.int .i64 0)) 3 (.int .i64 0)) 4 (.int .i64 0)) 5 (.int .i64 0)) 6 (.int .i64 0)) 7 (.int .u8 0)) 8 (.string (⟨#[]⟩ : ByteArray))) Tryd.underlying57 rfl (by kernel_rfl)) rfl ?_
    exact ⟨rfl, (below_set (below_set (below_set (below_set (below_set (below_set (below_set (below_set (below_set HB.out GG.out) GG.out) GG.out) GG.out) GG.out) GG.out) GG.out) GG.out) GG.out)⟩
  have c0_' := Decidable.of_not_not c0_
  subst c0_'
  clear c0_
  rw [if_pos rfl] at h
  split at h
  case isFalse => cases h
  rename_i hlen
  have HL := Aside0.mk hlen
  clear hlen
  obtain ⟨i5, hi5, hz5, hs5, hb5⟩ := info_parts info5
  obtain ⟨A7, hcut, hA7, hC7⟩ := print_drop_of (P := Tryd.prog) (Value.int .u8) (0 : Int) 22 5 .i64 Tryd.underlying22 hi5 hs5 A0 c0 l0 257 (by decide) (by have := HL.out; omega) HC0.out
  have HR7 := Aside0.mk (Kd.C_of_reads (h1 := fun _ => rfl) (hA7 w (Kd.reads_of_C (enc := Value.int .u8) (d := (0 : Int)) (h1 := fun _ => rfl) HR0.out)))
  have HC7 := Aside0.mk hC7
  rw [show ((257 : Int)).toNat = 257 from rfl] at hcut HR7 HC7
  have HP : Aside0 (∃ m, m = l0.drop 257) := ⟨_, rfl⟩
  clear hA7 hC7 hz5 hs5 hb5
  generalize hm7 : l0.drop 257 = m7 at hcut HR7 HC7 h
  clear hm7 HP
  have kc := fun W : World => Lib.run_convert_bytes_const (P := Tryd.prog) W 22 5 #[.int .u8 117, .int .u8 115, .int .u8 116, .int .u8 97, .int .u8 114, .int .u8 0, .int .u8 48, .int .u8 48] 8 8 Tryd.underlying22 Tryd.underlying5
  have hml : Lib.bytesOf ([117, 115, 116, 97, 114, 0, 48, 48] : List Int) = magicL := rfl
  by_cases cx : Lib.hasPrefix (Lib.bytesOf m7) magicL = true
  case neg =>
    rw [if_neg cx] at h
    unfold noHead at h
    simp only [Option.some.injEq, Prod.mk.injEq] at h
    obtain ⟨rfl, rfl, rfl, rfl, rfl, rfl, rfl, rfl, rfl, rfl⟩ := h
    have HX := Aside0.mk (show Lib.hasPrefix (Lib.bytesOf m7) (Lib.bytesOf ([117, 115, 116, 97, 114, 0, 48, 48] : List Int)) = false by rw [hml]; simpa using cx)
    clear cx hml
    go_enter Tryd.func26, Tryd.ntmps26
    go_wp2_with (first | ((with_reducible refine gate_dst (N := 2) rfl ?_); refine box_event ?hg (N := 2) ?hd (cs := #[.string (⟨#[]⟩ : ByteArray), .string (⟨#[]⟩ : ByteArray), .int .i64 0, .int .i64 0, .int .i64 0, .int .i64 0, .int .i64 0, .int .u8 0, .string (⟨#[]⟩ : ByteArray)]) (t := 57) ?hr ?_; (case hd => rfl); (case hg => rfl); (case hr => first | (go_simp; done) | (go_simp; rfl)); intro gg hg w1 hbox hb; have HB := Aside0.mk hb; have BG := Aside0.mk hbox; have GG := Aside0.mk (Nat.le_of_eq hg.symm); clear hb hbox hg) | (go_at_call 45; (with_reducible refine (hsum_Check.calls k _ c0 l0 0 _ (Kd.C_below HR0.out HB.out) HC0.out HK.out).mono ?_); rintro e w2 ⟨rfl, hb⟩; have n0_ := Aside0.mk (below_step HB.out hb); have n1_ := Aside0.mk (blk_below BG.out hb); clear HB BG hb; have HB := n0_; have BG := n1_; clear n0_ n1_; have hg0 := (blk_cell BG.out 0).trans (rfl : _ = some (.string (⟨#[]⟩ : ByteArray) : Value)); have fg0 := blk_frozen BG.out 0; have hg1 := (blk_cell BG.out 1).trans (rfl : _ = some (.string (⟨#[]⟩ : ByteArray) : Value)); have fg1 := blk_frozen BG.out 1; have hg2 := (blk_cell BG.out 2).trans (rfl : _ = some (.int .i64 0 : Value)); have fg2 := blk_frozen BG.out 2; have hg3 := (blk_cell BG.out 3).trans (rfl : _ = some (.int .i64 0 : Value)); have fg3 := blk_frozen BG.out 3; have hg4 := (blk_cell BG.out 4).trans (rfl : _ = some (.int .i64 0 : Value)); have fg4 := blk_frozen BG.out 4; have hg5 := (blk_cell BG.out 5).trans (rfl : _ = some (.int .i64 0 : Value)); have fg5 := blk_frozen BG.out 5; have hg6 := (blk_cell BG.out 6).trans (rfl : _ = some (.int .i64 0 : Value)); have fg6 := blk_frozen BG.out 6; have hg7 := (blk_cell BG.out 7).trans (rfl : _ = some (.int .u8 0 : Value)); have fg7 := blk_frozen BG.out 7; have hg8 := (blk_cell BG.out 8).trans (rfl : _ = some (.string (⟨#[]⟩ : ByteArray) : Value)); have fg8 := blk_frozen BG.out 8) | (go_at_call 46; (with_reducible refine (hasPrefix_C A7 _ (c0 - 257) 8 8 m7 ([117, 115, 116, 97, 114, 0, 48, 48] : List Int) false _ HC7.out rfl ?side1 ?side2 ?side3).mono ?_); (case side1 => refine Kd.C_alloc ?_ _; exact Kd.C_below HR7.out HB.out); (case side2 => exact (C_lit w2 ([117, 115, 116, 97, 114, 0, 48, 48] : List Int) (by decide) 5 (8, 9))); (case side3 => exact HX.out); rintro e w3 ⟨rfl, rfl⟩; have n0_ := Aside0.mk (below_alloc HB.out (.cells #[.int .u8 117, .int .u8 115, .int .u8 116, .int .u8 97, .int .u8 114, .int .u8 0, .int .u8 48, .int .u8 48] 5 (8, 9))); have n1_ := Aside0.mk (blk_alloc BG.out (.cells #[.int .u8 117, .int .u8 115, .int .u8 116, .int .u8 97, .int .u8 114, .int .u8 0, .int .u8 48, .int .u8 48] 5 (8, 9))); clear HB BG; have HB := n0_; have BG := n1_; clear n0_ n1_; have hg0 := (blk_cell BG.out 0).trans (rfl : _ = some (.string (⟨#[]⟩ : ByteArray) : Value)); have fg0 := blk_frozen BG.out 0; have hg1 := (blk_cell BG.out 1).trans (rfl : _ = some (.string (⟨#[]⟩ : ByteArray) : Value)); have fg1 := blk_frozen BG.out 1; have hg2 := (blk_cell BG.out 2).trans (rfl : _ = some (.int .i64 0 : Value)); have fg2 := blk_frozen BG.out 2; have hg3 := (blk_cell BG.out 3).trans (rfl : _ = some (.int .i64 0 : Value)); have fg3 := blk_frozen BG.out 3; have hg4 := (blk_cell BG.out 4).trans (rfl : _ = some (.int .i64 0 : Value)); have fg4 := blk_frozen BG.out 4; have hg5 := (blk_cell BG.out 5).trans (rfl : _ = some (.int .i64 0 : Value)); have fg5 := blk_frozen BG.out 5; have hg6 := (blk_cell BG.out 6).trans (rfl : _ = some (.int .i64 0 : Value)); have fg6 := blk_frozen BG.out 6; have hg7 := (blk_cell BG.out 7).trans (rfl : _ = some (.int .u8 0 : Value)); have fg7 := blk_frozen BG.out 7; have hg8 := (blk_cell BG.out 8).trans (rfl : _ = some (.string (⟨#[]⟩ : ByteArray) : Value)); have fg8 := blk_frozen BG.out 8))
    refine bodyPost_ret (results_ct rfl _ _ gg 57 #[.string (⟨#[]⟩ : ByteArray), .string (⟨#[]⟩ : ByteArray), .int .i64 0, .int .i64 0, .int .i64 0, .int .i64 0, .int .i64 0, .int .u8 0, .string (⟨#[]⟩ : ByteArray)] (0, 0) _ rfl (blk_set (blk_set (blk_set (blk_set (blk_set (blk_set (blk_set (blk_set (blk_set BG.out 0 (.string (⟨#[]⟩ : ByteArray))) 1 (.string (⟨#[]⟩ : ByteArray))) 2 (.int .i64 0)) 3 (.int .i64 0)) 4 (.int .i64 0)) 5 (.int .i64 0)) 6 (.int .i64 0)) 7 (.int .u8 0)) 8 (.string (⟨#[]⟩ : ByteArray))) Tryd.underlying57 rfl (by kernel_rfl)) rfl ?_
    exact ⟨rfl, (below_set (below_set (below_set (below_set (below_set (below_set (below_set (below_set (below_set HB.out GG.out) GG.out) GG.out) GG.out) GG.out) GG.out) GG.out) GG.out) GG.out)⟩
  rw [if_pos cx] at h
  have HX := Aside0.mk (show Lib.hasPrefix (Lib.bytesOf m7) (Lib.bytesOf ([117, 115, 116, 97, 114, 0, 48, 48] : List Int)) = true by rw [hml]; exact cx)
  clear cx hml
  obtain ⟨⟨p1, n1, k1, m1, u1, g1, s1, t1, E8⟩, hF, h⟩ := Option.bind_eq_some_iff.1 h
  unfold head_fields at hF
  obtain ⟨⟨p_, p2⟩, hp, hF⟩ := Option.bind_eq_some_iff.1 hF
  unfold cutAt at hp
  have Hp := Aside0.mk hp
  clear hp
  obtain ⟨⟨n_, n2⟩, hn, hF⟩ := Option.bind_eq_some_iff.1 hF
  unfold cutAt at hn
  have Hn := Aside0.mk hn
  clear hn
  obtain ⟨⟨k_, k2⟩, hk, hF⟩ := Option.bind_eq_some_iff.1 hF
  unfold cutAt at hk
  have Hk := Aside0.mk hk
  clear hk
  obtain ⟨⟨m_, m2⟩, hm, hF⟩ := Option.bind_eq_some_iff.1 hF
  unfold cutAt at hm
  have Hm := Aside0.mk hm
  clear hm
  obtain ⟨⟨u_, u2⟩, hu, hF⟩ := Option.bind_eq_some_iff.1 hF
  unfold cutAt at hu
  have Hu := Aside0.mk hu
  clear hu
  obtain ⟨⟨g_, g2⟩, hg, hF⟩ := Option.bind_eq_some_iff.1 hF
  unfold cutAt at hg
  have Hg := Aside0.mk hg
  clear hg
  obtain ⟨⟨s_, s2⟩, hs, hF⟩ := Option.bind_eq_some_iff.1 hF
  unfold cutAt at hs
  have Hs := Aside0.mk hs
  clear hs
  obtain ⟨⟨t_, t2⟩, ht, hF⟩ := Option.bind_eq_some_iff.1 hF
  unfold cutAt at ht
  have Ht := Aside0.mk ht
  clear ht
  simp only [Option.some.injEq, Prod.mk.injEq] at hF
  obtain ⟨rfl, rfl, rfl, rfl, rfl, rfl, rfl, rfl, hE8⟩ := hF
  have HE8 := Aside0.mk hE8
  clear hE8
  dsimp only at h
  have hl156 : 156 < l0.length := by have := HL.out; omega
  obtain ⟨ab, ao, ea, hx156⟩ := C_at HR0.out 156 hl156
  cases ea
  rw [show l0[156] = rd l0 156 by unfold rd; simp [List.getD_eq_getElem?_getD, hl156]] at hx156
  clear hl156
  unfold typeOf at h
  generalize rd l0 156 = x7 at h hx156
  have HH := Aside0.mk h
  clear h
  have q156 : (156 : Int) < (l0.length : Int) := by have := HL.out; omega
  have Q156 := Aside0.mk q156
  replace q156 := eq_true q156
  go_enter Tryd.func26, Tryd.ntmps26
  go_wp2_with (first | ((with_reducible refine gate_dst (N := 2) rfl ?_); refine box_event ?hg (N := 2) ?hd (cs := #[.string (⟨#[]⟩ : ByteArray), .string (⟨#[]⟩ : ByteArray), .int .i64 0, .int .i64 0, .int .i64 0, .int .i64 0, .int .i64 0, .int .u8 0, .string (⟨#[]⟩ : ByteArray)]) (t := 57) ?hr ?_; (case hd => rfl); (case hg => rfl); (case hr => first | (go_simp; done) | (go_simp; rfl)); intro gg hg w1 hbox hb; have HB := Aside0.mk hb; have BG := Aside0.mk hbox; have GG := Aside0.mk (Nat.le_of_eq hg.symm); clear hb hbox hg) | (go_at_call 45; (with_reducible refine (hsum_Check.calls k _ c0 l0 0 _ (Kd.C_below HR0.out HB.out) HC0.out HK.out).mono ?_); rintro e w2 ⟨rfl, hb⟩; have n0_ := Aside0.mk (below_step HB.out hb); have n1_ := Aside0.mk (blk_below BG.out hb); clear HB BG hb; have HB := n0_; have BG := n1_; clear n0_ n1_; skip) | (go_at_call 46; (with_reducible refine (hasPrefix_C A7 _ (c0 - 257) 8 8 m7 ([117, 115, 116, 97, 114, 0, 48, 48] : List Int) true _ HC7.out rfl ?side1 ?side2 ?side3).mono ?_); (case side1 => refine Kd.C_alloc ?_ _; exact Kd.C_below HR7.out HB.out); (case side2 => exact (C_lit w2 ([117, 115, 116, 97, 114, 0, 48, 48] : List Int) (by decide) 5 (8, 9))); (case side3 => exact HX.out); rintro e w3 ⟨rfl, rfl⟩; have n0_ := Aside0.mk (below_alloc HB.out (.cells #[.int .u8 117, .int .u8 115, .int .u8 116, .int .u8 97, .int .u8 114, .int .u8 0, .int .u8 48, .int .u8 48] 5 (8, 9))); have n1_ := Aside0.mk (blk_alloc BG.out (.cells #[.int .u8 117, .int .u8 115, .int .u8 116, .int .u8 97, .int .u8 114, .int .u8 0, .int .u8 48, .int .u8 48] 5 (8, 9))); clear HB BG; have HB := n0_; have BG := n1_; clear n0_ n1_; have hx7 := (HB.out.cell (World.block_lt_of_cell? w _ hx156)).trans hx156) | ((with_reducible refine gate_dst (N := 22) rfl ?_); refine box_event ?hg (N := 22) ?hd (cs := #[.slice (some ⟨ab, ao, none⟩) l0.length c0, .int .i64 0]) (t := 90) ?hr ?_; (case hd => rfl); (case hg => rfl); (case hr => first | (go_simp; done) | (go_simp; rfl)); intro gr hg w4 hbox hb; have n0_ := Aside0.mk (below_step HB.out hb); have n1_ := Aside0.mk (blk_below BG.out hb); have GR := Aside0.mk (Nat.le_trans (below_size HB.out) (Nat.le_of_eq hg.symm)); have BR := Aside0.mk hbox; clear HB BG hb hbox hg; have HB := n0_; have BG := n1_; clear n0_ n1_; have hy7 := (HB.out.cell (World.block_lt_of_cell? w _ hx156)).trans hx156) | ((with_reducible refine gate_dst (N := 6) rfl ?_); refine box_event ?hg (N := 6) ?hd (cs := #[.string (⟨#[]⟩ : ByteArray), .string (⟨#[]⟩ : ByteArray), .int .i64 0, .int .i64 0, .int .i64 0, .int .i64 0, .int .i64 0, .int .u8 0, .string (⟨#[]⟩ : ByteArray)]) (t := 57) ?hr ?_; (case hd => rfl); (case hg => rfl); (case hr => first | (go_simp; done) | (go_simp; rfl)); intro gh hg w5 hbox hb; have n0_ := Aside0.mk (below_step HB.out hb); have n1_ := Aside0.mk (blk_below BG.out hb); have n2_ := Aside0.mk (blk_below BR.out hb); have GH := Aside0.mk (Nat.le_trans (below_size HB.out) (Nat.le_of_eq hg.symm)); have NGH : Aside0 (gg ≠ gh) := ⟨by have := blk_lt BG.out; omega⟩; have BH := Aside0.mk hbox; clear HB BG BR hb hbox hg; have HB := n0_; have BG := n1_; have BR := n2_; clear n0_ n1_ n2_; have NRH : Aside0 (gr ≠ gh) := ⟨blk_ne BR.out BH.out (by decide)⟩; have NRG : Aside0 (gg ≠ gr) := ⟨blk_ne BG.out BR.out (by decide)⟩; have hh0 := (blk_cell BH.out 0).trans (rfl : _ = some (.string (⟨#[]⟩ : ByteArray) : Value)); have fh0 := blk_frozen BH.out 0; have hh1 := (blk_cell BH.out 1).trans (rfl : _ = some (.string (⟨#[]⟩ : ByteArray) : Value)); have fh1 := blk_frozen BH.out 1; have hh2 := (blk_cell BH.out 2).trans (rfl : _ = some (.int .i64 0 : Value)); have fh2 := blk_frozen BH.out 2; have hh3 := (blk_cell BH.out 3).trans (rfl : _ = some (.int .i64 0 : Value)); have fh3 := blk_frozen BH.out 3; have hh4 := (blk_cell BH.out 4).trans (rfl : _ = some (.int .i64 0 : Value)); have fh4 := blk_frozen BH.out 4; have hh5 := (blk_cell BH.out 5).trans (rfl : _ = some (.int .i64 0 : Value)); have fh5 := blk_frozen BH.out 5; have hh6 := (blk_cell BH.out 6).trans (rfl : _ = some (.int .i64 0 : Value)); have fh6 := blk_frozen BH.out 6; have hh7 := (blk_cell BH.out 7).trans (rfl : _ = some (.int .u8 0 : Value)); have fh7 := blk_frozen BH.out 7; have hh8 := (blk_cell BH.out 8).trans (rfl : _ = some (.string (⟨#[]⟩ : ByteArray) : Value)); have fh8 := blk_frozen BH.out 8))
  go_at_call 47
  with_reducible refine (reader_text.calls (some ⟨ab, ao, none⟩) c0 gr l0 345 155 0 p2 p_ _ (by decide) (by decide) (by have := HL.out; omega) (by have := HL.out; omega) HC0.out ?sb (Kd.C_below HR0.out ?sB) (by rw [show ((345 : Int) + 155).toNat = 500 from rfl, show (345 : Int).toNat = 345 from rfl]; exact Hp.out)).mono ?_
  case sb => exact (blk_far (blk_far (blk_far (blk_far (blk_far (blk_far (blk_far (blk_far (blk_far BR.out (p := ⟨gh, 0, none⟩) NRH.out (.string (⟨#[]⟩ : ByteArray))) (p := ⟨gh, 1, none⟩) NRH.out (.string (⟨#[]⟩ : ByteArray))) (p := ⟨gh, 2, none⟩) NRH.out (.int .i64 0)) (p := ⟨gh, 3, none⟩) NRH.out (.int .i64 0)) (p := ⟨gh, 4, none⟩) NRH.out (.int .i64 0)) (p := ⟨gh, 5, none⟩) NRH.out (.int .i64 0)) (p := ⟨gh, 6, none⟩) NRH.out (.int .i64 0)) (p := ⟨gh, 7, none⟩) NRH.out (.int .u8 x7)) (p := ⟨gh, 8, none⟩) NRH.out (.string (⟨#[]⟩ : ByteArray)))
  case sB => exact (below_set (j := 8) (v := .string (⟨#[]⟩ : ByteArray)) (below_set (j := 7) (v := .int .u8 x7) (below_set (j := 6) (v := .int .i64 0) (below_set (j := 5) (v := .int .i64 0) (below_set (j := 4) (v := .int .i64 0) (below_set (j := 3) (v := .int .i64 0) (below_set (j := 2) (v := .int .i64 0) (below_set (j := 1) (v := .string (⟨#[]⟩ : ByteArray)) (below_set (j := 0) (v := .string (⟨#[]⟩ : ByteArray)) HB.out GH.out) GH.out) GH.out) GH.out) GH.out) GH.out) GH.out) GH.out) GH.out)
  rintro en w6 ⟨rfl, hbr, hn⟩
  have n0_ := Aside0.mk (Below.near (below_set (j := 8) (v := .string (⟨#[]⟩ : ByteArray)) (below_set (j := 7) (v := .int .u8 x7) (below_set (j := 6) (v := .int .i64 0) (below_set (j := 5) (v := .int .i64 0) (below_set (j := 4) (v := .int .i64 0) (below_set (j := 3) (v := .int .i64 0) (below_set (j := 2) (v := .int .i64 0) (below_set (j := 1) (v := .string (⟨#[]⟩ : ByteArray)) (below_set (j := 0) (v := .string (⟨#[]⟩ : ByteArray)) HB.out GH.out) GH.out) GH.out) GH.out) GH.out) GH.out) GH.out) GH.out) GH.out) (below_size (below_set (j := 8) (v := .string (⟨#[]⟩ : ByteArray)) (below_set (j := 7) (v := .int .u8 x7) (below_set (j := 6) (v := .int .i64 0) (below_set (j := 5) (v := .int .i64 0) (below_set (j := 4) (v := .int .i64 0) (below_set (j := 3) (v := .int .i64 0) (below_set (j := 2) (v := .int .i64 0) (below_set (j := 1) (v := .string (⟨#[]⟩ : ByteArray)) (below_set (j := 0) (v := .string (⟨#[]⟩ : ByteArray)) HB.out GH.out) GH.out) GH.out) GH.out) GH.out) GH.out) GH.out) GH.out) GH.out)) GR.out hn)
  have n1_ := Aside0.mk (hn.blk (blk_far (blk_far (blk_far (blk_far (blk_far (blk_far (blk_far (blk_far (blk_far BG.out (p := ⟨gh, 0, none⟩) NGH.out (.string (⟨#[]⟩ : ByteArray))) (p := ⟨gh, 1, none⟩) NGH.out (.string (⟨#[]⟩ : ByteArray))) (p := ⟨gh, 2, none⟩) NGH.out (.int .i64 0)) (p := ⟨gh, 3, none⟩) NGH.out (.int .i64 0)) (p := ⟨gh, 4, none⟩) NGH.out (.int .i64 0)) (p := ⟨gh, 5, none⟩) NGH.out (.int .i64 0)) (p := ⟨gh, 6, none⟩) NGH.out (.int .i64 0)) (p := ⟨gh, 7, none⟩) NGH.out (.int .u8 x7)) (p := ⟨gh, 8, none⟩) NGH.out (.string (⟨#[]⟩ : ByteArray))) NRG.out)
  have n2_ : Aside0 (w6.heap[gh]? = some (.cells #[.string (⟨#[]⟩ : ByteArray), .string (⟨#[]⟩ : ByteArray), .int .i64 0, .int .i64 0, .int .i64 0, .int .i64 0, .int .i64 0, .int .u8 x7, .string (⟨#[]⟩ : ByteArray)] 57 (0, 0))) := ⟨hn.blk (blk_set (blk_set (blk_set (blk_set (blk_set (blk_set (blk_set (blk_set (blk_set BH.out 0 (.string (⟨#[]⟩ : ByteArray))) 1 (.string (⟨#[]⟩ : ByteArray))) 2 (.int .i64 0)) 3 (.int .i64 0)) 4 (.int .i64 0)) 5 (.int .i64 0)) 6 (.int .i64 0)) 7 (.int .u8 x7)) 8 (.string (⟨#[]⟩ : ByteArray))) NRH.out.symm⟩
  have n3_ : Aside0 (w6.heap[gr]? = some (.cells #[.slice (some ⟨ab, ao, none⟩) l0.length c0, .int .i64 (firstE 0 p2)] 90 (0, 0))) := ⟨hbr⟩
  clear HB BG BH BR hbr hn
  have HB := n0_
  have BG := n1_
  have BH := n2_
  have BR := n3_
  clear n0_ n1_ n2_ n3_
  have hs := (blk_cell BH.out 0).trans (rfl : _ = some (.string (⟨#[]⟩ : ByteArray) : Value))
  have fs := blk_frozen BH.out 0
  go_wp2_with fail
  clear hs fs
  go_at_call 47
  with_reducible refine (reader_text.calls (some ⟨ab, ao, none⟩) c0 gr l0 0 100 (firstE 0 p2) n2 n_ _ (by decide) (by decide) (by have := HL.out; omega) (by have := HL.out; omega) HC0.out ?sb (Kd.C_below HR0.out ?sB) (by rw [show ((0 : Int) + 100).toNat = 100 from rfl, show (0 : Int).toNat = 0 from rfl]; exact Hn.out)).mono ?_
  case sb => exact (blk_far BR.out (p := ⟨gh, 0, none⟩) NRH.out (.string p_))
  case sB => exact (below_set (j := 0) (v := .string p_) HB.out GH.out)
  rintro en w7 ⟨rfl, hbr, hn⟩
  have n0_ := Aside0.mk (Below.near (below_set (j := 0) (v := .string p_) HB.out GH.out) (below_size (below_set (j := 0) (v := .string p_) HB.out GH.out)) GR.out hn)
  have n1_ := Aside0.mk (hn.blk (blk_far BG.out (p := ⟨gh, 0, none⟩) NGH.out (.string p_)) NRG.out)
  have n2_ : Aside0 (w7.heap[gh]? = some (.cells #[.string p_, .string (⟨#[]⟩ : ByteArray), .int .i64 0, .int .i64 0, .int .i64 0, .int .i64 0, .int .i64 0, .int .u8 x7, .string (⟨#[]⟩ : ByteArray)] 57 (0, 0))) := ⟨hn.blk (blk_set BH.out 0 (.string p_)) NRH.out.symm⟩
  have n3_ : Aside0 (w7.heap[gr]? = some (.cells #[.slice (some ⟨ab, ao, none⟩) l0.length c0, .int .i64 (firstE (firstE 0 p2) n2)] 90 (0, 0))) := ⟨hbr⟩
  clear HB BG BH BR hbr hn
  have HB := n0_
  have BG := n1_
  have BH := n2_
  have BR := n3_
  clear n0_ n1_ n2_ n3_
  have hs := (blk_cell BH.out 1).trans (rfl : _ = some (.string (⟨#[]⟩ : ByteArray) : Value))
  have fs := blk_frozen BH.out 1
  go_wp2_with fail
  clear hs fs
  go_at_call 47
  with_reducible refine (reader_text.calls (some ⟨ab, ao, none⟩) c0 gr l0 157 100 (firstE (firstE 0 p2) n2) k2 k_ _ (by decide) (by decide) (by have := HL.out; omega) (by have := HL.out; omega) HC0.out ?sb (Kd.C_below HR0.out ?sB) (by rw [show ((157 : Int) + 100).toNat = 257 from rfl, show (157 : Int).toNat = 157 from rfl]; exact Hk.out)).mono ?_
  case sb => exact (blk_far BR.out (p := ⟨gh, 1, none⟩) NRH.out (.string n_))
  case sB => exact (below_set (j := 1) (v := .string n_) HB.out GH.out)
  rintro en w8 ⟨rfl, hbr, hn⟩
  have n0_ := Aside0.mk (Below.near (below_set (j := 1) (v := .string n_) HB.out GH.out) (below_size (below_set (j := 1) (v := .string n_) HB.out GH.out)) GR.out hn)
  have n1_ := Aside0.mk (hn.blk (blk_far BG.out (p := ⟨gh, 1, none⟩) NGH.out (.string n_)) NRG.out)
  have n2_ : Aside0 (w8.heap[gh]? = some (.cells #[.string p_, .string n_, .int .i64 0, .int .i64 0, .int .i64 0, .int .i64 0, .int .i64 0, .int .u8 x7, .string (⟨#[]⟩ : ByteArray)] 57 (0, 0))) := ⟨hn.blk (blk_set BH.out 1 (.string n_)) NRH.out.symm⟩
  have n3_ : Aside0 (w8.heap[gr]? = some (.cells #[.slice (some ⟨ab, ao, none⟩) l0.length c0, .int .i64 (firstE (firstE (firstE 0 p2) n2) k2)] 90 (0, 0))) := ⟨hbr⟩
  clear HB BG BH BR hbr hn
  have HB := n0_
  have BG := n1_
  have BH := n2_
  have BR := n3_
  clear n0_ n1_ n2_ n3_
  have hs := (blk_cell BH.out 8).trans (rfl : _ = some (.string (⟨#[]⟩ : ByteArray) : Value))
  have fs := blk_frozen BH.out 8
  go_wp2_with fail
  clear hs fs
  go_at_call 48
  with_reducible refine (reader_number.calls (some ⟨ab, ao, none⟩) c0 gr l0 100 8 (firstE (firstE (firstE 0 p2) n2) k2) m2 m_ _ (by decide) (by decide) (by have := HL.out; omega) (by have := HL.out; omega) HC0.out ?sb (Kd.C_below HR0.out ?sB) (by rw [show ((100 : Int) + 8).toNat = 108 from rfl, show (100 : Int).toNat = 100 from rfl]; exact Hm.out)).mono ?_
  case sb => exact (blk_far BR.out (p := ⟨gh, 8, none⟩) NRH.out (.string k_))
  case sB => exact (below_set (j := 8) (v := .string k_) HB.out GH.out)
  rintro en w9 ⟨rfl, hbr, hn⟩
  have n0_ := Aside0.mk (Below.near (below_set (j := 8) (v := .string k_) HB.out GH.out) (below_size (below_set (j := 8) (v := .string k_) HB.out GH.out)) GR.out hn)
  have n1_ := Aside0.mk (hn.blk (blk_far BG.out (p := ⟨gh, 8, none⟩) NGH.out (.string k_)) NRG.out)
  have n2_ : Aside0 (w9.heap[gh]? = some (.cells #[.string p_, .string n_, .int .i64 0, .int .i64 0, .int .i64 0, .int .i64 0, .int .i64 0, .int .u8 x7, .string k_] 57 (0, 0))) := ⟨hn.blk (blk_set BH.out 8 (.string k_)) NRH.out.symm⟩
  have n3_ : Aside0 (w9.heap[gr]? = some (.cells #[.slice (some ⟨ab, ao, none⟩) l0.length c0, .int .i64 (firstE (firstE (firstE (firstE 0 p2) n2) k2) m2)] 90 (0, 0))) := ⟨hbr⟩
  clear HB BG BH BR hbr hn
  have HB := n0_
  have BG := n1_
  have BH := n2_
  have BR := n3_
  clear n0_ n1_ n2_ n3_
  have hs := (blk_cell BH.out 2).trans (rfl : _ = some (.int .i64 0 : Value))
  have fs := blk_frozen BH.out 2
  go_wp2_with fail
  clear hs fs
  go_at_call 48
  with_reducible refine (reader_number.calls (some ⟨ab, ao, none⟩) c0 gr l0 108 8 (firstE (firstE (firstE (firstE 0 p2) n2) k2) m2) u2 u_ _ (by decide) (by decide) (by have := HL.out; omega) (by have := HL.out; omega) HC0.out ?sb (Kd.C_below HR0.out ?sB) (by rw [show ((108 : Int) + 8).toNat = 116 from rfl, show (108 : Int).toNat = 108 from rfl]; exact Hu.out)).mono ?_
  case sb => exact (blk_far BR.out (p := ⟨gh, 2, none⟩) NRH.out (.int .i64 m_))
  case sB => exact (below_set (j := 2) (v := .int .i64 m_) HB.out GH.out)
  rintro en w10 ⟨rfl, hbr, hn⟩
  have n0_ := Aside0.mk (Below.near (below_set (j := 2) (v := .int .i64 m_) HB.out GH.out) (below_size (below_set (j := 2) (v := .int .i64 m_) HB.out GH.out)) GR.out hn)
  have n1_ := Aside0.mk (hn.blk (blk_far BG.out (p := ⟨gh, 2, none⟩) NGH.out (.int .i64 m_)) NRG.out)
  have n2_ : Aside0 (w10.heap[gh]? = some (.cells #[.string p_, .string n_, .int .i64 m_, .int .i64 0, .int .i64 0, .int .i64 0, .int .i64 0, .int .u8 x7, .string k_] 57 (0, 0))) := ⟨hn.blk (blk_set BH.out 2 (.int .i64 m_)) NRH.out.symm⟩
  have n3_ : Aside0 (w10.heap[gr]? = some (.cells #[.slice (some ⟨ab, ao, none⟩) l0.length c0, .int .i64 (firstE (firstE (firstE (firstE (firstE 0 p2) n2) k2) m2) u2)] 90 (0, 0))) := ⟨hbr⟩
  clear HB BG BH BR hbr hn
  have HB := n0_
  have BG := n1_
  have BH := n2_
  have BR := n3_
  clear n0_ n1_ n2_ n3_
  have hs := (blk_cell BH.out 3).trans (rfl : _ = some (.int .i64 0 : Value))
  have fs := blk_frozen BH.out 3
  go_wp2_with fail
  clear hs fs
  go_at_call 48
  with_reducible refine (reader_number.calls (some ⟨ab, ao, none⟩) c0 gr l0 116 8 (firstE (firstE (firstE (firstE (firstE 0 p2) n2) k2) m2) u2) g2 g_ _ (by decide) (by decide) (by have := HL.out; omega) (by have := HL.out; omega) HC0.out ?sb (Kd.C_below HR0.out ?sB) (by rw [show ((116 : Int) + 8).toNat = 124 from rfl, show (116 : Int).toNat = 116 from rfl]; exact Hg.out)).mono ?_
  case sb => exact (blk_far BR.out (p := ⟨gh, 3, none⟩) NRH.out (.int .i64 u_))
  case sB => exact (below_set (j := 3) (v := .int .i64 u_) HB.out GH.out)
  rintro en w11 ⟨rfl, hbr, hn⟩
  have n0_ := Aside0.mk (Below.near (below_set (j := 3) (v := .int .i64 u_) HB.out GH.out) (below_size (below_set (j := 3) (v := .int .i64 u_) HB.out GH.out)) GR.out hn)
  have n1_ := Aside0.mk (hn.blk (blk_far BG.out (p := ⟨gh, 3, none⟩) NGH.out (.int .i64 u_)) NRG.out)
  have n2_ : Aside0 (w11.heap[gh]? = some (.cells #[.string p_, .string n_, .int .i64 m_, .int .i64 u_, .int .i64 0, .int .i64 0, .int .i64 0, .int .u8 x7, .string k_] 57 (0, 0))) := ⟨hn.blk (blk_set BH.out 3 (.int .i64 u_)) NRH.out.symm⟩
  have n3_ : Aside0 (w11.heap[gr]? = some (.cells #[.slice (some ⟨ab, ao, none⟩) l0.length c0, .int .i64 (firstE (firstE (firstE (firstE (firstE (firstE 0 p2) n2) k2) m2) u2) g2)] 90 (0, 0))) := ⟨hbr⟩
  clear HB BG BH BR hbr hn
  have HB := n0_
  have BG := n1_
  have BH := n2_
  have BR := n3_
  clear n0_ n1_ n2_ n3_
  have hs := (blk_cell BH.out 4).trans (rfl : _ = some (.int .i64 0 : Value))
  have fs := blk_frozen BH.out 4
  go_wp2_with fail
  clear hs fs
  go_at_call 48
  with_reducible refine (reader_number.calls (some ⟨ab, ao, none⟩) c0 gr l0 124 12 (firstE (firstE (firstE (firstE (firstE (firstE 0 p2) n2) k2) m2) u2) g2) s2 s_ _ (by decide) (by decide) (by have := HL.out; omega) (by have := HL.out; omega) HC0.out ?sb (Kd.C_below HR0.out ?sB) (by rw [show ((124 : Int) + 12).toNat = 136 from rfl, show (124 : Int).toNat = 124 from rfl]; exact Hs.out)).mono ?_
  case sb => exact (blk_far BR.out (p := ⟨gh, 4, none⟩) NRH.out (.int .i64 g_))
  case sB => exact (below_set (j := 4) (v := .int .i64 g_) HB.out GH.out)
  rintro en w12 ⟨rfl, hbr, hn⟩
  have n0_ := Aside0.mk (Below.near (below_set (j := 4) (v := .int .i64 g_) HB.out GH.out) (below_size (below_set (j := 4) (v := .int .i64 g_) HB.out GH.out)) GR.out hn)
  have n1_ := Aside0.mk (hn.blk (blk_far BG.out (p := ⟨gh, 4, none⟩) NGH.out (.int .i64 g_)) NRG.out)
  have n2_ : Aside0 (w12.heap[gh]? = some (.cells #[.string p_, .string n_, .int .i64 m_, .int .i64 u_, .int .i64 g_, .int .i64 0, .int .i64 0, .int .u8 x7, .string k_] 57 (0, 0))) := ⟨hn.blk (blk_set BH.out 4 (.int .i64 g_)) NRH.out.symm⟩
  have n3_ : Aside0 (w12.heap[gr]? = some (.cells #[.slice (some ⟨ab, ao, none⟩) l0.length c0, .int .i64 (firstE (firstE (firstE (firstE (firstE (firstE (firstE 0 p2) n2) k2) m2) u2) g2) s2)] 90 (0, 0))) := ⟨hbr⟩
  clear HB BG BH BR hbr hn
  have HB := n0_
  have BG := n1_
  have BH := n2_
  have BR := n3_
  clear n0_ n1_ n2_ n3_
  have hs := (blk_cell BH.out 6).trans (rfl : _ = some (.int .i64 0 : Value))
  have fs := blk_frozen BH.out 6
  go_wp2_with fail
  clear hs fs
  go_at_call 48
  with_reducible refine (reader_number.calls (some ⟨ab, ao, none⟩) c0 gr l0 136 12 (firstE (firstE (firstE (firstE (firstE (firstE (firstE 0 p2) n2) k2) m2) u2) g2) s2) t2 t_ _ (by decide) (by decide) (by have := HL.out; omega) (by have := HL.out; omega) HC0.out ?sb (Kd.C_below HR0.out ?sB) (by rw [show ((136 : Int) + 12).toNat = 148 from rfl, show (136 : Int).toNat = 136 from rfl]; exact Ht.out)).mono ?_
  case sb => exact (blk_far BR.out (p := ⟨gh, 6, none⟩) NRH.out (.int .i64 s_))
  case sB => exact (below_set (j := 6) (v := .int .i64 s_) HB.out GH.out)
  rintro en w13 ⟨rfl, hbr, hn⟩
  have n0_ := Aside0.mk (Below.near (below_set (j := 6) (v := .int .i64 s_) HB.out GH.out) (below_size (below_set (j := 6) (v := .int .i64 s_) HB.out GH.out)) GR.out hn)
  have n1_ := Aside0.mk (hn.blk (blk_far BG.out (p := ⟨gh, 6, none⟩) NGH.out (.int .i64 s_)) NRG.out)
  have n2_ : Aside0 (w13.heap[gh]? = some (.cells #[.string p_, .string n_, .int .i64 m_, .int .i64 u_, .int .i64 g_, .int .i64 0, .int .i64 s_, .int .u8 x7, .string k_] 57 (0, 0))) := ⟨hn.blk (blk_set BH.out 6 (.int .i64 s_)) NRH.out.symm⟩
  have n3_ : Aside0 (w13.heap[gr]? = some (.cells #[.slice (some ⟨ab, ao, none⟩) l0.length c0, .int .i64 (firstE (firstE (firstE (firstE (firstE (firstE (firstE (firstE 0 p2) n2) k2) m2) u2) g2) s2) t2)] 90 (0, 0))) := ⟨hbr⟩
  clear HB BG BH BR hbr hn
  have HB := n0_
  have BG := n1_
  have BH := n2_
  have BR := n3_
  clear n0_ n1_ n2_ n3_
  have n0_ : Aside0 (w13.heap[gr]? = some (.cells #[.slice (some ⟨ab, ao, none⟩) l0.length c0, .int .i64 E8] 90 (0, 0))) := ⟨by rw [← HE8.out]; exact BR.out⟩
  clear BR
  have BR := n0_
  clear n0_
  by_cases cz : x7 = 0
  · subst cz
    have h := HH.out
    clear HH
    rw [if_pos (rfl : (0 : Int) = 0)] at h
    have hh0 := (blk_cell BH.out 0).trans (rfl : _ = some (.string p_ : Value))
    have fh0 := blk_frozen BH.out 0
    have hh1 := (blk_cell BH.out 1).trans (rfl : _ = some (.string n_ : Value))
    have fh1 := blk_frozen BH.out 1
    have hh2 := (blk_cell BH.out 2).trans (rfl : _ = some (.int .i64 m_ : Value))
    have fh2 := blk_frozen BH.out 2
    have hh3 := (blk_cell BH.out 3).trans (rfl : _ = some (.int .i64 u_ : Value))
    have fh3 := blk_frozen BH.out 3
    have hh4 := (blk_cell BH.out 4).trans (rfl : _ = some (.int .i64 g_ : Value))
    have fh4 := blk_frozen BH.out 4
    have hh5 := (blk_cell BH.out 5).trans (rfl : _ = some (.int .i64 0 : Value))
    have fh5 := blk_frozen BH.out 5
    have hh6 := (blk_cell BH.out 6).trans (rfl : _ = some (.int .i64 s_ : Value))
    have fh6 := blk_frozen BH.out 6
    have hh7 := (blk_cell BH.out 7).trans (rfl : _ = some (.int .u8 0 : Value))
    have fh7 := blk_frozen BH.out 7
    have hh8 := (blk_cell BH.out 8).trans (rfl : _ = some (.string k_ : Value))
    have fh8 := blk_frozen BH.out 8
    have hg0 := (blk_cell BG.out 0).trans (rfl : _ = some (.string (⟨#[]⟩ : ByteArray) : Value))
    have fg0 := blk_frozen BG.out 0
    have hg1 := (blk_cell BG.out 1).trans (rfl : _ = some (.string (⟨#[]⟩ : ByteArray) : Value))
    have fg1 := blk_frozen BG.out 1
    have hg2 := (blk_cell BG.out 2).trans (rfl : _ = some (.int .i64 0 : Value))
    have fg2 := blk_frozen BG.out 2
    have hg3 := (blk_cell BG.out 3).trans (rfl : _ = some (.int .i64 0 : Value))
    have fg3 := blk_frozen BG.out 3
    have hg4 := (blk_cell BG.out 4).trans (rfl : _ = some (.int .i64 0 : Value))
    have fg4 := blk_frozen BG.out 4
    have hg5 := (blk_cell BG.out 5).trans (rfl : _ = some (.int .i64 0 : Value))
    have fg5 := blk_frozen BG.out 5
    have hg6 := (blk_cell BG.out 6).trans (rfl : _ = some (.int .i64 0 : Value))
    have fg6 := blk_frozen BG.out 6
    have hg7 := (blk_cell BG.out 7).trans (rfl : _ = some (.int .u8 0 : Value))
    have fg7 := blk_frozen BG.out 7
    have hg8 := (blk_cell BG.out 8).trans (rfl : _ = some (.string (⟨#[]⟩ : ByteArray) : Value))
    have fg8 := blk_frozen BG.out 8
    have hr1 := (blk_cell BR.out 1).trans (rfl : _ = some (.int .i64 E8 : Value))
    by_cases cE : ¬ E8 = 0
    · rw [if_neg cE] at h
      unfold noHead at h
      simp only [Option.some.injEq, Prod.mk.injEq] at h
      obtain ⟨rfl, rfl, rfl, rfl, rfl, rfl, rfl, rfl, rfl, rfl⟩ := h
      have b1 : (E8 != 0) = true := bne_iff_ne.2 cE
      clear cE
      have BX := Aside0.mk (show (World.setCell (World.setCell w13 ⟨gh, 5, none⟩ (.int .i64 t_)) ⟨gh, 7, none⟩ (.int .u8 48)).heap[gg]? = some (.cells #[.string (⟨#[]⟩ : ByteArray), .string (⟨#[]⟩ : ByteArray), .int .i64 0, .int .i64 0, .int .i64 0, .int .i64 0, .int .i64 0, .int .u8 0, .string (⟨#[]⟩ : ByteArray)] 57 (0, 0)) from (blk_far (blk_far BG.out (p := ⟨gh, 5, none⟩) NGH.out (.int .i64 t_)) (p := ⟨gh, 7, none⟩) NGH.out (.int .u8 48)))
      have xg0 := (blk_cell BX.out 0).trans (rfl : _ = some (.string (⟨#[]⟩ : ByteArray) : Value))
      have xf0 := blk_frozen BX.out 0
      have xg1 := (blk_cell BX.out 1).trans (rfl : _ = some (.string (⟨#[]⟩ : ByteArray) : Value))
      have xf1 := blk_frozen BX.out 1
      have xg2 := (blk_cell BX.out 2).trans (rfl : _ = some (.int .i64 0 : Value))
      have xf2 := blk_frozen BX.out 2
      have xg3 := (blk_cell BX.out 3).trans (rfl : _ = some (.int .i64 0 : Value))
      have xf3 := blk_frozen BX.out 3
      have xg4 := (blk_cell BX.out 4).trans (rfl : _ = some (.int .i64 0 : Value))
      have xf4 := blk_frozen BX.out 4
      have xg5 := (blk_cell BX.out 5).trans (rfl : _ = some (.int .i64 0 : Value))
      have xf5 := blk_frozen BX.out 5
      have xg6 := (blk_cell BX.out 6).trans (rfl : _ = some (.int .i64 0 : Value))
      have xf6 := blk_frozen BX.out 6
      have xg7 := (blk_cell BX.out 7).trans (rfl : _ = some (.int .u8 0 : Value))
      have xf7 := blk_frozen BX.out 7
      have xg8 := (blk_cell BX.out 8).trans (rfl : _ = some (.string (⟨#[]⟩ : ByteArray) : Value))
      have xf8 := blk_frozen BX.out 8
      clear hg0 fg0 hh0 fh0 hg1 fg1 hh1 fh1 hg2 fg2 hh2 fh2 hg3 fg3 hh3 fh3 hg4 fg4 hh4 fh4 hg6 fg6 hh6 fh6 hg8 fg8 hh8 fh8 hg5 fg5 hg7 fg7
      go_wp2
      have n0_ := Aside0.mk (below_drew1 (show Below w.heap.size w (World.setCell (World.setCell w13 ⟨gh, 5, none⟩ (.int .i64 t_)) ⟨gh, 7, none⟩ (.int .u8 48)) from (below_set (j := 7) (v := .int .u8 48) (below_set (j := 5) (v := .int .i64 t_) HB.out GH.out) GH.out)))
      have n1_ : Aside0 ((World.drew (World.setCell (World.setCell w13 ⟨gh, 5, none⟩ (.int .i64 t_)) ⟨gh, 7, none⟩ (.int .u8 48))).heap[gg]? = some (.cells #[.string (⟨#[]⟩ : ByteArray), .string (⟨#[]⟩ : ByteArray), .int .i64 0, .int .i64 0, .int .i64 0, .int .i64 0, .int .i64 0, .int .u8 0, .string (⟨#[]⟩ : ByteArray)] 57 (0, 0))) := ⟨blk_drew BX.out⟩
      have n2_ : Aside0 ((World.drew (World.setCell (World.setCell w13 ⟨gh, 5, none⟩ (.int .i64 t_)) ⟨gh, 7, none⟩ (.int .u8 48))).heap[gr]? = some (.cells #[.slice (some ⟨ab, ao, none⟩) l0.length c0, .int .i64 E8] 90 (0, 0))) := ⟨blk_drew (blk_far (blk_far BR.out (p := ⟨gh, 5, none⟩) NRH.out (.int .i64 t_)) (p := ⟨gh, 7, none⟩) NRH.out (.int .u8 48))⟩
      clear HB BG BR BX
      have HB := n0_
      have BG := n1_
      have BR := n2_
      clear n0_ n1_ n2_ xg0 xf0 xg1 xf1 xg2 xf2 xg3 xf3 xg4 xf4 xg5 xf5 xg6 xf6 xg7 xf7 xg8 xf8
      refine start_ (n := 7) (S := fun w' => w'.cell? ⟨gr, 1, none⟩ = some (.int .i64 E8)) (ds := []) #[false, false, false, false, false, false, false] (by kernel_rfl) rfl rfl ((blk_cell BR.out 1).trans rfl) (fun hHeld => ?_)
      generalize World.drew (World.setCell (World.setCell w13 ⟨gh, 5, none⟩ (.int .i64 t_)) ⟨gh, 7, none⟩ (.int .u8 48)) = wx at HB BG BR hHeld ⊢
      have xg0 := (blk_cell BG.out 0).trans (rfl : _ = some (.string (⟨#[]⟩ : ByteArray) : Value))
      have xf0 := blk_frozen BG.out 0
      have xg1 := (blk_cell BG.out 1).trans (rfl : _ = some (.string (⟨#[]⟩ : ByteArray) : Value))
      have xf1 := blk_frozen BG.out 1
      have xg2 := (blk_cell BG.out 2).trans (rfl : _ = some (.int .i64 0 : Value))
      have xf2 := blk_frozen BG.out 2
      have xg3 := (blk_cell BG.out 3).trans (rfl : _ = some (.int .i64 0 : Value))
      have xf3 := blk_frozen BG.out 3
      have xg4 := (blk_cell BG.out 4).trans (rfl : _ = some (.int .i64 0 : Value))
      have xf4 := blk_frozen BG.out 4
      have xg5 := (blk_cell BG.out 5).trans (rfl : _ = some (.int .i64 0 : Value))
      have xf5 := blk_frozen BG.out 5
      have xg6 := (blk_cell BG.out 6).trans (rfl : _ = some (.int .i64 0 : Value))
      have xf6 := blk_frozen BG.out 6
      have xg7 := (blk_cell BG.out 7).trans (rfl : _ = some (.int .u8 0 : Value))
      have xf7 := blk_frozen BG.out 7
      have xg8 := (blk_cell BG.out 8).trans (rfl : _ = some (.string (⟨#[]⟩ : ByteArray) : Value))
      have xf8 := blk_frozen BG.out 8
      refine pure_ (i := 0) (N := some 65) (v := ?_) (a' := ?_) #[true, false, false, false, false, false, false] rfl rfl (by kernel_rfl) (fun _ _ _ h => h) (Or.inl ⟨by rfl, ?_⟩) ?_ ?_
      rotate_left
      · intro w'
        go_simp
        with_reducible rfl
      rotate_left
      · simp only [Act.put, List.setIfInBounds_toArray, List.set_cons_zero, List.set_cons_succ, i64_w, i32_w]
        rfl
      refine pure_ (i := 1) (N := some 66) (v := ?_) (a' := ?_) #[true, true, false, false, false, false, false] rfl rfl (by kernel_rfl) (fun _ _ _ h => h) (Or.inl ⟨by rfl, ?_⟩) ?_ ?_
      rotate_left
      · intro w'
        go_simp
        with_reducible rfl
      rotate_left
      · simp only [Act.put, List.setIfInBounds_toArray, List.set_cons_zero, List.set_cons_succ, i64_w, i32_w]
        rfl
      refine pure_ (i := 2) (N := some 67) (v := ?_) (a' := ?_) #[true, true, true, false, false, false, false] rfl rfl (by kernel_rfl) (fun _ _ _ h => h) (Or.inl ⟨by rfl, ?_⟩) ?_ ?_
      rotate_left
      · intro w'
        go_simp
        with_reducible rfl
      rotate_left
      · simp only [Act.put, List.setIfInBounds_toArray, List.set_cons_zero, List.set_cons_succ, i64_w, i32_w]
        rfl
      refine pure_ (i := 3) (N := some 68) (v := ?_) (a' := ?_) #[true, true, true, true, false, false, false] rfl rfl (by kernel_rfl) (fun _ _ _ h => h) (Or.inl ⟨by rfl, ?_⟩) ?_ ?_
      rotate_left
      · intro w'
        go_simp
        with_reducible rfl
      rotate_left
      · simp only [Act.put, List.setIfInBounds_toArray, List.set_cons_zero, List.set_cons_succ, i64_w, i32_w]
        rfl
      refine take_ (i := 4) (N := some 69) (v := ?_) (a' := ?_) #[true, true, true, true, true, false, false] rfl rfl (by kernel_rfl) (fun _ _ _ h => h) (Or.inl ⟨by rfl, ?_⟩) hHeld ?_ ?_
      rotate_left
      · intro w' s0
        go_simp
        with_reducible rfl
      rotate_left
      · simp only [Act.put, List.setIfInBounds_toArray, List.set_cons_zero, List.set_cons_succ, i64_w, i32_w]
        rfl
      refine one_ (i := 5) (N := none) #[true, true, true, true, true, true, false] rfl rfl (by kernel_rfl) (by decide) (fun K hK => ?_)
      refine skip_ (w1 := ?_) (by rfl) rfl ?_ ?_
      rotate_left
      · go_simp
        rfl
      refine hK.out _ _ ((blk_cell (blk_far (blk_far (blk_far (blk_far (blk_far (blk_far (blk_far (blk_far (blk_far BR.out (p := ⟨gg, 0, none⟩) NRG.out.symm (.string (⟨#[]⟩ : ByteArray))) (p := ⟨gg, 1, none⟩) NRG.out.symm (.string (⟨#[]⟩ : ByteArray))) (p := ⟨gg, 2, none⟩) NRG.out.symm (.int .i64 0)) (p := ⟨gg, 3, none⟩) NRG.out.symm (.int .i64 0)) (p := ⟨gg, 4, none⟩) NRG.out.symm (.int .i64 0)) (p := ⟨gg, 5, none⟩) NRG.out.symm (.int .i64 0)) (p := ⟨gg, 6, none⟩) NRG.out.symm (.int .i64 0)) (p := ⟨gg, 7, none⟩) NRG.out.symm (.int .u8 0)) (p := ⟨gg, 8, none⟩) NRG.out.symm (.string (⟨#[]⟩ : ByteArray))) 1).trans rfl) (fun hHeld => ?_)
      clear hK K
      refine pure_ (i := 6) (N := some 3) (v := ?_) (a' := ?_) #[true, true, true, true, true, true, true] rfl rfl (by kernel_rfl) (fun _ _ _ h => h) (Or.inl ⟨by rfl, ?_⟩) ?_ ?_
      rotate_left
      · intro w'
        go_simp
        with_reducible rfl
      rotate_left
      · simp only [Act.put, List.setIfInBounds_toArray, List.set_cons_zero, List.set_cons_succ, i64_w, i32_w]
        rfl
      refine done_ (by kernel_rfl) ?_
      go_wp2
      refine bodyPost_ret (results_ct rfl _ _ gg 57 #[.string (⟨#[]⟩ : ByteArray), .string (⟨#[]⟩ : ByteArray), .int .i64 0, .int .i64 0, .int .i64 0, .int .i64 0, .int .i64 0, .int .u8 0, .string (⟨#[]⟩ : ByteArray)] (0, 0) _ rfl (by have h_ := (blk_set (blk_set (blk_set (blk_set (blk_set (blk_set (blk_set (blk_set (blk_set BG.out 0 (.string (⟨#[]⟩ : ByteArray))) 1 (.string (⟨#[]⟩ : ByteArray))) 2 (.int .i64 0)) 3 (.int .i64 0)) 4 (.int .i64 0)) 5 (.int .i64 0)) 6 (.int .i64 0)) 7 (.int .u8 0)) 8 (.string (⟨#[]⟩ : ByteArray))); exact h_) Tryd.underlying57 rfl (by kernel_rfl)) rfl ?_
      exact ⟨rfl, (by repeat (first | (with_reducible first | exact HB.out | apply below_alloc | apply pw_below_drewN | apply below_drew1 | refine below_set ?_ GG.out | refine below_set ?_ GH.out) | exact HB.out))⟩
    have cE' := Decidable.of_not_not cE
    subst cE'
    clear cE
    rw [if_pos rfl] at h
    obtain ⟨b, hT, h⟩ := Option.bind_eq_some_iff.1 h
    have HT := Aside0.mk hT
    clear hT
    cases b with
    | false =>
      rw [if_neg (by decide)] at h
      unfold noHead at h
      simp only [Option.some.injEq, Prod.mk.injEq] at h
      obtain ⟨rfl, rfl, rfl, rfl, rfl, rfl, rfl, rfl, rfl, rfl⟩ := h
      go_wp2_with ((go_at_call 41; (with_reducible refine (head_IsType.calls 48 false _ HT.out).mono ?_); rintro e w14 ⟨rfl, hd⟩; have hb := drawn_below hd; have n0_ := Aside0.mk (below_step (by repeat (first | (with_reducible first | exact HB.out | apply below_alloc | apply pw_below_drewN | apply below_drew1 | refine below_set ?_ GG.out | refine below_set ?_ GH.out) | exact HB.out)) hb); have n1_ := Aside0.mk (blk_below (g := gg) (o := .cells #[.string (⟨#[]⟩ : ByteArray), .string (⟨#[]⟩ : ByteArray), .int .i64 0, .int .i64 0, .int .i64 0, .int .i64 0, .int .i64 0, .int .u8 0, .string (⟨#[]⟩ : ByteArray)] 57 (0, 0)) (by have h_ := (blk_far (blk_far BG.out (p := ⟨gh, 5, none⟩) NGH.out (.int .i64 t_)) (p := ⟨gh, 7, none⟩) NGH.out (.int .u8 48)); exact h_) hb); clear HB BG hb hd; have HB := n0_; have BG := n1_; clear n0_ n1_; have hg0 := (blk_cell BG.out 0).trans (rfl : _ = some (.string (⟨#[]⟩ : ByteArray) : Value)); have fg0 := blk_frozen BG.out 0; have hg1 := (blk_cell BG.out 1).trans (rfl : _ = some (.string (⟨#[]⟩ : ByteArray) : Value)); have fg1 := blk_frozen BG.out 1; have hg2 := (blk_cell BG.out 2).trans (rfl : _ = some (.int .i64 0 : Value)); have fg2 := blk_frozen BG.out 2; have hg3 := (blk_cell BG.out 3).trans (rfl : _ = some (.int .i64 0 : Value)); have fg3 := blk_frozen BG.out 3; have hg4 := (blk_cell BG.out 4).trans (rfl : _ = some (.int .i64 0 : Value)); have fg4 := blk_frozen BG.out 4; have hg5 := (blk_cell BG.out 5).trans (rfl : _ = some (.int .i64 0 : Value)); have fg5 := blk_frozen BG.out 5; have hg6 := (blk_cell BG.out 6).trans (rfl : _ = some (.int .i64 0 : Value)); have fg6 := blk_frozen BG.out 6; have hg7 := (blk_cell BG.out 7).trans (rfl : _ = some (.int .u8 0 : Value)); have fg7 := blk_frozen BG.out 7; have hg8 := (blk_cell BG.out 8).trans (rfl : _ = some (.string (⟨#[]⟩ : ByteArray) : Value)); have fg8 := blk_frozen BG.out 8))
      refine bodyPost_ret (results_ct rfl _ _ gg 57 #[.string (⟨#[]⟩ : ByteArray), .string (⟨#[]⟩ : ByteArray), .int .i64 0, .int .i64 0, .int .i64 0, .int .i64 0, .int .i64 0, .int .u8 0, .string (⟨#[]⟩ : ByteArray)] (0, 0) _ rfl (by have h_ := (blk_set (blk_set (blk_set (blk_set (blk_set (blk_set (blk_set (blk_set (blk_set BG.out 0 (.string (⟨#[]⟩ : ByteArray))) 1 (.string (⟨#[]⟩ : ByteArray))) 2 (.int .i64 0)) 3 (.int .i64 0)) 4 (.int .i64 0)) 5 (.int .i64 0)) 6 (.int .i64 0)) 7 (.int .u8 0)) 8 (.string (⟨#[]⟩ : ByteArray))); exact h_) Tryd.underlying57 rfl (by kernel_rfl)) rfl ?_
      exact ⟨rfl, (by repeat (first | (with_reducible first | exact HB.out | apply below_alloc | apply pw_below_drewN | apply below_drew1 | refine below_set ?_ GG.out | refine below_set ?_ GH.out) | exact HB.out))⟩
    | true =>
      rw [if_pos rfl] at h
      obtain ⟨c, hB, h⟩ := Option.bind_eq_some_iff.1 h
      have HBw := Aside0.mk hB
      clear hB
      cases c with
      | true =>
        rw [if_pos rfl] at h
        unfold noHead at h
        simp only [Option.some.injEq, Prod.mk.injEq] at h
        obtain ⟨rfl, rfl, rfl, rfl, rfl, rfl, rfl, rfl, rfl, rfl⟩ := h
        go_wp2_with (first | (go_at_call 41; (with_reducible refine (head_IsType.calls 48 true _ HT.out).mono ?_); rintro e w' ⟨rfl, ⟨nd, rfl⟩⟩) | (go_at_call 49; (with_reducible refine (head_below.calls p_ n_ m_ u_ g_ t_ s_ 48 k_ true _ HBw.out).mono ?_); rintro e w14 ⟨rfl, hb⟩; have n0_ := Aside0.mk (below_step (by repeat (first | (with_reducible first | exact HB.out | apply below_alloc | apply pw_below_drewN | apply below_drew1 | refine below_set ?_ GG.out | refine below_set ?_ GH.out) | exact HB.out)) hb); have n1_ := Aside0.mk (blk_below (g := gg) (o := .cells #[.string (⟨#[]⟩ : ByteArray), .string (⟨#[]⟩ : ByteArray), .int .i64 0, .int .i64 0, .int .i64 0, .int .i64 0, .int .i64 0, .int .u8 0, .string (⟨#[]⟩ : ByteArray)] 57 (0, 0)) (by have h_ := (blk_far (blk_far BG.out (p := ⟨gh, 5, none⟩) NGH.out (.int .i64 t_)) (p := ⟨gh, 7, none⟩) NGH.out (.int .u8 48)); exact h_) hb); have n2_ := Aside0.mk (blk_below (g := gh) (o := .cells #[.string p_, .string n_, .int .i64 m_, .int .i64 u_, .int .i64 g_, .int .i64 t_, .int .i64 s_, .int .u8 48, .string k_] 57 (0, 0)) (by have h_ := (blk_set (blk_set BH.out 5 (.int .i64 t_)) 7 (.int .u8 48)); exact h_) hb); clear HB BG BH hb; have HB := n0_; have BG := n1_; have BH := n2_; clear n0_ n1_ n2_; have hg0 := (blk_cell BG.out 0).trans (rfl : _ = some (.string (⟨#[]⟩ : ByteArray) : Value)); have fg0 := blk_frozen BG.out 0; have hg1 := (blk_cell BG.out 1).trans (rfl : _ = some (.string (⟨#[]⟩ : ByteArray) : Value)); have fg1 := blk_frozen BG.out 1; have hg2 := (blk_cell BG.out 2).trans (rfl : _ = some (.int .i64 0 : Value)); have fg2 := blk_frozen BG.out 2; have hg3 := (blk_cell BG.out 3).trans (rfl : _ = some (.int .i64 0 : Value)); have fg3 := blk_frozen BG.out 3; have hg4 := (blk_cell BG.out 4).trans (rfl : _ = some (.int .i64 0 : Value)); have fg4 := blk_frozen BG.out 4; have hg5 := (blk_cell BG.out 5).trans (rfl : _ = some (.int .i64 0 : Value)); have fg5 := blk_frozen BG.out 5; have hg6 := (blk_cell BG.out 6).trans (rfl : _ = some (.int .i64 0 : Value)); have fg6 := blk_frozen BG.out 6; have hg7 := (blk_cell BG.out 7).trans (rfl : _ = some (.int .u8 0 : Value)); have fg7 := blk_frozen BG.out 7; have hg8 := (blk_cell BG.out 8).trans (rfl : _ = some (.string (⟨#[]⟩ : ByteArray) : Value)); have fg8 := blk_frozen BG.out 8; have hh0 := (blk_cell BH.out 0).trans (rfl : _ = some (.string p_ : Value)); have fh0 := blk_frozen BH.out 0; have hh1 := (blk_cell BH.out 1).trans (rfl : _ = some (.string n_ : Value)); have fh1 := blk_frozen BH.out 1; have hh2 := (blk_cell BH.out 2).trans (rfl : _ = some (.int .i64 m_ : Value)); have fh2 := blk_frozen BH.out 2; have hh3 := (blk_cell BH.out 3).trans (rfl : _ = some (.int .i64 u_ : Value)); have fh3 := blk_frozen BH.out 3; have hh4 := (blk_cell BH.out 4).trans (rfl : _ = some (.int .i64 g_ : Value)); have fh4 := blk_frozen BH.out 4; have hh5 := (blk_cell BH.out 5).trans (rfl : _ = some (.int .i64 t_ : Value)); have fh5 := blk_frozen BH.out 5; have hh6 := (blk_cell BH.out 6).trans (rfl : _ = some (.int .i64 s_ : Value)); have fh6 := blk_frozen BH.out 6; have hh7 := (blk_cell BH.out 7).trans (rfl : _ = some (.int .u8 48 : Value)); have fh7 := blk_frozen BH.out 7; have hh8 := (blk_cell BH.out 8).trans (rfl : _ = some (.string k_ : Value)); have fh8 := blk_frozen BH.out 8))
        refine bodyPost_ret (results_ct rfl _ _ gg 57 #[.string (⟨#[]⟩ : ByteArray), .string (⟨#[]⟩ : ByteArray), .int .i64 0, .int .i64 0, .int .i64 0, .int .i64 0, .int .i64 0, .int .u8 0, .string (⟨#[]⟩ : ByteArray)] (0, 0) _ rfl (by have h_ := (blk_set (blk_set (blk_set (blk_set (blk_set (blk_set (blk_set (blk_set (blk_set BG.out 0 (.string (⟨#[]⟩ : ByteArray))) 1 (.string (⟨#[]⟩ : ByteArray))) 2 (.int .i64 0)) 3 (.int .i64 0)) 4 (.int .i64 0)) 5 (.int .i64 0)) 6 (.int .i64 0)) 7 (.int .u8 0)) 8 (.string (⟨#[]⟩ : ByteArray))); exact h_) Tryd.underlying57 rfl (by kernel_rfl)) rfl ?_
        exact ⟨rfl, (by repeat (first | (with_reducible first | exact HB.out | apply below_alloc | apply pw_below_drewN | apply below_drew1 | refine below_set ?_ GG.out | refine below_set ?_ GH.out) | exact HB.out))⟩
      | false =>
        rw [if_neg (by decide)] at h
        simp only [Option.some.injEq, Prod.mk.injEq] at h
        obtain ⟨rfl, rfl, rfl, rfl, rfl, rfl, rfl, rfl, rfl, rfl⟩ := h
        go_wp2_with (first | (go_at_call 41; (with_reducible refine (head_IsType.calls 48 true _ HT.out).mono ?_); rintro e w' ⟨rfl, ⟨nd, rfl⟩⟩) | (go_at_call 49; (with_reducible refine (head_below.calls p_ n_ m_ u_ g_ t_ s_ 48 k_ false _ HBw.out).mono ?_); rintro e w14 ⟨rfl, hb⟩; have n0_ := Aside0.mk (below_step (by repeat (first | (with_reducible first | exact HB.out | apply below_alloc | apply pw_below_drewN | apply below_drew1 | refine below_set ?_ GG.out | refine below_set ?_ GH.out) | exact HB.out)) hb); have n1_ := Aside0.mk (blk_below (g := gg) (o := .cells #[.string (⟨#[]⟩ : ByteArray), .string (⟨#[]⟩ : ByteArray), .int .i64 0, .int .i64 0, .int .i64 0, .int .i64 0, .int .i64 0, .int .u8 0, .string (⟨#[]⟩ : ByteArray)] 57 (0, 0)) (by have h_ := (blk_far (blk_far BG.out (p := ⟨gh, 5, none⟩) NGH.out (.int .i64 t_)) (p := ⟨gh, 7, none⟩) NGH.out (.int .u8 48)); exact h_) hb); have n2_ := Aside0.mk (blk_below (g := gh) (o := .cells #[.string p_, .string n_, .int .i64 m_, .int .i64 u_, .int .i64 g_, .int .i64 t_, .int .i64 s_, .int .u8 48, .string k_] 57 (0, 0)) (by have h_ := (blk_set (blk_set BH.out 5 (.int .i64 t_)) 7 (.int .u8 48)); exact h_) hb); clear HB BG BH hb; have HB := n0_; have BG := n1_; have BH := n2_; clear n0_ n1_ n2_; have hg0 := (blk_cell BG.out 0).trans (rfl : _ = some (.string (⟨#[]⟩ : ByteArray) : Value)); have fg0 := blk_frozen BG.out 0; have hg1 := (blk_cell BG.out 1).trans (rfl : _ = some (.string (⟨#[]⟩ : ByteArray) : Value)); have fg1 := blk_frozen BG.out 1; have hg2 := (blk_cell BG.out 2).trans (rfl : _ = some (.int .i64 0 : Value)); have fg2 := blk_frozen BG.out 2; have hg3 := (blk_cell BG.out 3).trans (rfl : _ = some (.int .i64 0 : Value)); have fg3 := blk_frozen BG.out 3; have hg4 := (blk_cell BG.out 4).trans (rfl : _ = some (.int .i64 0 : Value)); have fg4 := blk_frozen BG.out 4; have hg5 := (blk_cell BG.out 5).trans (rfl : _ = some (.int .i64 0 : Value)); have fg5 := blk_frozen BG.out 5; have hg6 := (blk_cell BG.out 6).trans (rfl : _ = some (.int .i64 0 : Value)); have fg6 := blk_frozen BG.out 6; have hg7 := (blk_cell BG.out 7).trans (rfl : _ = some (.int .u8 0 : Value)); have fg7 := blk_frozen BG.out 7; have hg8 := (blk_cell BG.out 8).trans (rfl : _ = some (.string (⟨#[]⟩ : ByteArray) : Value)); have fg8 := blk_frozen BG.out 8; have hh0 := (blk_cell BH.out 0).trans (rfl : _ = some (.string p_ : Value)); have fh0 := blk_frozen BH.out 0; have hh1 := (blk_cell BH.out 1).trans (rfl : _ = some (.string n_ : Value)); have fh1 := blk_frozen BH.out 1; have hh2 := (blk_cell BH.out 2).trans (rfl : _ = some (.int .i64 m_ : Value)); have fh2 := blk_frozen BH.out 2; have hh3 := (blk_cell BH.out 3).trans (rfl : _ = some (.int .i64 u_ : Value)); have fh3 := blk_frozen BH.out 3; have hh4 := (blk_cell BH.out 4).trans (rfl : _ = some (.int .i64 g_ : Value)); have fh4 := blk_frozen BH.out 4; have hh5 := (blk_cell BH.out 5).trans (rfl : _ = some (.int .i64 t_ : Value)); have fh5 := blk_frozen BH.out 5; have hh6 := (blk_cell BH.out 6).trans (rfl : _ = some (.int .i64 s_ : Value)); have fh6 := blk_frozen BH.out 6; have hh7 := (blk_cell BH.out 7).trans (rfl : _ = some (.int .u8 48 : Value)); have fh7 := blk_frozen BH.out 7; have hh8 := (blk_cell BH.out 8).trans (rfl : _ = some (.string k_ : Value)); have fh8 := blk_frozen BH.out 8))
        refine bodyPost_ret (results_ct rfl _ _ gg 57 #[.string p_, .string n_, .int .i64 m_, .int .i64 u_, .int .i64 g_, .int .i64 t_, .int .i64 s_, .int .u8 48, .string k_] (0, 0) _ rfl (by have h_ := (blk_set (blk_set (blk_set (blk_set (blk_set (blk_set (blk_set (blk_set (blk_set BG.out 0 (.string p_)) 1 (.string n_)) 2 (.int .i64 m_)) 3 (.int .i64 u_)) 4 (.int .i64 g_)) 5 (.int .i64 t_)) 6 (.int .i64 s_)) 7 (.int .u8 48)) 8 (.string k_)); exact h_) Tryd.underlying57 rfl (by kernel_rfl)) rfl ?_
        exact ⟨rfl, (by repeat (first | (with_reducible first | exact HB.out | apply below_alloc | apply pw_below_drewN | apply below_drew1 | refine below_set ?_ GG.out | refine below_set ?_ GH.out) | exact HB.out))⟩
  · have bz : (x7 == 0) = false := beq_eq_false_iff_ne.2 cz
    have HZ := Aside0.mk cz
    clear cz
    have h := HH.out
    clear HH
    rw [if_neg HZ.out] at h
    have hh0 := (blk_cell BH.out 0).trans (rfl : _ = some (.string p_ : Value))
    have fh0 := blk_frozen BH.out 0
    have hh1 := (blk_cell BH.out 1).trans (rfl : _ = some (.string n_ : Value))
    have fh1 := blk_frozen BH.out 1
    have hh2 := (blk_cell BH.out 2).trans (rfl : _ = some (.int .i64 m_ : Value))
    have fh2 := blk_frozen BH.out 2
    have hh3 := (blk_cell BH.out 3).trans (rfl : _ = some (.int .i64 u_ : Value))
    have fh3 := blk_frozen BH.out 3
    have hh4 := (blk_cell BH.out 4).trans (rfl : _ = some (.int .i64 g_ : Value))
    have fh4 := blk_frozen BH.out 4
    have hh5 := (blk_cell BH.out 5).trans (rfl : _ = some (.int .i64 0 : Value))
    have fh5 := blk_frozen BH.out 5
    have hh6 := (blk_cell BH.out 6).trans (rfl : _ = some (.int .i64 s_ : Value))
    have fh6 := blk_frozen BH.out 6
    have hh7 := (blk_cell BH.out 7).trans (rfl : _ = some (.int .u8 x7 : Value))
    have fh7 := blk_frozen BH.out 7
    have hh8 := (blk_cell BH.out 8).trans (rfl : _ = some (.string k_ : Value))
    have fh8 := blk_frozen BH.out 8
    have hg0 := (blk_cell BG.out 0).trans (rfl : _ = some (.string (⟨#[]⟩ : ByteArray) : Value))
    have fg0 := blk_frozen BG.out 0
    have hg1 := (blk_cell BG.out 1).trans (rfl : _ = some (.string (⟨#[]⟩ : ByteArray) : Value))
    have fg1 := blk_frozen BG.out 1
    have hg2 := (blk_cell BG.out 2).trans (rfl : _ = some (.int .i64 0 : Value))
    have fg2 := blk_frozen BG.out 2
    have hg3 := (blk_cell BG.out 3).trans (rfl : _ = some (.int .i64 0 : Value))
    have fg3 := blk_frozen BG.out 3
    have hg4 := (blk_cell BG.out 4).trans (rfl : _ = some (.int .i64 0 : Value))
    have fg4 := blk_frozen BG.out 4
    have hg5 := (blk_cell BG.out 5).trans (rfl : _ = some (.int .i64 0 : Value))
    have fg5 := blk_frozen BG.out 5
    have hg6 := (blk_cell BG.out 6).trans (rfl : _ = some (.int .i64 0 : Value))
    have fg6 := blk_frozen BG.out 6
    have hg7 := (blk_cell BG.out 7).trans (rfl : _ = some (.int .u8 0 : Value))
    have fg7 := blk_frozen BG.out 7
    have hg8 := (blk_cell BG.out 8).trans (rfl : _ = some (.string (⟨#[]⟩ : ByteArray) : Value))
    have fg8 := blk_frozen BG.out 8
    have hr1 := (blk_cell BR.out 1).trans (rfl : _ = some (.int .i64 E8 : Value))
    by_cases cE : ¬ E8 = 0
    · rw [if_neg cE] at h
      unfold noHead at h
      simp only [Option.some.injEq, Prod.mk.injEq] at h
      obtain ⟨rfl, rfl, rfl, rfl, rfl, rfl, rfl, rfl, rfl, rfl⟩ := h
      have b1 : (E8 != 0) = true := bne_iff_ne.2 cE
      clear cE
      have BX := Aside0.mk (show (World.setCell w13 ⟨gh, 5, none⟩ (.int .i64 t_)).heap[gg]? = some (.cells #[.string (⟨#[]⟩ : ByteArray), .string (⟨#[]⟩ : ByteArray), .int .i64 0, .int .i64 0, .int .i64 0, .int .i64 0, .int .i64 0, .int .u8 0, .string (⟨#[]⟩ : ByteArray)] 57 (0, 0)) from (blk_far BG.out (p := ⟨gh, 5, none⟩) NGH.out (.int .i64 t_)))
      have xg0 := (blk_cell BX.out 0).trans (rfl : _ = some (.string (⟨#[]⟩ : ByteArray) : Value))
      have xf0 := blk_frozen BX.out 0
      have xg1 := (blk_cell BX.out 1).trans (rfl : _ = some (.string (⟨#[]⟩ : ByteArray) : Value))
      have xf1 := blk_frozen BX.out 1
      have xg2 := (blk_cell BX.out 2).trans (rfl : _ = some (.int .i64 0 : Value))
      have xf2 := blk_frozen BX.out 2
      have xg3 := (blk_cell BX.out 3).trans (rfl : _ = some (.int .i64 0 : Value))
      have xf3 := blk_frozen BX.out 3
      have xg4 := (blk_cell BX.out 4).trans (rfl : _ = some (.int .i64 0 : Value))
      have xf4 := blk_frozen BX.out 4
      have xg5 := (blk_cell BX.out 5).trans (rfl : _ = some (.int .i64 0 : Value))
      have xf5 := blk_frozen BX.out 5
      have xg6 := (blk_cell BX.out 6).trans (rfl : _ = some (.int .i64 0 : Value))
      have xf6 := blk_frozen BX.out 6
      have xg7 := (blk_cell BX.out 7).trans (rfl : _ = some (.int .u8 0 : Value))
      have xf7 := blk_frozen BX.out 7
      have xg8 := (blk_cell BX.out 8).trans (rfl : _ = some (.string (⟨#[]⟩ : ByteArray) : Value))
      have xf8 := blk_frozen BX.out 8
      clear hg0 fg0 hh0 fh0 hg1 fg1 hh1 fh1 hg2 fg2 hh2 fh2 hg3 fg3 hh3 fh3 hg4 fg4 hh4 fh4 hg6 fg6 hh6 fh6 hg8 fg8 hh8 fh8 hg5 fg5 hg7 fg7
      go_wp2
      have n0_ := Aside0.mk (below_drew1 (show Below w.heap.size w (World.setCell w13 ⟨gh, 5, none⟩ (.int .i64 t_)) from (below_set (j := 5) (v := .int .i64 t_) HB.out GH.out)))
      have n1_ : Aside0 ((World.drew (World.setCell w13 ⟨gh, 5, none⟩ (.int .i64 t_))).heap[gg]? = some (.cells #[.string (⟨#[]⟩ : ByteArray), .string (⟨#[]⟩ : ByteArray), .int .i64 0, .int .i64 0, .int .i64 0, .int .i64 0, .int .i64 0, .int .u8 0, .string (⟨#[]⟩ : ByteArray)] 57 (0, 0))) := ⟨blk_drew BX.out⟩
      have n2_ : Aside0 ((World.drew (World.setCell w13 ⟨gh, 5, none⟩ (.int .i64 t_))).heap[gr]? = some (.cells #[.slice (some ⟨ab, ao, none⟩) l0.length c0, .int .i64 E8] 90 (0, 0))) := ⟨blk_drew (blk_far BR.out (p := ⟨gh, 5, none⟩) NRH.out (.int .i64 t_))⟩
      clear HB BG BR BX
      have HB := n0_
      have BG := n1_
      have BR := n2_
      clear n0_ n1_ n2_ xg0 xf0 xg1 xf1 xg2 xf2 xg3 xf3 xg4 xf4 xg5 xf5 xg6 xf6 xg7 xf7 xg8 xf8
      refine start_ (n := 7) (S := fun w' => w'.cell? ⟨gr, 1, none⟩ = some (.int .i64 E8)) (ds := []) #[false, false, false, false, false, false, false] (by kernel_rfl) rfl rfl ((blk_cell BR.out 1).trans rfl) (fun hHeld => ?_)
      generalize World.drew (World.setCell w13 ⟨gh, 5, none⟩ (.int .i64 t_)) = wx at HB BG BR hHeld ⊢
      have xg0 := (blk_cell BG.out 0).trans (rfl : _ = some (.string (⟨#[]⟩ : ByteArray) : Value))
      have xf0 := blk_frozen BG.out 0
      have xg1 := (blk_cell BG.out 1).trans (rfl : _ = some (.string (⟨#[]⟩ : ByteArray) : Value))
      have xf1 := blk_frozen BG.out 1
      have xg2 := (blk_cell BG.out 2).trans (rfl : _ = some (.int .i64 0 : Value))
      have xf2 := blk_frozen BG.out 2
      have xg3 := (blk_cell BG.out 3).trans (rfl : _ = some (.int .i64 0 : Value))
      have xf3 := blk_frozen BG.out 3
      have xg4 := (blk_cell BG.out 4).trans (rfl : _ = some (.int .i64 0 : Value))
      have xf4 := blk_frozen BG.out 4
      have xg5 := (blk_cell BG.out 5).trans (rfl : _ = some (.int .i64 0 : Value))
      have xf5 := blk_frozen BG.out 5
      have xg6 := (blk_cell BG.out 6).trans (rfl : _ = some (.int .i64 0 : Value))
      have xf6 := blk_frozen BG.out 6
      have xg7 := (blk_cell BG.out 7).trans (rfl : _ = some (.int .u8 0 : Value))
      have xf7 := blk_frozen BG.out 7
      have xg8 := (blk_cell BG.out 8).trans (rfl : _ = some (.string (⟨#[]⟩ : ByteArray) : Value))
      have xf8 := blk_frozen BG.out 8
      refine pure_ (i := 0) (N := some 65) (v := ?_) (a' := ?_) #[true, false, false, false, false, false, false] rfl rfl (by kernel_rfl) (fun _ _ _ h => h) (Or.inl ⟨by rfl, ?_⟩) ?_ ?_
      rotate_left
      · intro w'
        go_simp
        with_reducible rfl
      rotate_left
      · simp only [Act.put, List.setIfInBounds_toArray, List.set_cons_zero, List.set_cons_succ, i64_w, i32_w]
        rfl
      refine pure_ (i := 1) (N := some 66) (v := ?_) (a' := ?_) #[true, true, false, false, false, false, false] rfl rfl (by kernel_rfl) (fun _ _ _ h => h) (Or.inl ⟨by rfl, ?_⟩) ?_ ?_
      rotate_left
      · intro w'
        go_simp
        with_reducible rfl
      rotate_left
      · simp only [Act.put, List.setIfInBounds_toArray, List.set_cons_zero, List.set_cons_succ, i64_w, i32_w]
        rfl
      refine pure_ (i := 2) (N := some 67) (v := ?_) (a' := ?_) #[true, true, true, false, false, false, false] rfl rfl (by kernel_rfl) (fun _ _ _ h => h) (Or.inl ⟨by rfl, ?_⟩) ?_ ?_
      rotate_left
      · intro w'
        go_simp
        with_reducible rfl
      rotate_left
      · simp only [Act.put, List.setIfInBounds_toArray, List.set_cons_zero, List.set_cons_succ, i64_w, i32_w]
        rfl
      refine pure_ (i := 3) (N := some 68) (v := ?_) (a' := ?_) #[true, true, true, true, false, false, false] rfl rfl (by kernel_rfl) (fun _ _ _ h => h) (Or.inl ⟨by rfl, ?_⟩) ?_ ?_
      rotate_left
      · intro w'
        go_simp
        with_reducible rfl
      rotate_left
      · simp only [Act.put, List.setIfInBounds_toArray, List.set_cons_zero, List.set_cons_succ, i64_w, i32_w]
        rfl
      refine take_ (i := 4) (N := some 69) (v := ?_) (a' := ?_) #[true, true, true, true, true, false, false] rfl rfl (by kernel_rfl) (fun _ _ _ h => h) (Or.inl ⟨by rfl, ?_⟩) hHeld ?_ ?_
      rotate_left
      · intro w' s0
        go_simp
        with_reducible rfl
      rotate_left
      · simp only [Act.put, List.setIfInBounds_toArray, List.set_cons_zero, List.set_cons_succ, i64_w, i32_w]
        rfl
      refine one_ (i := 5) (N := none) #[true, true, true, true, true, true, false] rfl rfl (by kernel_rfl) (by decide) (fun K hK => ?_)
      refine skip_ (w1 := ?_) (by rfl) rfl ?_ ?_
      rotate_left
      · go_simp
        rfl
      refine hK.out _ _ ((blk_cell (blk_far (blk_far (blk_far (blk_far (blk_far (blk_far (blk_far (blk_far (blk_far BR.out (p := ⟨gg, 0, none⟩) NRG.out.symm (.string (⟨#[]⟩ : ByteArray))) (p := ⟨gg, 1, none⟩) NRG.out.symm (.string (⟨#[]⟩ : ByteArray))) (p := ⟨gg, 2, none⟩) NRG.out.symm (.int .i64 0)) (p := ⟨gg, 3, none⟩) NRG.out.symm (.int .i64 0)) (p := ⟨gg, 4, none⟩) NRG.out.symm (.int .i64 0)) (p := ⟨gg, 5, none⟩) NRG.out.symm (.int .i64 0)) (p := ⟨gg, 6, none⟩) NRG.out.symm (.int .i64 0)) (p := ⟨gg, 7, none⟩) NRG.out.symm (.int .u8 0)) (p := ⟨gg, 8, none⟩) NRG.out.symm (.string (⟨#[]⟩ : ByteArray))) 1).trans rfl) (fun hHeld => ?_)
      clear hK K
      refine pure_ (i := 6) (N := some 3) (v := ?_) (a' := ?_) #[true, true, true, true, true, true, true] rfl rfl (by kernel_rfl) (fun _ _ _ h => h) (Or.inl ⟨by rfl, ?_⟩) ?_ ?_
      rotate_left
      · intro w'
        go_simp
        with_reducible rfl
      rotate_left
      · simp only [Act.put, List.setIfInBounds_toArray, List.set_cons_zero, List.set_cons_succ, i64_w, i32_w]
        rfl
      refine done_ (by kernel_rfl) ?_
      go_wp2
      refine bodyPost_ret (results_ct rfl _ _ gg 57 #[.string (⟨#[]⟩ : ByteArray), .string (⟨#[]⟩ : ByteArray), .int .i64 0, .int .i64 0, .int .i64 0, .int .i64 0, .int .i64 0, .int .u8 0, .string (⟨#[]⟩ : ByteArray)] (0, 0) _ rfl (by have h_ := (blk_set (blk_set (blk_set (blk_set (blk_set (blk_set (blk_set (blk_set (blk_set BG.out 0 (.string (⟨#[]⟩ : ByteArray))) 1 (.string (⟨#[]⟩ : ByteArray))) 2 (.int .i64 0)) 3 (.int .i64 0)) 4 (.int .i64 0)) 5 (.int .i64 0)) 6 (.int .i64 0)) 7 (.int .u8 0)) 8 (.string (⟨#[]⟩ : ByteArray))); exact h_) Tryd.underlying57 rfl (by kernel_rfl)) rfl ?_
      exact ⟨rfl, (by repeat (first | (with_reducible first | exact HB.out | apply below_alloc | apply pw_below_drewN | apply below_drew1 | refine below_set ?_ GG.out | refine below_set ?_ GH.out) | exact HB.out))⟩
    have cE' := Decidable.of_not_not cE
    subst cE'
    clear cE
    rw [if_pos rfl] at h
    obtain ⟨b, hT, h⟩ := Option.bind_eq_some_iff.1 h
    have HT := Aside0.mk hT
    clear hT
    cases b with
    | false =>
      rw [if_neg (by decide)] at h
      unfold noHead at h
      simp only [Option.some.injEq, Prod.mk.injEq] at h
      obtain ⟨rfl, rfl, rfl, rfl, rfl, rfl, rfl, rfl, rfl, rfl⟩ := h
      go_wp2_with ((go_at_call 41; (with_reducible refine (head_IsType.calls x7 false _ HT.out).mono ?_); rintro e w14 ⟨rfl, hd⟩; have hb := drawn_below hd; have n0_ := Aside0.mk (below_step (by repeat (first | (with_reducible first | exact HB.out | apply below_alloc | apply pw_below_drewN | apply below_drew1 | refine below_set ?_ GG.out | refine below_set ?_ GH.out) | exact HB.out)) hb); have n1_ := Aside0.mk (blk_below (g := gg) (o := .cells #[.string (⟨#[]⟩ : ByteArray), .string (⟨#[]⟩ : ByteArray), .int .i64 0, .int .i64 0, .int .i64 0, .int .i64 0, .int .i64 0, .int .u8 0, .string (⟨#[]⟩ : ByteArray)] 57 (0, 0)) (by have h_ := (blk_far BG.out (p := ⟨gh, 5, none⟩) NGH.out (.int .i64 t_)); exact h_) hb); clear HB BG hb hd; have HB := n0_; have BG := n1_; clear n0_ n1_; have hg0 := (blk_cell BG.out 0).trans (rfl : _ = some (.string (⟨#[]⟩ : ByteArray) : Value)); have fg0 := blk_frozen BG.out 0; have hg1 := (blk_cell BG.out 1).trans (rfl : _ = some (.string (⟨#[]⟩ : ByteArray) : Value)); have fg1 := blk_frozen BG.out 1; have hg2 := (blk_cell BG.out 2).trans (rfl : _ = some (.int .i64 0 : Value)); have fg2 := blk_frozen BG.out 2; have hg3 := (blk_cell BG.out 3).trans (rfl : _ = some (.int .i64 0 : Value)); have fg3 := blk_frozen BG.out 3; have hg4 := (blk_cell BG.out 4).trans (rfl : _ = some (.int .i64 0 : Value)); have fg4 := blk_frozen BG.out 4; have hg5 := (blk_cell BG.out 5).trans (rfl : _ = some (.int .i64 0 : Value)); have fg5 := blk_frozen BG.out 5; have hg6 := (blk_cell BG.out 6).trans (rfl : _ = some (.int .i64 0 : Value)); have fg6 := blk_frozen BG.out 6; have hg7 := (blk_cell BG.out 7).trans (rfl : _ = some (.int .u8 0 : Value)); have fg7 := blk_frozen BG.out 7; have hg8 := (blk_cell BG.out 8).trans (rfl : _ = some (.string (⟨#[]⟩ : ByteArray) : Value)); have fg8 := blk_frozen BG.out 8))
      refine bodyPost_ret (results_ct rfl _ _ gg 57 #[.string (⟨#[]⟩ : ByteArray), .string (⟨#[]⟩ : ByteArray), .int .i64 0, .int .i64 0, .int .i64 0, .int .i64 0, .int .i64 0, .int .u8 0, .string (⟨#[]⟩ : ByteArray)] (0, 0) _ rfl (by have h_ := (blk_set (blk_set (blk_set (blk_set (blk_set (blk_set (blk_set (blk_set (blk_set BG.out 0 (.string (⟨#[]⟩ : ByteArray))) 1 (.string (⟨#[]⟩ : ByteArray))) 2 (.int .i64 0)) 3 (.int .i64 0)) 4 (.int .i64 0)) 5 (.int .i64 0)) 6 (.int .i64 0)) 7 (.int .u8 0)) 8 (.string (⟨#[]⟩ : ByteArray))); exact h_) Tryd.underlying57 rfl (by kernel_rfl)) rfl ?_
      exact ⟨rfl, (by repeat (first | (with_reducible first | exact HB.out | apply below_alloc | apply pw_below_drewN | apply below_drew1 | refine below_set ?_ GG.out | refine below_set ?_ GH.out) | exact HB.out))⟩
    | true =>
      rw [if_pos rfl] at h
      obtain ⟨c, hB, h⟩ := Option.bind_eq_some_iff.1 h
      have HBw := Aside0.mk hB
      clear hB
      cases c with
      | true =>
        rw [if_pos rfl] at h
        unfold noHead at h
        simp only [Option.some.injEq, Prod.mk.injEq] at h
        obtain ⟨rfl, rfl, rfl, rfl, rfl, rfl, rfl, rfl, rfl, rfl⟩ := h
        go_wp2_with (first | (go_at_call 41; (with_reducible refine (head_IsType.calls x7 true _ HT.out).mono ?_); rintro e w' ⟨rfl, ⟨nd, rfl⟩⟩) | (go_at_call 49; (with_reducible refine (head_below.calls p_ n_ m_ u_ g_ t_ s_ x7 k_ true _ HBw.out).mono ?_); rintro e w14 ⟨rfl, hb⟩; have n0_ := Aside0.mk (below_step (by repeat (first | (with_reducible first | exact HB.out | apply below_alloc | apply pw_below_drewN | apply below_drew1 | refine below_set ?_ GG.out | refine below_set ?_ GH.out) | exact HB.out)) hb); have n1_ := Aside0.mk (blk_below (g := gg) (o := .cells #[.string (⟨#[]⟩ : ByteArray), .string (⟨#[]⟩ : ByteArray), .int .i64 0, .int .i64 0, .int .i64 0, .int .i64 0, .int .i64 0, .int .u8 0, .string (⟨#[]⟩ : ByteArray)] 57 (0, 0)) (by have h_ := (blk_far BG.out (p := ⟨gh, 5, none⟩) NGH.out (.int .i64 t_)); exact h_) hb); have n2_ := Aside0.mk (blk_below (g := gh) (o := .cells #[.string p_, .string n_, .int .i64 m_, .int .i64 u_, .int .i64 g_, .int .i64 t_, .int .i64 s_, .int .u8 x7, .string k_] 57 (0, 0)) (by have h_ := (blk_set BH.out 5 (.int .i64 t_)); exact h_) hb); clear HB BG BH hb; have HB := n0_; have BG := n1_; have BH := n2_; clear n0_ n1_ n2_; have hg0 := (blk_cell BG.out 0).trans (rfl : _ = some (.string (⟨#[]⟩ : ByteArray) : Value)); have fg0 := blk_frozen BG.out 0; have hg1 := (blk_cell BG.out 1).trans (rfl : _ = some (.string (⟨#[]⟩ : ByteArray) : Value)); have fg1 := blk_frozen BG.out 1; have hg2 := (blk_cell BG.out 2).trans (rfl : _ = some (.int .i64 0 : Value)); have fg2 := blk_frozen BG.out 2; have hg3 := (blk_cell BG.out 3).trans (rfl : _ = some (.int .i64 0 : Value)); have fg3 := blk_frozen BG.out 3; have hg4 := (blk_cell BG.out 4).trans (rfl : _ = some (.int .i64 0 : Value)); have fg4 := blk_frozen BG.out 4; have hg5 := (blk_cell BG.out 5).trans (rfl : _ = some (.int .i64 0 : Value)); have fg5 := blk_frozen BG.out 5; have hg6 := (blk_cell BG.out 6).trans (rfl : _ = some (.int .i64 0 : Value)); have fg6 := blk_frozen BG.out 6; have hg7 := (blk_cell BG.out 7).trans (rfl : _ = some (.int .u8 0 : Value)); have fg7 := blk_frozen BG.out 7; have hg8 := (blk_cell BG.out 8).trans (rfl : _ = some (.string (⟨#[]⟩ : ByteArray) : Value)); have fg8 := blk_frozen BG.out 8; have hh0 := (blk_cell BH.out 0).trans (rfl : _ = some (.string p_ : Value)); have fh0 := blk_frozen BH.out 0; have hh1 := (blk_cell BH.out 1).trans (rfl : _ = some (.string n_ : Value)); have fh1 := blk_frozen BH.out 1; have hh2 := (blk_cell BH.out 2).trans (rfl : _ = some (.int .i64 m_ : Value)); have fh2 := blk_frozen BH.out 2; have hh3 := (blk_cell BH.out 3).trans (rfl : _ = some (.int .i64 u_ : Value)); have fh3 := blk_frozen BH.out 3; have hh4 := (blk_cell BH.out 4).trans (rfl : _ = some (.int .i64 g_ : Value)); have fh4 := blk_frozen BH.out 4; have hh5 := (blk_cell BH.out 5).trans (rfl : _ = some (.int .i64 t_ : Value)); have fh5 := blk_frozen BH.out 5; have hh6 := (blk_cell BH.out 6).trans (rfl : _ = some (.int .i64 s_ : Value)); have fh6 := blk_frozen BH.out 6; have hh7 := (blk_cell BH.out 7).trans (rfl : _ = some (.int .u8 x7 : Value)); have fh7 := blk_frozen BH.out 7; have hh8 := (blk_cell BH.out 8).trans (rfl : _ = some (.string k_ : Value)); have fh8 := blk_frozen BH.out 8))
        refine bodyPost_ret (results_ct rfl _ _ gg 57 #[.string (⟨#[]⟩ : ByteArray), .string (⟨#[]⟩ : ByteArray), .int .i64 0, .int .i64 0, .int .i64 0, .int .i64 0, .int .i64 0, .int .u8 0, .string (⟨#[]⟩ : ByteArray)] (0, 0) _ rfl (by have h_ := (blk_set (blk_set (blk_set (blk_set (blk_set (blk_set (blk_set (blk_set (blk_set BG.out 0 (.string (⟨#[]⟩ : ByteArray))) 1 (.string (⟨#[]⟩ : ByteArray))) 2 (.int .i64 0)) 3 (.int .i64 0)) 4 (.int .i64 0)) 5 (.int .i64 0)) 6 (.int .i64 0)) 7 (.int .u8 0)) 8 (.string (⟨#[]⟩ : ByteArray))); exact h_) Tryd.underlying57 rfl (by kernel_rfl)) rfl ?_
        exact ⟨rfl, (by repeat (first | (with_reducible first | exact HB.out | apply below_alloc | apply pw_below_drewN | apply below_drew1 | refine below_set ?_ GG.out | refine below_set ?_ GH.out) | exact HB.out))⟩
      | false =>
        rw [if_neg (by decide)] at h
        simp only [Option.some.injEq, Prod.mk.injEq] at h
        obtain ⟨rfl, rfl, rfl, rfl, rfl, rfl, rfl, rfl, rfl, rfl⟩ := h
        go_wp2_with (first | (go_at_call 41; (with_reducible refine (head_IsType.calls x7 true _ HT.out).mono ?_); rintro e w' ⟨rfl, ⟨nd, rfl⟩⟩) | (go_at_call 49; (with_reducible refine (head_below.calls p_ n_ m_ u_ g_ t_ s_ x7 k_ false _ HBw.out).mono ?_); rintro e w14 ⟨rfl, hb⟩; have n0_ := Aside0.mk (below_step (by repeat (first | (with_reducible first | exact HB.out | apply below_alloc | apply pw_below_drewN | apply below_drew1 | refine below_set ?_ GG.out | refine below_set ?_ GH.out) | exact HB.out)) hb); have n1_ := Aside0.mk (blk_below (g := gg) (o := .cells #[.string (⟨#[]⟩ : ByteArray), .string (⟨#[]⟩ : ByteArray), .int .i64 0, .int .i64 0, .int .i64 0, .int .i64 0, .int .i64 0, .int .u8 0, .string (⟨#[]⟩ : ByteArray)] 57 (0, 0)) (by have h_ := (blk_far BG.out (p := ⟨gh, 5, none⟩) NGH.out (.int .i64 t_)); exact h_) hb); have n2_ := Aside0.mk (blk_below (g := gh) (o := .cells #[.string p_, .string n_, .int .i64 m_, .int .i64 u_, .int .i64 g_, .int .i64 t_, .int .i64 s_, .int .u8 x7, .string k_] 57 (0, 0)) (by have h_ := (blk_set BH.out 5 (.int .i64 t_)); exact h_) hb); clear HB BG BH hb; have HB := n0_; have BG := n1_; have BH := n2_; clear n0_ n1_ n2_; have hg0 := (blk_cell BG.out 0).trans (rfl : _ = some (.string (⟨#[]⟩ : ByteArray) : Value)); have fg0 := blk_frozen BG.out 0; have hg1 := (blk_cell BG.out 1).trans (rfl : _ = some (.string (⟨#[]⟩ : ByteArray) : Value)); have fg1 := blk_frozen BG.out 1; have hg2 := (blk_cell BG.out 2).trans (rfl : _ = some (.int .i64 0 : Value)); have fg2 := blk_frozen BG.out 2; have hg3 := (blk_cell BG.out 3).trans (rfl : _ = some (.int .i64 0 : Value)); have fg3 := blk_frozen BG.out 3; have hg4 := (blk_cell BG.out 4).trans (rfl : _ = some (.int .i64 0 : Value)); have fg4 := blk_frozen BG.out 4; have hg5 := (blk_cell BG.out 5).trans (rfl : _ = some (.int .i64 0 : Value)); have fg5 := blk_frozen BG.out 5; have hg6 := (blk_cell BG.out 6).trans (rfl : _ = some (.int .i64 0 : Value)); have fg6 := blk_frozen BG.out 6; have hg7 := (blk_cell BG.out 7).trans (rfl : _ = some (.int .u8 0 : Value)); have fg7 := blk_frozen BG.out 7; have hg8 := (blk_cell BG.out 8).trans (rfl : _ = some (.string (⟨#[]⟩ : ByteArray) : Value)); have fg8 := blk_frozen BG.out 8; have hh0 := (blk_cell BH.out 0).trans (rfl : _ = some (.string p_ : Value)); have fh0 := blk_frozen BH.out 0; have hh1 := (blk_cell BH.out 1).trans (rfl : _ = some (.string n_ : Value)); have fh1 := blk_frozen BH.out 1; have hh2 := (blk_cell BH.out 2).trans (rfl : _ = some (.int .i64 m_ : Value)); have fh2 := blk_frozen BH.out 2; have hh3 := (blk_cell BH.out 3).trans (rfl : _ = some (.int .i64 u_ : Value)); have fh3 := blk_frozen BH.out 3; have hh4 := (blk_cell BH.out 4).trans (rfl : _ = some (.int .i64 g_ : Value)); have fh4 := blk_frozen BH.out 4; have hh5 := (blk_cell BH.out 5).trans (rfl : _ = some (.int .i64 t_ : Value)); have fh5 := blk_frozen BH.out 5; have hh6 := (blk_cell BH.out 6).trans (rfl : _ = some (.int .i64 s_ : Value)); have fh6 := blk_frozen BH.out 6; have hh7 := (blk_cell BH.out 7).trans (rfl : _ = some (.int .u8 x7 : Value)); have fh7 := blk_frozen BH.out 7; have hh8 := (blk_cell BH.out 8).trans (rfl : _ = some (.string k_ : Value)); have fh8 := blk_frozen BH.out 8))
        refine bodyPost_ret (results_ct rfl _ _ gg 57 #[.string p_, .string n_, .int .i64 m_, .int .i64 u_, .int .i64 g_, .int .i64 t_, .int .i64 s_, .int .u8 x7, .string k_] (0, 0) _ rfl (by have h_ := (blk_set (blk_set (blk_set (blk_set (blk_set (blk_set (blk_set (blk_set (blk_set BG.out 0 (.string p_)) 1 (.string n_)) 2 (.int .i64 m_)) 3 (.int .i64 u_)) 4 (.int .i64 g_)) 5 (.int .i64 t_)) 6 (.int .i64 s_)) 7 (.int .u8 x7)) 8 (.string k_)); exact h_) Tryd.underlying57 rfl (by kernel_rfl)) rfl ?_
        exact ⟨rfl, (by repeat (first | (with_reducible first | exact HB.out | apply below_alloc | apply pw_below_drewN | apply below_drew1 | refine below_set ?_ GG.out | refine below_set ?_ GH.out) | exact HB.out))⟩
end Go.Proofs.YthjljkdiglpbaaaDoor.Hand

-- HHead2m
/- head.Parse: more rounds give the same answer. -/
namespace Go.Proofs.YthjljkdiglpbaaaDoor.Hand
open Go.RowKit Go.Proofs.YthjljkdiglpbaaaDoor.P Go.Proofs.YthjljkdiglpbaaaDoorW Go.Proofs.YthjljkdiglpbaaaDoorW.PrintWords Go.Proofs.YthjljkdiglpbaaaDoorW.PrintLast Go.Proofs.YthjljkdiglpbaaaDoorW.PrintMore
set_option linter.unusedVariables false
set_option linter.unusedSimpArgs false
theorem head_Parse.mono : ∀ l k, LeO (head_Parse.f k l) (head_Parse.f (k + 1) l) := by
  intro l k
  unfold head_Parse.f
  exact LeO.bind (hsum_Check.mono _ _) (fun _ => LeO.refl _)
end Go.Proofs.YthjljkdiglpbaaaDoor.Hand
