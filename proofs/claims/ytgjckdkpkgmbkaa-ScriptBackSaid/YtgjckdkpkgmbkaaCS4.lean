import Derived.Test.YtgjckdkpkgmbkaaCS3
import Derived.Laws.Cover3
-- Written by xprint.py (a program of this session's, over the kit's printer) out of the translation. Not trusted: Lean checks it.
namespace Go.Proofs.Ytgjckdkpkgmbkaa.P
open Go.RowKit Go.Proofs.YtgjckdkpkgmbkaaW.PrintWords Go.Proofs.YtgjckdkpkgmbkaaW.PrintLast Go.Proofs.YtgjckdkpkgmbkaaW.PrintMore Go.Proofs.Ytgjckdkpkgmbkaa.Hand
attribute [local go_sem] max2_int min2_int max_two min_two max_three min_three max_four min_four   -- for this text's walks alone
set_option linter.unusedVariables false
set_option linter.unusedSimpArgs false

/-! ### script_first: function 19 -/
def script_first.f (l0 : List Int) : Option (Int × Int × Int × Int × Int × Int × Int × Int × Int × Int × List Int × List Int × Int) := if 0 < (l0.length : Int) then ((script_within.f (wrap64 (rd l0 0)) 1 8).bind fun t194 => (if t194 = true then (if (l0.length : Int) < 15 then (some (0, 0, 0, 0, 0, 0, 0, 0, 0, 0, ([] : List Int), ([] : List Int), 4)) else (if 13 ≤ (l0.length : Int) then ((script_number.f (l0.drop 13)).bind fun t200 => (if 15 ≤ (l0.length : Int) then ((some (l0.drop 15 : List Int)).bind fun y201 => (if t200 > 400 then (some (0, 0, 0, 0, 0, 0, 0, 0, 0, 0, ([] : List Int), ([] : List Int), 10)) else (if (y201.length : Int) < t200 then (some (0, 0, 0, 0, 0, 0, 0, 0, 0, 0, ([] : List Int), ([] : List Int), 4)) else (if 1 ≤ (l0.length : Int) then ((script_signed.f (l0.drop 1)).bind fun t212 => (if 3 ≤ (l0.length : Int) then ((script_signed.f (l0.drop 3)).bind fun t218 => (if 5 < (l0.length : Int) then (if 0 ≤ t200 then (if t200 ≤ (y201.length : Int) then ((bytes_Clone.f (y201.take (t200 : Int).toNat)).bind fun t225 => (if 6 < (l0.length : Int) then (if 7 ≤ (l0.length : Int) then ((script_number.f (l0.drop 7)).bind fun t235 => (if 9 ≤ 13 then (some (wrap64 (rd l0 0), t212, t218, rd l0 5, wrap64 (rd l0 6), IntKind.u16.wrap (t235), rd l0 9, rd l0 10, rd l0 11, rd l0 12, t225, (y201.drop (t200 : Int).toNat), 0)) else (none))) else (none)) else (none))) else (none)) else (none)) else (none))) else (none))) else (none))))) else (none))) else (none))) else (some (0, 0, 0, 0, 0, 0, 0, 0, 0, 0, ([] : List Int), ([] : List Int), 11)))) else (none)
def script_first.T10 : Bool × List (List Nat × List Nat) := (true, [([], []), ([0], [0]), ([1], [1]), ([2], [2]), ([], []), ([4], [4]), ([5], [5]), ([], []), ([7], [7]), ([8, 6], [8]), ([], []), ([10], [10]), ([11], [11]), ([], []), ([], []), ([13, 14], [13, 14]), ([15, 9], [15]), ([3, 6, 9, 12, 16], [3, 6, 9, 12, 16]), ([], []), ([18, 17, 16, 0, 1, 2, 3, 4, 5, 6, 7, 8, 9, 10, 11, 12, 13, 14, 15, 16, 17, 18], [17, 18])])
def script_first.B10 : List Nat := [0, 1, 3, 7, 0, 16, 48, 0, 128, 496, 0, 1024, 3072, 0, 0, 24576, 58352, 131071, 0, 524287]
theorem script_first.tab10 : rtab .any (opsOf Try.f19 10) = script_first.T10 := by kernel_rfl
theorem script_first.bits10 : waitsOk script_first.T10.2 script_first.B10 = true := by kernel_rfl
def script_first.T11 : Bool × List (List Nat × List Nat) := (true, [([], []), ([0], [0]), ([1], [1]), ([2], [2]), ([], []), ([4], [4]), ([5], [5]), ([6], [6]), ([], []), ([8], [8]), ([9], [9]), ([10], [10]), ([3, 7, 11], [3, 7, 11]), ([0, 1, 2, 3, 4, 5, 6, 7, 8, 9, 10, 11, 12], []), ([13, 12, 6, 0, 1, 2, 3, 4, 5, 6, 7, 8, 9, 10, 11, 12], [12, 13])])
def script_first.B11 : List Nat := [0, 1, 3, 7, 0, 16, 48, 112, 0, 256, 768, 1792, 4095, 8191, 16383]
theorem script_first.tab11 : rtab .any (opsOf Try.f19 11) = script_first.T11 := by kernel_rfl
theorem script_first.bits11 : waitsOk script_first.T11.2 script_first.B11 = true := by kernel_rfl
theorem far_cells {w : World} {ad : Addr} {g : Nat} (h : ad.block ≠ g) {v : Option Value} (h0 : w.cell? ad = v) (i : Nat) (u : Value) : (w.setCell ⟨g, i, none⟩ u).cell? ad = v := (cell_far (p := ⟨g, i, none⟩) h u).trans h0
theorem far_cells2 {w : World} {b o g : Nat} {sp : Option Nat} (h : b ≠ g) {v : Option Value} (h0 : w.cell? ⟨b, o, sp⟩ = v) (i : Nat) (u : Value) : (w.setCell ⟨g, i, none⟩ u).cell? ⟨b, o, sp⟩ = v := far_cells (ad := ⟨b, o, sp⟩) h h0 i u
theorem apart_new {w : World} {A : Option Addr} {ad : Addr} {g n : Nat} {xs : List Int} (h : Kd.C (Kd.int .u8) w A n xs) (hA : A = some ad) (hn : 0 < xs.length) (hg : w.heap.size ≤ g) : ad.block ≠ g := by
  subst hA
  obtain ⟨ad_, e_, hx⟩ := Kd.at_int h 0 (by omega) (by have := Kd.C_len h; omega)
  injection e_ with e_
  subst e_
  rw [show ((0 : Int)).toNat = 0 from rfl, Addr.add_zero'] at hx
  intro e
  unfold World.cell? at hx
  rw [Array.getElem?_eq_none (by omega)] at hx
  cases hx
set_option maxHeartbeats 8000000 in
set_option maxRecDepth 100000 in
theorem script_first.calls (P0_ : Nat → Prop) (A0 : Option Addr) (c0 : Nat) (l0 : List Int) (r1 : Int) (r2 : Int) (r3 : Int) (r4 : Int) (r5 : Int) (r6 : Int) (r7 : Int) (r8 : Int) (r9 : Int) (r10 : Int) (r11 : List Int) (r12 : List Int) (r13 : Int) (w : World) (hs0 : Kd.V (Kd.int .u8) 5 w w.heap.size (fun k_ => P0_ k_) (.slice A0 l0.length c0) l0) (h : script_first.f l0 = some (r1, r2, r3, r4, r5, r6, r7, r8, r9, r10, r11, r12, r13)) :
    Calls Try.prog 19 #[.slice A0 l0.length c0] w fun e w' => ∃ v10_ v11_ : Value, e = .returned (.tuple #[.agg #[.int .i64 r1, .int .i64 r2, .int .i64 r3, .int .u8 r4, .int .i64 r5, .int .u16 r6, .int .u8 r7, .int .u8 r8, .int .u8 r9, .int .u8 r10, v10_], v11_, .int .i64 r13]) ∧ Kd.R (Kd.int .u8) 5 w' w.heap.size (fun k_ => (w.heap.size ≤ k_)) v10_ r11 ∧ Kd.V (Kd.int .u8) 5 w' w.heap.size (fun k_ => (P0_ k_ ∨ w.heap.size ≤ k_) ∧ some k_ ≠ (v10_ : Value).ownBlock) v11_ r12 ∧ Below w.heap.size w w' := by
  have hu44 := Try.underlying44
  have hu37 := Try.underlying37
  have hu42 := Try.underlying42
  have HO0 := Aside0.mk (show Kd.V (Kd.int .u8) 5 w w.heap.size (fun k_ => (P0_ k_ ∨ w.heap.size ≤ k_)) (.slice A0 l0.length c0) l0 from Kd.V_mono hs0 (fun k_ hk => .inl hk))
  have HB := Aside0.mk (Below.refl w.heap.size w)
  have H : (if 0 < (l0.length : Int) then ((script_within.f (wrap64 (rd l0 0)) 1 8).bind fun t194 => (if t194 = true then (if (l0.length : Int) < 15 then (some (0, 0, 0, 0, 0, 0, 0, 0, 0, 0, ([] : List Int), ([] : List Int), 4)) else (if 13 ≤ (l0.length : Int) then ((script_number.f (l0.drop 13)).bind fun t200 => (if 15 ≤ (l0.length : Int) then ((some (l0.drop 15 : List Int)).bind fun y201 => (if t200 > 400 then (some (0, 0, 0, 0, 0, 0, 0, 0, 0, 0, ([] : List Int), ([] : List Int), 10)) else (if (y201.length : Int) < t200 then (some (0, 0, 0, 0, 0, 0, 0, 0, 0, 0, ([] : List Int), ([] : List Int), 4)) else (if 1 ≤ (l0.length : Int) then ((script_signed.f (l0.drop 1)).bind fun t212 => (if 3 ≤ (l0.length : Int) then ((script_signed.f (l0.drop 3)).bind fun t218 => (if 5 < (l0.length : Int) then (if 0 ≤ t200 then (if t200 ≤ (y201.length : Int) then ((bytes_Clone.f (y201.take (t200 : Int).toNat)).bind fun t225 => (if 6 < (l0.length : Int) then (if 7 ≤ (l0.length : Int) then ((script_number.f (l0.drop 7)).bind fun t235 => (if 9 ≤ 13 then (some (wrap64 (rd l0 0), t212, t218, rd l0 5, wrap64 (rd l0 6), IntKind.u16.wrap (t235), rd l0 9, rd l0 10, rd l0 11, rd l0 12, t225, (y201.drop (t200 : Int).toNat), 0)) else (none))) else (none)) else (none))) else (none)) else (none)) else (none))) else (none))) else (none))))) else (none))) else (none))) else (some (0, 0, 0, 0, 0, 0, 0, 0, 0, 0, ([] : List Int), ([] : List Int), 11)))) else (none)) = some (r1, r2, r3, r4, r5, r6, r7, r8, r9, r10, r11, r12, r13) := h
  clear h
  by_cases c2 : 0 < (l0.length : Int)
  · rw [if_pos c2] at H
    have c2b0 : decide (0 < (l0.length : Int)) = true := decide_eq_true c2
    have c2b1 : decide (0 < l0.length) = true := decide_eq_true (by omega)
    clear c2
    replace H := Option.bind_eq_some_iff.mp H
    obtain ⟨t194, A30, H⟩ := H
    replace H : (if t194 = true then (if (l0.length : Int) < 15 then (some (0, 0, 0, 0, 0, 0, 0, 0, 0, 0, ([] : List Int), ([] : List Int), 4)) else (if 13 ≤ (l0.length : Int) then ((script_number.f (l0.drop 13)).bind fun t200 => (if 15 ≤ (l0.length : Int) then ((some (l0.drop 15 : List Int)).bind fun y201 => (if t200 > 400 then (some (0, 0, 0, 0, 0, 0, 0, 0, 0, 0, ([] : List Int), ([] : List Int), 10)) else (if (y201.length : Int) < t200 then (some (0, 0, 0, 0, 0, 0, 0, 0, 0, 0, ([] : List Int), ([] : List Int), 4)) else (if 1 ≤ (l0.length : Int) then ((script_signed.f (l0.drop 1)).bind fun t212 => (if 3 ≤ (l0.length : Int) then ((script_signed.f (l0.drop 3)).bind fun t218 => (if 5 < (l0.length : Int) then (if 0 ≤ t200 then (if t200 ≤ (y201.length : Int) then ((bytes_Clone.f (y201.take (t200 : Int).toNat)).bind fun t225 => (if 6 < (l0.length : Int) then (if 7 ≤ (l0.length : Int) then ((script_number.f (l0.drop 7)).bind fun t235 => (if 9 ≤ 13 then (some (wrap64 (rd l0 0), t212, t218, rd l0 5, wrap64 (rd l0 6), IntKind.u16.wrap (t235), rd l0 9, rd l0 10, rd l0 11, rd l0 12, t225, (y201.drop (t200 : Int).toNat), 0)) else (none))) else (none)) else (none))) else (none)) else (none)) else (none))) else (none))) else (none))))) else (none))) else (none))) else (some (0, 0, 0, 0, 0, 0, 0, 0, 0, 0, ([] : List Int), ([] : List Int), 11))) = some (r1, r2, r3, r4, r5, r6, r7, r8, r9, r10, r11, r12, r13) := H
    have A3 := Aside0.mk A30
    clear A30
    by_cases c4 : t194 = true
    · subst c4
      have H1 : (if (l0.length : Int) < 15 then (some (0, 0, 0, 0, 0, 0, 0, 0, 0, 0, ([] : List Int), ([] : List Int), 4)) else (if 13 ≤ (l0.length : Int) then ((script_number.f (l0.drop 13)).bind fun t200 => (if 15 ≤ (l0.length : Int) then ((some (l0.drop 15 : List Int)).bind fun y201 => (if t200 > 400 then (some (0, 0, 0, 0, 0, 0, 0, 0, 0, 0, ([] : List Int), ([] : List Int), 10)) else (if (y201.length : Int) < t200 then (some (0, 0, 0, 0, 0, 0, 0, 0, 0, 0, ([] : List Int), ([] : List Int), 4)) else (if 1 ≤ (l0.length : Int) then ((script_signed.f (l0.drop 1)).bind fun t212 => (if 3 ≤ (l0.length : Int) then ((script_signed.f (l0.drop 3)).bind fun t218 => (if 5 < (l0.length : Int) then (if 0 ≤ t200 then (if t200 ≤ (y201.length : Int) then ((bytes_Clone.f (y201.take (t200 : Int).toNat)).bind fun t225 => (if 6 < (l0.length : Int) then (if 7 ≤ (l0.length : Int) then ((script_number.f (l0.drop 7)).bind fun t235 => (if 9 ≤ 13 then (some (wrap64 (rd l0 0), t212, t218, rd l0 5, wrap64 (rd l0 6), IntKind.u16.wrap (t235), rd l0 9, rd l0 10, rd l0 11, rd l0 12, t225, (y201.drop (t200 : Int).toNat), 0)) else (none))) else (none)) else (none))) else (none)) else (none)) else (none))) else (none))) else (none))))) else (none))) else (none))) = some (r1, r2, r3, r4, r5, r6, r7, r8, r9, r10, r11, r12, r13) := by rw [if_pos rfl] at H; exact H
      clear H
      have H := H1
      clear H1
      by_cases c5 : (l0.length : Int) < 15
      · rw [if_pos c5] at H
        have c5b0 : decide ((l0.length : Int) < 15) = true := decide_eq_true c5
        have c5b1 : decide (l0.length < 15) = true := decide_eq_true (by omega)
        clear c5
        simp only [Option.some.injEq, Prod.mk.injEq] at H
        obtain ⟨rfl, rfl, rfl, rfl, rfl, rfl, rfl, rfl, rfl, rfl, rfl, rfl, rfl⟩ := H
        go_enter Try.func19, Try.ntmps19
        go_wp2_with (first | ((with_reducible refine gate_dst (N := 2) rfl ?_); refine box_event ?hg (N := 2) ?hd (cs := #[.int .i64 0, .int .i64 0, .int .i64 0, .int .u8 0, .int .i64 0, .int .u16 0, .int .u8 0, .int .u8 0, .int .u8 0, .int .u8 0, .slice none 0 0]) (t := 44) ?hr ?_; (case hd => rfl); (case hg => rfl); (case hr => first | (go_simp; done) | (go_simp; rfl)); intro gb192 hg w6 hbox hb; have n0_ := Aside0.mk (Kd.V_below (Kd.V_elderB (by (with_reducible repeat (first | apply Kd.V_alloc | apply Kd.V_drewN | apply Kd.V_drew)); exact HO0.out) gb192 (Nat.le_of_eq hg.symm)) hb); have n1_ := Aside0.mk (below_step (by repeat (first | (with_reducible first | exact HB.out | apply below_alloc | apply pw_below_drewN | apply below_drew1) | exact HB.out)) hb); have n2_ := Aside0.mk (hbox); have n3_ := Aside0.mk ((by rw [hg]; exact (below_size (by repeat (first | (with_reducible first | exact HB.out | apply below_alloc | apply pw_below_drewN | apply below_drew1) | exact HB.out))) : w.heap.size ≤ gb192)); have n4_ := Aside0.mk ((by rw [hg]; exact (below_size (by repeat (first | (with_reducible first | exact HB.out | apply below_alloc | apply pw_below_drewN | apply below_drew1) | exact HB.out))) : w.heap.size ≤ gb192)); clear HO0; clear HB; have HO0 := n0_; have HB := n1_; have BK192 := n2_; have GW192 := n3_; have GE192 := n4_; clear n0_ n1_ n2_ n3_ n4_; clear hb hbox hg; have p193 : 0 ≤ (0 : Int) := (by omega); have q193 : 0 < (l0.length : Int) := of_decide_eq_true (by first | (with_reducible assumption) | assumption); obtain ⟨ad193, e193, hx193_0⟩ := Kd.at_int (Kd.V_reads' HO0.out).2.2 0 p193 q193; cases e193; have qi193 : (0 < l0.length) = True := eq_true (by omega); (try rw [show ((0 : Int)).toNat = 0 from rfl] at hx193_0); (try rw [Addr.add_zero'] at hx193_0); replace p193 := eq_true p193; replace q193 := eq_true q193) | ((with_reducible refine gate_callee (f := 22) rfl ?_); refine goesL_ (some 13) rfl rfl Try.func22 (by kernel_rfl) rfl #[.int .i64 (wrap64 (rd l0 0)), .int .i64 1, .int .i64 8] rfl (by (try simp only [List.map_toArray, List.map_cons, List.map_nil]); first | done | rfl | (simp only [List.length_drop, List.length_take]; rfl)) ?_; (with_reducible refine (script_within.calls (wrap64 (rd l0 0)) 1 8 true _ A3.out).mono ?_); rintro e w' ⟨rfl, ⟨nd, rfl⟩⟩; refine ⟨_, rfl, ?_⟩; (try (rw [drewN_self w6]; generalize hq_ : World.drewN w6 _ = w6; have n0_ : Aside0 (Kd.V (Kd.int .u8) 5 w6 w.heap.size (fun k_ => (P0_ k_ ∨ w.heap.size ≤ k_) ∧ k_ ≠ gb192) (.slice (some ad193) l0.length c0) l0) := ⟨by rw [← hq_]; exact (by (with_reducible repeat (first | apply Kd.V_alloc | apply Kd.V_drewN | apply Kd.V_drew)); exact HO0.out)⟩; have n1_ : Aside0 (w6.heap[gb192]? = some (.cells #[.int .i64 0, .int .i64 0, .int .i64 0, .int .u8 0, .int .i64 0, .int .u16 0, .int .u8 0, .int .u8 0, .int .u8 0, .int .u8 0, .slice none 0 0] 44 (0, 0))) := ⟨by rw [← hq_]; exact (by (with_reducible repeat (first | refine blk_drewN ?_ _ | refine blk_drew ?_ | refine blk_alloc ?_ _)); exact BK192.out)⟩; have n2_ : Aside0 (Below w.heap.size w w6) := ⟨by rw [← hq_]; exact (by repeat (first | (with_reducible first | exact HB.out | apply below_alloc | apply pw_below_drewN | apply below_drew1 | refine below_set ?_ GE192.out) | exact HB.out))⟩; clear HO0 BK192 HB hq_; have HO0 := n0_; have BK192 := n1_; have HB := n2_; clear n0_ n1_ n2_)); have hcz7_0 : w6.cell? ⟨gb192, 0, none⟩ = some (.int .i64 0) := (blk_cell BK192.out 0).trans rfl; have hcz7_1 : w6.cell? ⟨gb192, 1, none⟩ = some (.int .i64 0) := (blk_cell BK192.out 1).trans rfl; have hcz7_2 : w6.cell? ⟨gb192, 2, none⟩ = some (.int .i64 0) := (blk_cell BK192.out 2).trans rfl; have hcz7_3 : w6.cell? ⟨gb192, 3, none⟩ = some (.int .u8 0) := (blk_cell BK192.out 3).trans rfl; have hcz7_4 : w6.cell? ⟨gb192, 4, none⟩ = some (.int .i64 0) := (blk_cell BK192.out 4).trans rfl; have hcz7_5 : w6.cell? ⟨gb192, 5, none⟩ = some (.int .u16 0) := (blk_cell BK192.out 5).trans rfl; have hcz7_6 : w6.cell? ⟨gb192, 6, none⟩ = some (.int .u8 0) := (blk_cell BK192.out 6).trans rfl; have hcz7_7 : w6.cell? ⟨gb192, 7, none⟩ = some (.int .u8 0) := (blk_cell BK192.out 7).trans rfl; have hcz7_8 : w6.cell? ⟨gb192, 8, none⟩ = some (.int .u8 0) := (blk_cell BK192.out 8).trans rfl; have hcz7_9 : w6.cell? ⟨gb192, 9, none⟩ = some (.int .u8 0) := (blk_cell BK192.out 9).trans rfl; have hcz7_10 : w6.cell? ⟨gb192, 10, none⟩ = some (.slice none 0 0) := (blk_cell BK192.out 10).trans rfl; have hfz7_0 := blk_frozen BK192.out 0; have hfz7_1 := blk_frozen BK192.out 1; have hfz7_2 := blk_frozen BK192.out 2; have hfz7_3 := blk_frozen BK192.out 3; have hfz7_4 := blk_frozen BK192.out 4; have hfz7_5 := blk_frozen BK192.out 5; have hfz7_6 := blk_frozen BK192.out 6; have hfz7_7 := blk_frozen BK192.out 7; have hfz7_8 := blk_frozen BK192.out 8; have hfz7_9 := blk_frozen BK192.out 9; have hfz7_10 := blk_frozen BK192.out 10))
        refine bodyPost_ret (results_ctt rfl _ _ gb192 44 #[.int .i64 0, .int .i64 0, .int .i64 0, .int .u8 0, .int .i64 0, .int .u16 0, .int .u8 0, .int .u8 0, .int .u8 0, .int .u8 0, .slice none 0 0] (0, 0) _ rfl (by (with_reducible repeat (first | refine blk_drewN ?_ _ | refine blk_drew ?_ | refine blk_alloc ?_ _)); refine blk_put (cs := #[.int .i64 0, .int .i64 0, .int .i64 0, .int .u8 0, .int .i64 0, .int .u16 0, .int .u8 0, .int .u8 0, .int .u8 0, .int .u8 0, .slice none 0 0]) ?_ 10 _ rfl; (with_reducible repeat (first | refine blk_drewN ?_ _ | refine blk_drew ?_ | refine blk_alloc ?_ _)); refine blk_put (cs := #[.int .i64 0, .int .i64 0, .int .i64 0, .int .u8 0, .int .i64 0, .int .u16 0, .int .u8 0, .int .u8 0, .int .u8 0, .int .u8 0, .slice none 0 0]) ?_ 9 _ rfl; (with_reducible repeat (first | refine blk_drewN ?_ _ | refine blk_drew ?_ | refine blk_alloc ?_ _)); refine blk_put (cs := #[.int .i64 0, .int .i64 0, .int .i64 0, .int .u8 0, .int .i64 0, .int .u16 0, .int .u8 0, .int .u8 0, .int .u8 0, .int .u8 0, .slice none 0 0]) ?_ 8 _ rfl; (with_reducible repeat (first | refine blk_drewN ?_ _ | refine blk_drew ?_ | refine blk_alloc ?_ _)); refine blk_put (cs := #[.int .i64 0, .int .i64 0, .int .i64 0, .int .u8 0, .int .i64 0, .int .u16 0, .int .u8 0, .int .u8 0, .int .u8 0, .int .u8 0, .slice none 0 0]) ?_ 7 _ rfl; (with_reducible repeat (first | refine blk_drewN ?_ _ | refine blk_drew ?_ | refine blk_alloc ?_ _)); refine blk_put (cs := #[.int .i64 0, .int .i64 0, .int .i64 0, .int .u8 0, .int .i64 0, .int .u16 0, .int .u8 0, .int .u8 0, .int .u8 0, .int .u8 0, .slice none 0 0]) ?_ 6 _ rfl; (with_reducible repeat (first | refine blk_drewN ?_ _ | refine blk_drew ?_ | refine blk_alloc ?_ _)); refine blk_put (cs := #[.int .i64 0, .int .i64 0, .int .i64 0, .int .u8 0, .int .i64 0, .int .u16 0, .int .u8 0, .int .u8 0, .int .u8 0, .int .u8 0, .slice none 0 0]) ?_ 5 _ rfl; (with_reducible repeat (first | refine blk_drewN ?_ _ | refine blk_drew ?_ | refine blk_alloc ?_ _)); refine blk_put (cs := #[.int .i64 0, .int .i64 0, .int .i64 0, .int .u8 0, .int .i64 0, .int .u16 0, .int .u8 0, .int .u8 0, .int .u8 0, .int .u8 0, .slice none 0 0]) ?_ 4 _ rfl; (with_reducible repeat (first | refine blk_drewN ?_ _ | refine blk_drew ?_ | refine blk_alloc ?_ _)); refine blk_put (cs := #[.int .i64 0, .int .i64 0, .int .i64 0, .int .u8 0, .int .i64 0, .int .u16 0, .int .u8 0, .int .u8 0, .int .u8 0, .int .u8 0, .slice none 0 0]) ?_ 3 _ rfl; (with_reducible repeat (first | refine blk_drewN ?_ _ | refine blk_drew ?_ | refine blk_alloc ?_ _)); refine blk_put (cs := #[.int .i64 0, .int .i64 0, .int .i64 0, .int .u8 0, .int .i64 0, .int .u16 0, .int .u8 0, .int .u8 0, .int .u8 0, .int .u8 0, .slice none 0 0]) ?_ 2 _ rfl; (with_reducible repeat (first | refine blk_drewN ?_ _ | refine blk_drew ?_ | refine blk_alloc ?_ _)); refine blk_put (cs := #[.int .i64 0, .int .i64 0, .int .i64 0, .int .u8 0, .int .i64 0, .int .u16 0, .int .u8 0, .int .u8 0, .int .u8 0, .int .u8 0, .slice none 0 0]) ?_ 1 _ rfl; (with_reducible repeat (first | refine blk_drewN ?_ _ | refine blk_drew ?_ | refine blk_alloc ?_ _)); refine blk_put (cs := #[.int .i64 0, .int .i64 0, .int .i64 0, .int .u8 0, .int .i64 0, .int .u16 0, .int .u8 0, .int .u8 0, .int .u8 0, .int .u8 0, .slice none 0 0]) ?_ 0 _ rfl; (with_reducible repeat (first | refine blk_drewN ?_ _ | refine blk_drew ?_ | refine blk_alloc ?_ _)); exact BK192.out) Try.underlying44 rfl (by kernel_rfl)) rfl ?_
        exact ⟨_, _, by first | rfl | (simp [errW_none, errW_some] <;> rfl) | (simp [*, errW_none, errW_some] <;> rfl), by first | exact Kd.R_nil _ _ _ _ _ | exact Kd.N_nil _ _ _ _ _ | exact Kd.V_nil _ _ _ _ _ | exact Kd.Q_nil _ _ _ _ _ | exact Kd.S_nil _ _ _ _ _, by first | exact Kd.V_nil _ _ _ _ _ | exact Kd.V_mono (Kd.R_V (by first | exact Kd.R_nil _ _ _ _ _ | exact Kd.N_nil _ _ _ _ _ | exact Kd.V_nil _ _ _ _ _ | exact Kd.Q_nil _ _ _ _ _ | exact Kd.S_nil _ _ _ _ _)) (fun k_ hk => by first | exact ⟨(.inr (hk.1)), hk.2⟩ | exact (.inr (hk))), by repeat (first | (with_reducible first | exact HB.out | apply below_alloc | apply pw_below_drewN | apply below_drew1 | refine below_set ?_ GE192.out) | exact HB.out)⟩
      · rw [if_neg c5] at H
        have c5b0 : decide ((l0.length : Int) < 15) = false := decide_eq_false c5
        have c5b1 : decide (l0.length < 15) = false := decide_eq_false (by omega)
        clear c5
        by_cases c8 : 13 ≤ (l0.length : Int)
        · rw [if_pos c8] at H
          have c8b0 := eq_true c8
          have c8b1 : decide (13 ≤ (l0.length : Int)) = true := decide_eq_true c8
          clear c8
          obtain ⟨y195, hy195⟩ : ∃ y_ : List Int, y_ = (l0.drop 13) := ⟨_, rfl⟩
          replace H : ((script_number.f y195).bind fun t200 => (if 15 ≤ (l0.length : Int) then ((some (l0.drop 15 : List Int)).bind fun y201 => (if t200 > 400 then (some (0, 0, 0, 0, 0, 0, 0, 0, 0, 0, ([] : List Int), ([] : List Int), 10)) else (if (y201.length : Int) < t200 then (some (0, 0, 0, 0, 0, 0, 0, 0, 0, 0, ([] : List Int), ([] : List Int), 4)) else (if 1 ≤ (l0.length : Int) then ((script_signed.f (l0.drop 1)).bind fun t212 => (if 3 ≤ (l0.length : Int) then ((script_signed.f (l0.drop 3)).bind fun t218 => (if 5 < (l0.length : Int) then (if 0 ≤ t200 then (if t200 ≤ (y201.length : Int) then ((bytes_Clone.f (y201.take (t200 : Int).toNat)).bind fun t225 => (if 6 < (l0.length : Int) then (if 7 ≤ (l0.length : Int) then ((script_number.f (l0.drop 7)).bind fun t235 => (if 9 ≤ 13 then (some (wrap64 (rd l0 0), t212, t218, rd l0 5, wrap64 (rd l0 6), IntKind.u16.wrap (t235), rd l0 9, rd l0 10, rd l0 11, rd l0 12, t225, (y201.drop (t200 : Int).toNat), 0)) else (none))) else (none)) else (none))) else (none)) else (none)) else (none))) else (none))) else (none))))) else (none))) = some (r1, r2, r3, r4, r5, r6, r7, r8, r9, r10, r11, r12, r13) := by first | (rw [hy195]; with_reducible exact H) | (have H2_ := (Option.bind_some _ _).symm.trans H; rw [hy195]; with_reducible exact H2_) | (have H2_ := (Option.bind_some _ _).symm.trans H; with_reducible exact H2_) | with_reducible exact H | (rw [hy195]; exact H) | exact H
          have Ny195 := Aside0.mk hy195
          clear hy195
          replace H := Option.bind_eq_some_iff.mp H
          obtain ⟨t200, A90, H⟩ := H
          replace H : (if 15 ≤ (l0.length : Int) then ((some (l0.drop 15 : List Int)).bind fun y201 => (if t200 > 400 then (some (0, 0, 0, 0, 0, 0, 0, 0, 0, 0, ([] : List Int), ([] : List Int), 10)) else (if (y201.length : Int) < t200 then (some (0, 0, 0, 0, 0, 0, 0, 0, 0, 0, ([] : List Int), ([] : List Int), 4)) else (if 1 ≤ (l0.length : Int) then ((script_signed.f (l0.drop 1)).bind fun t212 => (if 3 ≤ (l0.length : Int) then ((script_signed.f (l0.drop 3)).bind fun t218 => (if 5 < (l0.length : Int) then (if 0 ≤ t200 then (if t200 ≤ (y201.length : Int) then ((bytes_Clone.f (y201.take (t200 : Int).toNat)).bind fun t225 => (if 6 < (l0.length : Int) then (if 7 ≤ (l0.length : Int) then ((script_number.f (l0.drop 7)).bind fun t235 => (if 9 ≤ 13 then (some (wrap64 (rd l0 0), t212, t218, rd l0 5, wrap64 (rd l0 6), IntKind.u16.wrap (t235), rd l0 9, rd l0 10, rd l0 11, rd l0 12, t225, (y201.drop (t200 : Int).toNat), 0)) else (none))) else (none)) else (none))) else (none)) else (none)) else (none))) else (none))) else (none))))) else (none)) = some (r1, r2, r3, r4, r5, r6, r7, r8, r9, r10, r11, r12, r13) := H
          have A9 := Aside0.mk A90
          clear A90
          by_cases c10 : 15 ≤ (l0.length : Int)
          · rw [if_pos c10] at H
            have c10b0 := eq_true c10
            have c10b1 : decide (15 ≤ (l0.length : Int)) = true := decide_eq_true c10
            clear c10
            obtain ⟨y201, hy201⟩ : ∃ y_ : List Int, y_ = (l0.drop 15) := ⟨_, rfl⟩
            replace H : (if t200 > 400 then (some (0, 0, 0, 0, 0, 0, 0, 0, 0, 0, ([] : List Int), ([] : List Int), 10)) else (if (y201.length : Int) < t200 then (some (0, 0, 0, 0, 0, 0, 0, 0, 0, 0, ([] : List Int), ([] : List Int), 4)) else (if 1 ≤ (l0.length : Int) then ((script_signed.f (l0.drop 1)).bind fun t212 => (if 3 ≤ (l0.length : Int) then ((script_signed.f (l0.drop 3)).bind fun t218 => (if 5 < (l0.length : Int) then (if 0 ≤ t200 then (if t200 ≤ (y201.length : Int) then ((bytes_Clone.f (y201.take (t200 : Int).toNat)).bind fun t225 => (if 6 < (l0.length : Int) then (if 7 ≤ (l0.length : Int) then ((script_number.f (l0.drop 7)).bind fun t235 => (if 9 ≤ 13 then (some (wrap64 (rd l0 0), t212, t218, rd l0 5, wrap64 (rd l0 6), IntKind.u16.wrap (t235), rd l0 9, rd l0 10, rd l0 11, rd l0 12, t225, (y201.drop (t200 : Int).toNat), 0)) else (none))) else (none)) else (none))) else (none)) else (none)) else (none))) else (none))) else (none)))) = some (r1, r2, r3, r4, r5, r6, r7, r8, r9, r10, r11, r12, r13) := by first | (rw [hy201]; with_reducible exact H) | (have H2_ := (Option.bind_some _ _).symm.trans H; rw [hy201]; with_reducible exact H2_) | (have H2_ := (Option.bind_some _ _).symm.trans H; with_reducible exact H2_) | with_reducible exact H | (rw [hy201]; exact H) | exact H
            have Ny201 := Aside0.mk hy201
            clear hy201
            by_cases c11 : t200 > 400
            · rw [if_pos c11] at H
              have c11b0 : decide (400 < t200) = true := decide_eq_true c11
              clear c11
              simp only [Option.some.injEq, Prod.mk.injEq] at H
              obtain ⟨rfl, rfl, rfl, rfl, rfl, rfl, rfl, rfl, rfl, rfl, rfl, rfl, rfl⟩ := H
              go_enter Try.func19, Try.ntmps19
              try go_wp2_with (first | ((with_reducible refine gate_dst (N := 2) rfl ?_); refine box_event ?hg (N := 2) ?hd (cs := #[.int .i64 0, .int .i64 0, .int .i64 0, .int .u8 0, .int .i64 0, .int .u16 0, .int .u8 0, .int .u8 0, .int .u8 0, .int .u8 0, .slice none 0 0]) (t := 44) ?hr ?_; (case hd => rfl); (case hg => rfl); (case hr => first | (go_simp; done) | (go_simp; rfl)); intro gb192 hg w12 hbox hb; have n0_ := Aside0.mk (Kd.V_below (Kd.V_elderB (by (with_reducible repeat (first | apply Kd.V_alloc | apply Kd.V_drewN | apply Kd.V_drew)); exact HO0.out) gb192 (Nat.le_of_eq hg.symm)) hb); have n1_ := Aside0.mk (below_step (by repeat (first | (with_reducible first | exact HB.out | apply below_alloc | apply pw_below_drewN | apply below_drew1) | exact HB.out)) hb); have n2_ := Aside0.mk (hbox); have n3_ := Aside0.mk ((by rw [hg]; exact (below_size (by repeat (first | (with_reducible first | exact HB.out | apply below_alloc | apply pw_below_drewN | apply below_drew1) | exact HB.out))) : w.heap.size ≤ gb192)); have n4_ := Aside0.mk ((by rw [hg]; exact (below_size (by repeat (first | (with_reducible first | exact HB.out | apply below_alloc | apply pw_below_drewN | apply below_drew1) | exact HB.out))) : w.heap.size ≤ gb192)); clear HO0; clear HB; have HO0 := n0_; have HB := n1_; have BK192 := n2_; have GW192 := n3_; have GE192 := n4_; clear n0_ n1_ n2_ n3_ n4_; clear hb hbox hg; have p193 : 0 ≤ (0 : Int) := (by omega); have q193 : 0 < (l0.length : Int) := of_decide_eq_true (by first | (with_reducible assumption) | assumption); obtain ⟨ad193, e193, hx193_0⟩ := Kd.at_int (Kd.V_reads' HO0.out).2.2 0 p193 q193; cases e193; have qi193 : (0 < l0.length) = True := eq_true (by omega); (try rw [show ((0 : Int)).toNat = 0 from rfl] at hx193_0); (try rw [Addr.add_zero'] at hx193_0); replace p193 := eq_true p193; replace q193 := eq_true q193) | ((with_reducible refine gate_callee (f := 22) rfl ?_); refine goesL_ (some 13) rfl rfl Try.func22 (by kernel_rfl) rfl #[.int .i64 (wrap64 (rd l0 0)), .int .i64 1, .int .i64 8] rfl (by (try simp only [List.map_toArray, List.map_cons, List.map_nil]); first | done | rfl | (simp only [List.length_drop, List.length_take]; rfl)) ?_; (with_reducible refine (script_within.calls (wrap64 (rd l0 0)) 1 8 true _ A3.out).mono ?_); rintro e w' ⟨rfl, ⟨nd, rfl⟩⟩; refine ⟨_, rfl, ?_⟩; (try (rw [drewN_self w12]; generalize hq_ : World.drewN w12 _ = w12; have n0_ : Aside0 (Kd.V (Kd.int .u8) 5 w12 w.heap.size (fun k_ => (P0_ k_ ∨ w.heap.size ≤ k_) ∧ k_ ≠ gb192) (.slice (some ad193) l0.length c0) l0) := ⟨by rw [← hq_]; exact (by (with_reducible repeat (first | apply Kd.V_alloc | apply Kd.V_drewN | apply Kd.V_drew)); exact HO0.out)⟩; have n1_ : Aside0 (w12.heap[gb192]? = some (.cells #[.int .i64 0, .int .i64 0, .int .i64 0, .int .u8 0, .int .i64 0, .int .u16 0, .int .u8 0, .int .u8 0, .int .u8 0, .int .u8 0, .slice none 0 0] 44 (0, 0))) := ⟨by rw [← hq_]; exact (by (with_reducible repeat (first | refine blk_drewN ?_ _ | refine blk_drew ?_ | refine blk_alloc ?_ _)); exact BK192.out)⟩; have n2_ : Aside0 (Below w.heap.size w w12) := ⟨by rw [← hq_]; exact (by repeat (first | (with_reducible first | exact HB.out | apply below_alloc | apply pw_below_drewN | apply below_drew1 | refine below_set ?_ GE192.out) | exact HB.out))⟩; clear HO0 BK192 HB hq_; have HO0 := n0_; have BK192 := n1_; have HB := n2_; clear n0_ n1_ n2_))))
              have n0_ := Aside0.mk (Kd.V_drew HO0.out)
              have n1_ := Aside0.mk (blk_drew BK192.out)
              have n2_ := Aside0.mk (below_drew1 HB.out)
              clear HO0
              clear BK192
              clear HB
              have HO0 := n0_
              have BK192 := n1_
              have HB := n2_
              clear n0_ n1_ n2_
              have q14 : (13 : Int) ≤ ((l0.length : Int) : Int) := of_decide_eq_true (by first | (with_reducible assumption) | assumption)
              obtain ⟨i014, hi014, _, hsz14, _⟩ := info_parts info5
              have hroom14 : l0.length ≤ c0 := (Kd.V_reads' HO0.out).2.1
              have hC14 : Kd.F (Kd.int .u8) _ _ (some ad193) l0.length l0 := (Kd.V_at (base := w.heap.size) HO0.out).2.2
              have hcut14 := cut_from (P := Try.prog) 23 5 .i64 Try.underlying23 hi014 1 hsz14 (some ad193) l0.length c0 13 (by omega) q14
              have hr14 := Kd.F_cut (m := (13 : Int).toNat) (c := c0) hC14 (by omega) hroom14
              obtain ⟨A14, hA14⟩ : ∃ A1, A1 = (if c0 = (13 : Int).toNat then (some ad193) else ((some ad193) : Option Addr).map (·.add ((13 : Int).toNat * 1))) := ⟨_, rfl⟩
              obtain ⟨c14, hc14⟩ : ∃ c1, c1 = c0 - (13 : Int).toNat := ⟨_, rfl⟩
              have hy14 : y195.length = l0.length - (13 : Int).toNat := (by rw [Ny195.out, List.length_drop] <;> omega)
              rw [show (l0).drop (13 : Int).toNat = y195 from Ny195.out.symm] at hr14
              replace hr14 : Kd.F (Kd.int .u8) _ _ A14 y195.length y195 := (by rw [hA14]; exact hr14)
              rw [← hy14, ← hA14, ← hc14] at hcut14
              have HO199 := Aside0.mk (show Kd.V (Kd.int .u8) 5 _ w.heap.size _ (.slice A14 y195.length c14) y195 from Kd.V_mk (by rw [hy14, hc14]; exact Nat.sub_le_sub_right hroom14 _) hr14)
              have HC199 := Aside0.mk (show y195.length ≤ c14 from by rw [hy14, hc14]; exact Nat.sub_le_sub_right hroom14 _)
              clear hr14 hC14 hroom14 hi014 hsz14 hc14
              have KY14 := Aside0.mk hy14
              have KA14 := Aside0.mk hA14
              clear hy14 hA14
              replace q14 := eq_true q14
              have q15 : (15 : Int) ≤ ((l0.length : Int) : Int) := of_decide_eq_true (by first | (with_reducible assumption) | assumption)
              obtain ⟨i015, hi015, _, hsz15, _⟩ := info_parts info5
              have hroom15 : l0.length ≤ c0 := (Kd.V_reads' HO0.out).2.1
              have hC15 : Kd.F (Kd.int .u8) _ _ (some ad193) l0.length l0 := (Kd.V_at (base := w.heap.size) HO0.out).2.2
              have hcut15 := cut_from (P := Try.prog) 23 5 .i64 Try.underlying23 hi015 1 hsz15 (some ad193) l0.length c0 15 (by omega) q15
              have hr15 := Kd.F_cut (m := (15 : Int).toNat) (c := c0) hC15 (by omega) hroom15
              obtain ⟨A15, hA15⟩ : ∃ A1, A1 = (if c0 = (15 : Int).toNat then (some ad193) else ((some ad193) : Option Addr).map (·.add ((15 : Int).toNat * 1))) := ⟨_, rfl⟩
              obtain ⟨c15, hc15⟩ : ∃ c1, c1 = c0 - (15 : Int).toNat := ⟨_, rfl⟩
              have hy15 : y201.length = l0.length - (15 : Int).toNat := (by rw [Ny201.out, List.length_drop] <;> omega)
              rw [show (l0).drop (15 : Int).toNat = y201 from Ny201.out.symm] at hr15
              replace hr15 : Kd.F (Kd.int .u8) _ _ A15 y201.length y201 := (by rw [hA15]; exact hr15)
              rw [← hy15, ← hA15, ← hc15] at hcut15
              have HO205 := Aside0.mk (show Kd.V (Kd.int .u8) 5 _ w.heap.size _ (.slice A15 y201.length c15) y201 from Kd.V_mk (by rw [hy15, hc15]; exact Nat.sub_le_sub_right hroom15 _) hr15)
              have HC205 := Aside0.mk (show y201.length ≤ c15 from by rw [hy15, hc15]; exact Nat.sub_le_sub_right hroom15 _)
              clear hr15 hC15 hroom15 hi015 hsz15 hc15
              have KY15 := Aside0.mk hy15
              have KA15 := Aside0.mk hA15
              clear hy15 hA15
              replace q15 := eq_true q15
              refine start_ (n := 7) (S := fun w' => True) (ds := []) #[false, false, false, false, false, false, false] (by kernel_rfl) rfl rfl trivial (fun hHeld => ?_)
              generalize w12.drew = w13 at HO0 BK192 HB HO199 HO205 hHeld ⊢
              refine pure_ (i := 0) (N := some 21) (v := ?_) (a' := ?_) #[true, false, false, false, false, false, false] rfl rfl (by kernel_rfl) (fun _ _ _ h => h) (Or.inl ⟨by rfl, ?_⟩) ?_ ?_
              rotate_left
              · intro w'
                go_simp
                with_reducible rfl
              rotate_left
              · simp only [Act.put, List.setIfInBounds_toArray, List.set_cons_zero, List.set_cons_succ, i64_w, i32_w]
                rfl
              refine pure_ (i := 1) (N := some 22) (v := ?_) (a' := ?_) #[true, true, false, false, false, false, false] rfl rfl (by kernel_rfl) (fun _ _ _ h => h) (Or.inl ⟨by rfl, ?_⟩) ?_ ?_
              rotate_left
              · intro w'
                go_simp
                with_reducible rfl
              rotate_left
              · simp only [Act.put, List.setIfInBounds_toArray, List.set_cons_zero, List.set_cons_succ, i64_w, i32_w]
                rfl
              refine pure_ (i := 3) (N := some 24) (v := ?_) (a' := ?_) #[true, true, false, true, false, false, false] rfl rfl (by kernel_rfl) (fun _ _ _ h => h) (Or.inl ⟨by rfl, ?_⟩) ?_ ?_
              rotate_left
              · intro w'
                go_simp
                with_reducible rfl
              rotate_left
              · simp only [Act.put, List.setIfInBounds_toArray, List.set_cons_zero, List.set_cons_succ, i64_w, i32_w]
                rfl
              refine pure_ (i := 4) (N := some 25) (v := ?_) (a' := ?_) #[true, true, false, true, true, false, false] rfl rfl (by kernel_rfl) (fun _ _ _ h => h) (Or.inl ⟨by rfl, ?_⟩) ?_ ?_
              rotate_left
              · intro w'
                go_simp
                with_reducible rfl
              rotate_left
              · simp only [Act.put, List.setIfInBounds_toArray, List.set_cons_zero, List.set_cons_succ, i64_w, i32_w]
                rfl
              refine one_ (i := 2) (N := some 23) #[true, true, true, true, true, false, false] rfl rfl (by kernel_rfl) (by decide) (fun K hK => ?_)
              refine goes_ Try.func29 (by kernel_rfl) rfl #[.slice A14 y195.length c14] (by rfl) rfl rfl (by (try simp only [List.map_toArray, List.map_cons, List.map_nil]); first | done | rfl | (simp only [List.length_drop, List.length_take]; rfl)) ?_
              with_reducible refine (script_number.calls _ _ y195 t200 _ ?side1 ?side2 A9.out).mono ?_
              (case side1 => repeat (first | exact (Kd.V_reads' HO199.out).2.2 | (with_reducible refine Kd.C_alloc ?_ _) | (with_reducible refine Kd.C_drewN ?_ _) | (with_reducible refine Kd.C_drew ?_)))
              (case side2 => exact (Kd.V_reads' HO199.out).2.1)
              rintro e w' ⟨rfl, ⟨nd, rfl⟩⟩
              refine ⟨_, rfl, ?_⟩
              refine hK.out _ _ trivial (fun hHeld => ?_)
              clear hK K
              refine norm_ (a' := ?_) ?_ ?_
              rotate_left
              · show Act.put _ (some 23) _ = _
                simp only [Act.put, List.setIfInBounds_toArray, List.set_cons_zero, List.set_cons_succ, i64_w, i32_w]
                rfl
              refine pure_ (i := 5) (N := some 5) (v := ?_) (a' := ?_) #[true, true, true, true, true, true, false] rfl rfl (by kernel_rfl) (fun _ _ _ h => h) (Or.inl ⟨by rfl, ?_⟩) ?_ ?_
              rotate_left
              · intro w'
                go_simp
                with_reducible rfl
              rotate_left
              · simp only [Act.put, List.setIfInBounds_toArray, List.set_cons_zero, List.set_cons_succ, i64_w, i32_w]
                rfl
              refine pure_ (i := 6) (N := some 6) (v := ?_) (a' := ?_) #[true, true, true, true, true, true, true] rfl rfl (by kernel_rfl) (fun _ _ _ h => h) (Or.inl ⟨by rfl, ?_⟩) ?_ ?_
              rotate_left
              · intro w'
                go_simp
                with_reducible rfl
              rotate_left
              · simp only [Act.put, List.setIfInBounds_toArray, List.set_cons_zero, List.set_cons_succ, i64_w, i32_w]
                rfl
              refine done_ (by kernel_rfl) ?_
              have hcz16_0 : w13.cell? ⟨gb192, 0, none⟩ = some (.int .i64 0) := (blk_cell BK192.out 0).trans rfl
              have hcz16_1 : w13.cell? ⟨gb192, 1, none⟩ = some (.int .i64 0) := (blk_cell BK192.out 1).trans rfl
              have hcz16_2 : w13.cell? ⟨gb192, 2, none⟩ = some (.int .i64 0) := (blk_cell BK192.out 2).trans rfl
              have hcz16_3 : w13.cell? ⟨gb192, 3, none⟩ = some (.int .u8 0) := (blk_cell BK192.out 3).trans rfl
              have hcz16_4 : w13.cell? ⟨gb192, 4, none⟩ = some (.int .i64 0) := (blk_cell BK192.out 4).trans rfl
              have hcz16_5 : w13.cell? ⟨gb192, 5, none⟩ = some (.int .u16 0) := (blk_cell BK192.out 5).trans rfl
              have hcz16_6 : w13.cell? ⟨gb192, 6, none⟩ = some (.int .u8 0) := (blk_cell BK192.out 6).trans rfl
              have hcz16_7 : w13.cell? ⟨gb192, 7, none⟩ = some (.int .u8 0) := (blk_cell BK192.out 7).trans rfl
              have hcz16_8 : w13.cell? ⟨gb192, 8, none⟩ = some (.int .u8 0) := (blk_cell BK192.out 8).trans rfl
              have hcz16_9 : w13.cell? ⟨gb192, 9, none⟩ = some (.int .u8 0) := (blk_cell BK192.out 9).trans rfl
              have hcz16_10 : w13.cell? ⟨gb192, 10, none⟩ = some (.slice none 0 0) := (blk_cell BK192.out 10).trans rfl
              have hfz16_0 := blk_frozen BK192.out 0
              have hfz16_1 := blk_frozen BK192.out 1
              have hfz16_2 := blk_frozen BK192.out 2
              have hfz16_3 := blk_frozen BK192.out 3
              have hfz16_4 := blk_frozen BK192.out 4
              have hfz16_5 := blk_frozen BK192.out 5
              have hfz16_6 := blk_frozen BK192.out 6
              have hfz16_7 := blk_frozen BK192.out 7
              have hfz16_8 := blk_frozen BK192.out 8
              have hfz16_9 := blk_frozen BK192.out 9
              have hfz16_10 := blk_frozen BK192.out 10
              try go_wp2
              refine bodyPost_ret (results_ctt rfl _ _ gb192 44 #[.int .i64 0, .int .i64 0, .int .i64 0, .int .u8 0, .int .i64 0, .int .u16 0, .int .u8 0, .int .u8 0, .int .u8 0, .int .u8 0, .slice none 0 0] (0, 0) _ rfl (by (with_reducible repeat (first | refine blk_drewN ?_ _ | refine blk_drew ?_ | refine blk_alloc ?_ _)); refine blk_put (cs := #[.int .i64 0, .int .i64 0, .int .i64 0, .int .u8 0, .int .i64 0, .int .u16 0, .int .u8 0, .int .u8 0, .int .u8 0, .int .u8 0, .slice none 0 0]) ?_ 10 _ rfl; (with_reducible repeat (first | refine blk_drewN ?_ _ | refine blk_drew ?_ | refine blk_alloc ?_ _)); refine blk_put (cs := #[.int .i64 0, .int .i64 0, .int .i64 0, .int .u8 0, .int .i64 0, .int .u16 0, .int .u8 0, .int .u8 0, .int .u8 0, .int .u8 0, .slice none 0 0]) ?_ 9 _ rfl; (with_reducible repeat (first | refine blk_drewN ?_ _ | refine blk_drew ?_ | refine blk_alloc ?_ _)); refine blk_put (cs := #[.int .i64 0, .int .i64 0, .int .i64 0, .int .u8 0, .int .i64 0, .int .u16 0, .int .u8 0, .int .u8 0, .int .u8 0, .int .u8 0, .slice none 0 0]) ?_ 8 _ rfl; (with_reducible repeat (first | refine blk_drewN ?_ _ | refine blk_drew ?_ | refine blk_alloc ?_ _)); refine blk_put (cs := #[.int .i64 0, .int .i64 0, .int .i64 0, .int .u8 0, .int .i64 0, .int .u16 0, .int .u8 0, .int .u8 0, .int .u8 0, .int .u8 0, .slice none 0 0]) ?_ 7 _ rfl; (with_reducible repeat (first | refine blk_drewN ?_ _ | refine blk_drew ?_ | refine blk_alloc ?_ _)); refine blk_put (cs := #[.int .i64 0, .int .i64 0, .int .i64 0, .int .u8 0, .int .i64 0, .int .u16 0, .int .u8 0, .int .u8 0, .int .u8 0, .int .u8 0, .slice none 0 0]) ?_ 6 _ rfl; (with_reducible repeat (first | refine blk_drewN ?_ _ | refine blk_drew ?_ | refine blk_alloc ?_ _)); refine blk_put (cs := #[.int .i64 0, .int .i64 0, .int .i64 0, .int .u8 0, .int .i64 0, .int .u16 0, .int .u8 0, .int .u8 0, .int .u8 0, .int .u8 0, .slice none 0 0]) ?_ 5 _ rfl; (with_reducible repeat (first | refine blk_drewN ?_ _ | refine blk_drew ?_ | refine blk_alloc ?_ _)); refine blk_put (cs := #[.int .i64 0, .int .i64 0, .int .i64 0, .int .u8 0, .int .i64 0, .int .u16 0, .int .u8 0, .int .u8 0, .int .u8 0, .int .u8 0, .slice none 0 0]) ?_ 4 _ rfl; (with_reducible repeat (first | refine blk_drewN ?_ _ | refine blk_drew ?_ | refine blk_alloc ?_ _)); refine blk_put (cs := #[.int .i64 0, .int .i64 0, .int .i64 0, .int .u8 0, .int .i64 0, .int .u16 0, .int .u8 0, .int .u8 0, .int .u8 0, .int .u8 0, .slice none 0 0]) ?_ 3 _ rfl; (with_reducible repeat (first | refine blk_drewN ?_ _ | refine blk_drew ?_ | refine blk_alloc ?_ _)); refine blk_put (cs := #[.int .i64 0, .int .i64 0, .int .i64 0, .int .u8 0, .int .i64 0, .int .u16 0, .int .u8 0, .int .u8 0, .int .u8 0, .int .u8 0, .slice none 0 0]) ?_ 2 _ rfl; (with_reducible repeat (first | refine blk_drewN ?_ _ | refine blk_drew ?_ | refine blk_alloc ?_ _)); refine blk_put (cs := #[.int .i64 0, .int .i64 0, .int .i64 0, .int .u8 0, .int .i64 0, .int .u16 0, .int .u8 0, .int .u8 0, .int .u8 0, .int .u8 0, .slice none 0 0]) ?_ 1 _ rfl; (with_reducible repeat (first | refine blk_drewN ?_ _ | refine blk_drew ?_ | refine blk_alloc ?_ _)); refine blk_put (cs := #[.int .i64 0, .int .i64 0, .int .i64 0, .int .u8 0, .int .i64 0, .int .u16 0, .int .u8 0, .int .u8 0, .int .u8 0, .int .u8 0, .slice none 0 0]) ?_ 0 _ rfl; (with_reducible repeat (first | refine blk_drewN ?_ _ | refine blk_drew ?_ | refine blk_alloc ?_ _)); exact BK192.out) Try.underlying44 rfl (by kernel_rfl)) rfl ?_
              exact ⟨_, _, by first | rfl | (simp [errW_none, errW_some] <;> rfl) | (simp [*, errW_none, errW_some] <;> rfl), by first | exact Kd.R_nil _ _ _ _ _ | exact Kd.N_nil _ _ _ _ _ | exact Kd.V_nil _ _ _ _ _ | exact Kd.Q_nil _ _ _ _ _ | exact Kd.S_nil _ _ _ _ _, by first | exact Kd.V_nil _ _ _ _ _ | exact Kd.V_mono (Kd.R_V (by first | exact Kd.R_nil _ _ _ _ _ | exact Kd.N_nil _ _ _ _ _ | exact Kd.V_nil _ _ _ _ _ | exact Kd.Q_nil _ _ _ _ _ | exact Kd.S_nil _ _ _ _ _)) (fun k_ hk => by first | exact ⟨(.inr (hk.1)), hk.2⟩ | exact (.inr (hk))), by repeat (first | (with_reducible first | exact HB.out | apply below_alloc | apply pw_below_drewN | apply below_drew1 | refine below_set ?_ GE192.out) | exact HB.out)⟩
            · rw [if_neg c11] at H
              have c11b0 : decide (400 < t200) = false := decide_eq_false c11
              clear c11
              by_cases c17 : (y201.length : Int) < t200
              · rw [if_pos c17] at H
                have c17b0 : decide ((y201.length : Int) < t200) = true := decide_eq_true c17
                clear c17
                simp only [Option.some.injEq, Prod.mk.injEq] at H
                obtain ⟨rfl, rfl, rfl, rfl, rfl, rfl, rfl, rfl, rfl, rfl, rfl, rfl, rfl⟩ := H
                go_enter Try.func19, Try.ntmps19
                try go_wp2_with (first | ((with_reducible refine gate_dst (N := 2) rfl ?_); refine box_event ?hg (N := 2) ?hd (cs := #[.int .i64 0, .int .i64 0, .int .i64 0, .int .u8 0, .int .i64 0, .int .u16 0, .int .u8 0, .int .u8 0, .int .u8 0, .int .u8 0, .slice none 0 0]) (t := 44) ?hr ?_; (case hd => rfl); (case hg => rfl); (case hr => first | (go_simp; done) | (go_simp; rfl)); intro gb192 hg w18 hbox hb; have n0_ := Aside0.mk (Kd.V_below (Kd.V_elderB (by (with_reducible repeat (first | apply Kd.V_alloc | apply Kd.V_drewN | apply Kd.V_drew)); exact HO0.out) gb192 (Nat.le_of_eq hg.symm)) hb); have n1_ := Aside0.mk (below_step (by repeat (first | (with_reducible first | exact HB.out | apply below_alloc | apply pw_below_drewN | apply below_drew1) | exact HB.out)) hb); have n2_ := Aside0.mk (hbox); have n3_ := Aside0.mk ((by rw [hg]; exact (below_size (by repeat (first | (with_reducible first | exact HB.out | apply below_alloc | apply pw_below_drewN | apply below_drew1) | exact HB.out))) : w.heap.size ≤ gb192)); have n4_ := Aside0.mk ((by rw [hg]; exact (below_size (by repeat (first | (with_reducible first | exact HB.out | apply below_alloc | apply pw_below_drewN | apply below_drew1) | exact HB.out))) : w.heap.size ≤ gb192)); clear HO0; clear HB; have HO0 := n0_; have HB := n1_; have BK192 := n2_; have GW192 := n3_; have GE192 := n4_; clear n0_ n1_ n2_ n3_ n4_; clear hb hbox hg; have p193 : 0 ≤ (0 : Int) := (by omega); have q193 : 0 < (l0.length : Int) := of_decide_eq_true (by first | (with_reducible assumption) | assumption); obtain ⟨ad193, e193, hx193_0⟩ := Kd.at_int (Kd.V_reads' HO0.out).2.2 0 p193 q193; cases e193; have qi193 : (0 < l0.length) = True := eq_true (by omega); (try rw [show ((0 : Int)).toNat = 0 from rfl] at hx193_0); (try rw [Addr.add_zero'] at hx193_0); replace p193 := eq_true p193; replace q193 := eq_true q193) | ((with_reducible refine gate_callee (f := 22) rfl ?_); refine goesL_ (some 13) rfl rfl Try.func22 (by kernel_rfl) rfl #[.int .i64 (wrap64 (rd l0 0)), .int .i64 1, .int .i64 8] rfl (by (try simp only [List.map_toArray, List.map_cons, List.map_nil]); first | done | rfl | (simp only [List.length_drop, List.length_take]; rfl)) ?_; (with_reducible refine (script_within.calls (wrap64 (rd l0 0)) 1 8 true _ A3.out).mono ?_); rintro e w' ⟨rfl, ⟨nd, rfl⟩⟩; refine ⟨_, rfl, ?_⟩; (try (rw [drewN_self w18]; generalize hq_ : World.drewN w18 _ = w18; have n0_ : Aside0 (Kd.V (Kd.int .u8) 5 w18 w.heap.size (fun k_ => (P0_ k_ ∨ w.heap.size ≤ k_) ∧ k_ ≠ gb192) (.slice (some ad193) l0.length c0) l0) := ⟨by rw [← hq_]; exact (by (with_reducible repeat (first | apply Kd.V_alloc | apply Kd.V_drewN | apply Kd.V_drew)); exact HO0.out)⟩; have n1_ : Aside0 (w18.heap[gb192]? = some (.cells #[.int .i64 0, .int .i64 0, .int .i64 0, .int .u8 0, .int .i64 0, .int .u16 0, .int .u8 0, .int .u8 0, .int .u8 0, .int .u8 0, .slice none 0 0] 44 (0, 0))) := ⟨by rw [← hq_]; exact (by (with_reducible repeat (first | refine blk_drewN ?_ _ | refine blk_drew ?_ | refine blk_alloc ?_ _)); exact BK192.out)⟩; have n2_ : Aside0 (Below w.heap.size w w18) := ⟨by rw [← hq_]; exact (by repeat (first | (with_reducible first | exact HB.out | apply below_alloc | apply pw_below_drewN | apply below_drew1 | refine below_set ?_ GE192.out) | exact HB.out))⟩; clear HO0 BK192 HB hq_; have HO0 := n0_; have BK192 := n1_; have HB := n2_; clear n0_ n1_ n2_))))
                have n0_ := Aside0.mk (Kd.V_drew HO0.out)
                have n1_ := Aside0.mk (blk_drew BK192.out)
                have n2_ := Aside0.mk (below_drew1 HB.out)
                clear HO0
                clear BK192
                clear HB
                have HO0 := n0_
                have BK192 := n1_
                have HB := n2_
                clear n0_ n1_ n2_
                have q20 : (13 : Int) ≤ ((l0.length : Int) : Int) := of_decide_eq_true (by first | (with_reducible assumption) | assumption)
                obtain ⟨i020, hi020, _, hsz20, _⟩ := info_parts info5
                have hroom20 : l0.length ≤ c0 := (Kd.V_reads' HO0.out).2.1
                have hC20 : Kd.F (Kd.int .u8) _ _ (some ad193) l0.length l0 := (Kd.V_at (base := w.heap.size) HO0.out).2.2
                have hcut20 := cut_from (P := Try.prog) 23 5 .i64 Try.underlying23 hi020 1 hsz20 (some ad193) l0.length c0 13 (by omega) q20
                have hr20 := Kd.F_cut (m := (13 : Int).toNat) (c := c0) hC20 (by omega) hroom20
                obtain ⟨A20, hA20⟩ : ∃ A1, A1 = (if c0 = (13 : Int).toNat then (some ad193) else ((some ad193) : Option Addr).map (·.add ((13 : Int).toNat * 1))) := ⟨_, rfl⟩
                obtain ⟨c20, hc20⟩ : ∃ c1, c1 = c0 - (13 : Int).toNat := ⟨_, rfl⟩
                have hy20 : y195.length = l0.length - (13 : Int).toNat := (by rw [Ny195.out, List.length_drop] <;> omega)
                rw [show (l0).drop (13 : Int).toNat = y195 from Ny195.out.symm] at hr20
                replace hr20 : Kd.F (Kd.int .u8) _ _ A20 y195.length y195 := (by rw [hA20]; exact hr20)
                rw [← hy20, ← hA20, ← hc20] at hcut20
                have HO199 := Aside0.mk (show Kd.V (Kd.int .u8) 5 _ w.heap.size _ (.slice A20 y195.length c20) y195 from Kd.V_mk (by rw [hy20, hc20]; exact Nat.sub_le_sub_right hroom20 _) hr20)
                have HC199 := Aside0.mk (show y195.length ≤ c20 from by rw [hy20, hc20]; exact Nat.sub_le_sub_right hroom20 _)
                clear hr20 hC20 hroom20 hi020 hsz20 hc20
                have KY20 := Aside0.mk hy20
                have KA20 := Aside0.mk hA20
                clear hy20 hA20
                replace q20 := eq_true q20
                have q21 : (15 : Int) ≤ ((l0.length : Int) : Int) := of_decide_eq_true (by first | (with_reducible assumption) | assumption)
                obtain ⟨i021, hi021, _, hsz21, _⟩ := info_parts info5
                have hroom21 : l0.length ≤ c0 := (Kd.V_reads' HO0.out).2.1
                have hC21 : Kd.F (Kd.int .u8) _ _ (some ad193) l0.length l0 := (Kd.V_at (base := w.heap.size) HO0.out).2.2
                have hcut21 := cut_from (P := Try.prog) 23 5 .i64 Try.underlying23 hi021 1 hsz21 (some ad193) l0.length c0 15 (by omega) q21
                have hr21 := Kd.F_cut (m := (15 : Int).toNat) (c := c0) hC21 (by omega) hroom21
                obtain ⟨A21, hA21⟩ : ∃ A1, A1 = (if c0 = (15 : Int).toNat then (some ad193) else ((some ad193) : Option Addr).map (·.add ((15 : Int).toNat * 1))) := ⟨_, rfl⟩
                obtain ⟨c21, hc21⟩ : ∃ c1, c1 = c0 - (15 : Int).toNat := ⟨_, rfl⟩
                have hy21 : y201.length = l0.length - (15 : Int).toNat := (by rw [Ny201.out, List.length_drop] <;> omega)
                rw [show (l0).drop (15 : Int).toNat = y201 from Ny201.out.symm] at hr21
                replace hr21 : Kd.F (Kd.int .u8) _ _ A21 y201.length y201 := (by rw [hA21]; exact hr21)
                rw [← hy21, ← hA21, ← hc21] at hcut21
                have HO205 := Aside0.mk (show Kd.V (Kd.int .u8) 5 _ w.heap.size _ (.slice A21 y201.length c21) y201 from Kd.V_mk (by rw [hy21, hc21]; exact Nat.sub_le_sub_right hroom21 _) hr21)
                have HC205 := Aside0.mk (show y201.length ≤ c21 from by rw [hy21, hc21]; exact Nat.sub_le_sub_right hroom21 _)
                clear hr21 hC21 hroom21 hi021 hsz21 hc21
                have KY21 := Aside0.mk hy21
                have KA21 := Aside0.mk hA21
                clear hy21 hA21
                replace q21 := eq_true q21
                refine start_ (n := 7) (S := fun w' => True) (ds := []) #[false, false, false, false, false, false, false] (by kernel_rfl) rfl rfl trivial (fun hHeld => ?_)
                generalize w18.drew = w19 at HO0 BK192 HB HO199 HO205 hHeld ⊢
                refine pure_ (i := 0) (N := some 21) (v := ?_) (a' := ?_) #[true, false, false, false, false, false, false] rfl rfl (by kernel_rfl) (fun _ _ _ h => h) (Or.inl ⟨by rfl, ?_⟩) ?_ ?_
                rotate_left
                · intro w'
                  go_simp
                  with_reducible rfl
                rotate_left
                · simp only [Act.put, List.setIfInBounds_toArray, List.set_cons_zero, List.set_cons_succ, i64_w, i32_w]
                  rfl
                refine pure_ (i := 1) (N := some 22) (v := ?_) (a' := ?_) #[true, true, false, false, false, false, false] rfl rfl (by kernel_rfl) (fun _ _ _ h => h) (Or.inl ⟨by rfl, ?_⟩) ?_ ?_
                rotate_left
                · intro w'
                  go_simp
                  with_reducible rfl
                rotate_left
                · simp only [Act.put, List.setIfInBounds_toArray, List.set_cons_zero, List.set_cons_succ, i64_w, i32_w]
                  rfl
                refine pure_ (i := 3) (N := some 24) (v := ?_) (a' := ?_) #[true, true, false, true, false, false, false] rfl rfl (by kernel_rfl) (fun _ _ _ h => h) (Or.inl ⟨by rfl, ?_⟩) ?_ ?_
                rotate_left
                · intro w'
                  go_simp
                  with_reducible rfl
                rotate_left
                · simp only [Act.put, List.setIfInBounds_toArray, List.set_cons_zero, List.set_cons_succ, i64_w, i32_w]
                  rfl
                refine pure_ (i := 4) (N := some 25) (v := ?_) (a' := ?_) #[true, true, false, true, true, false, false] rfl rfl (by kernel_rfl) (fun _ _ _ h => h) (Or.inl ⟨by rfl, ?_⟩) ?_ ?_
                rotate_left
                · intro w'
                  go_simp
                  with_reducible rfl
                rotate_left
                · simp only [Act.put, List.setIfInBounds_toArray, List.set_cons_zero, List.set_cons_succ, i64_w, i32_w]
                  rfl
                refine one_ (i := 2) (N := some 23) #[true, true, true, true, true, false, false] rfl rfl (by kernel_rfl) (by decide) (fun K hK => ?_)
                refine goes_ Try.func29 (by kernel_rfl) rfl #[.slice A20 y195.length c20] (by rfl) rfl rfl (by (try simp only [List.map_toArray, List.map_cons, List.map_nil]); first | done | rfl | (simp only [List.length_drop, List.length_take]; rfl)) ?_
                with_reducible refine (script_number.calls _ _ y195 t200 _ ?side1 ?side2 A9.out).mono ?_
                (case side1 => repeat (first | exact (Kd.V_reads' HO199.out).2.2 | (with_reducible refine Kd.C_alloc ?_ _) | (with_reducible refine Kd.C_drewN ?_ _) | (with_reducible refine Kd.C_drew ?_)))
                (case side2 => exact (Kd.V_reads' HO199.out).2.1)
                rintro e w' ⟨rfl, ⟨nd, rfl⟩⟩
                refine ⟨_, rfl, ?_⟩
                refine hK.out _ _ trivial (fun hHeld => ?_)
                clear hK K
                refine norm_ (a' := ?_) ?_ ?_
                rotate_left
                · show Act.put _ (some 23) _ = _
                  simp only [Act.put, List.setIfInBounds_toArray, List.set_cons_zero, List.set_cons_succ, i64_w, i32_w]
                  rfl
                refine pure_ (i := 5) (N := some 5) (v := ?_) (a' := ?_) #[true, true, true, true, true, true, false] rfl rfl (by kernel_rfl) (fun _ _ _ h => h) (Or.inl ⟨by rfl, ?_⟩) ?_ ?_
                rotate_left
                · intro w'
                  go_simp
                  with_reducible rfl
                rotate_left
                · simp only [Act.put, List.setIfInBounds_toArray, List.set_cons_zero, List.set_cons_succ, i64_w, i32_w]
                  rfl
                refine pure_ (i := 6) (N := some 6) (v := ?_) (a' := ?_) #[true, true, true, true, true, true, true] rfl rfl (by kernel_rfl) (fun _ _ _ h => h) (Or.inl ⟨by rfl, ?_⟩) ?_ ?_
                rotate_left
                · intro w'
                  go_simp
                  with_reducible rfl
                rotate_left
                · simp only [Act.put, List.setIfInBounds_toArray, List.set_cons_zero, List.set_cons_succ, i64_w, i32_w]
                  rfl
                refine done_ (by kernel_rfl) ?_
                have hcz22_0 : w19.cell? ⟨gb192, 0, none⟩ = some (.int .i64 0) := (blk_cell BK192.out 0).trans rfl
                have hcz22_1 : w19.cell? ⟨gb192, 1, none⟩ = some (.int .i64 0) := (blk_cell BK192.out 1).trans rfl
                have hcz22_2 : w19.cell? ⟨gb192, 2, none⟩ = some (.int .i64 0) := (blk_cell BK192.out 2).trans rfl
                have hcz22_3 : w19.cell? ⟨gb192, 3, none⟩ = some (.int .u8 0) := (blk_cell BK192.out 3).trans rfl
                have hcz22_4 : w19.cell? ⟨gb192, 4, none⟩ = some (.int .i64 0) := (blk_cell BK192.out 4).trans rfl
                have hcz22_5 : w19.cell? ⟨gb192, 5, none⟩ = some (.int .u16 0) := (blk_cell BK192.out 5).trans rfl
                have hcz22_6 : w19.cell? ⟨gb192, 6, none⟩ = some (.int .u8 0) := (blk_cell BK192.out 6).trans rfl
                have hcz22_7 : w19.cell? ⟨gb192, 7, none⟩ = some (.int .u8 0) := (blk_cell BK192.out 7).trans rfl
                have hcz22_8 : w19.cell? ⟨gb192, 8, none⟩ = some (.int .u8 0) := (blk_cell BK192.out 8).trans rfl
                have hcz22_9 : w19.cell? ⟨gb192, 9, none⟩ = some (.int .u8 0) := (blk_cell BK192.out 9).trans rfl
                have hcz22_10 : w19.cell? ⟨gb192, 10, none⟩ = some (.slice none 0 0) := (blk_cell BK192.out 10).trans rfl
                have hfz22_0 := blk_frozen BK192.out 0
                have hfz22_1 := blk_frozen BK192.out 1
                have hfz22_2 := blk_frozen BK192.out 2
                have hfz22_3 := blk_frozen BK192.out 3
                have hfz22_4 := blk_frozen BK192.out 4
                have hfz22_5 := blk_frozen BK192.out 5
                have hfz22_6 := blk_frozen BK192.out 6
                have hfz22_7 := blk_frozen BK192.out 7
                have hfz22_8 := blk_frozen BK192.out 8
                have hfz22_9 := blk_frozen BK192.out 9
                have hfz22_10 := blk_frozen BK192.out 10
                try go_wp2
                refine bodyPost_ret (results_ctt rfl _ _ gb192 44 #[.int .i64 0, .int .i64 0, .int .i64 0, .int .u8 0, .int .i64 0, .int .u16 0, .int .u8 0, .int .u8 0, .int .u8 0, .int .u8 0, .slice none 0 0] (0, 0) _ rfl (by (with_reducible repeat (first | refine blk_drewN ?_ _ | refine blk_drew ?_ | refine blk_alloc ?_ _)); refine blk_put (cs := #[.int .i64 0, .int .i64 0, .int .i64 0, .int .u8 0, .int .i64 0, .int .u16 0, .int .u8 0, .int .u8 0, .int .u8 0, .int .u8 0, .slice none 0 0]) ?_ 10 _ rfl; (with_reducible repeat (first | refine blk_drewN ?_ _ | refine blk_drew ?_ | refine blk_alloc ?_ _)); refine blk_put (cs := #[.int .i64 0, .int .i64 0, .int .i64 0, .int .u8 0, .int .i64 0, .int .u16 0, .int .u8 0, .int .u8 0, .int .u8 0, .int .u8 0, .slice none 0 0]) ?_ 9 _ rfl; (with_reducible repeat (first | refine blk_drewN ?_ _ | refine blk_drew ?_ | refine blk_alloc ?_ _)); refine blk_put (cs := #[.int .i64 0, .int .i64 0, .int .i64 0, .int .u8 0, .int .i64 0, .int .u16 0, .int .u8 0, .int .u8 0, .int .u8 0, .int .u8 0, .slice none 0 0]) ?_ 8 _ rfl; (with_reducible repeat (first | refine blk_drewN ?_ _ | refine blk_drew ?_ | refine blk_alloc ?_ _)); refine blk_put (cs := #[.int .i64 0, .int .i64 0, .int .i64 0, .int .u8 0, .int .i64 0, .int .u16 0, .int .u8 0, .int .u8 0, .int .u8 0, .int .u8 0, .slice none 0 0]) ?_ 7 _ rfl; (with_reducible repeat (first | refine blk_drewN ?_ _ | refine blk_drew ?_ | refine blk_alloc ?_ _)); refine blk_put (cs := #[.int .i64 0, .int .i64 0, .int .i64 0, .int .u8 0, .int .i64 0, .int .u16 0, .int .u8 0, .int .u8 0, .int .u8 0, .int .u8 0, .slice none 0 0]) ?_ 6 _ rfl; (with_reducible repeat (first | refine blk_drewN ?_ _ | refine blk_drew ?_ | refine blk_alloc ?_ _)); refine blk_put (cs := #[.int .i64 0, .int .i64 0, .int .i64 0, .int .u8 0, .int .i64 0, .int .u16 0, .int .u8 0, .int .u8 0, .int .u8 0, .int .u8 0, .slice none 0 0]) ?_ 5 _ rfl; (with_reducible repeat (first | refine blk_drewN ?_ _ | refine blk_drew ?_ | refine blk_alloc ?_ _)); refine blk_put (cs := #[.int .i64 0, .int .i64 0, .int .i64 0, .int .u8 0, .int .i64 0, .int .u16 0, .int .u8 0, .int .u8 0, .int .u8 0, .int .u8 0, .slice none 0 0]) ?_ 4 _ rfl; (with_reducible repeat (first | refine blk_drewN ?_ _ | refine blk_drew ?_ | refine blk_alloc ?_ _)); refine blk_put (cs := #[.int .i64 0, .int .i64 0, .int .i64 0, .int .u8 0, .int .i64 0, .int .u16 0, .int .u8 0, .int .u8 0, .int .u8 0, .int .u8 0, .slice none 0 0]) ?_ 3 _ rfl; (with_reducible repeat (first | refine blk_drewN ?_ _ | refine blk_drew ?_ | refine blk_alloc ?_ _)); refine blk_put (cs := #[.int .i64 0, .int .i64 0, .int .i64 0, .int .u8 0, .int .i64 0, .int .u16 0, .int .u8 0, .int .u8 0, .int .u8 0, .int .u8 0, .slice none 0 0]) ?_ 2 _ rfl; (with_reducible repeat (first | refine blk_drewN ?_ _ | refine blk_drew ?_ | refine blk_alloc ?_ _)); refine blk_put (cs := #[.int .i64 0, .int .i64 0, .int .i64 0, .int .u8 0, .int .i64 0, .int .u16 0, .int .u8 0, .int .u8 0, .int .u8 0, .int .u8 0, .slice none 0 0]) ?_ 1 _ rfl; (with_reducible repeat (first | refine blk_drewN ?_ _ | refine blk_drew ?_ | refine blk_alloc ?_ _)); refine blk_put (cs := #[.int .i64 0, .int .i64 0, .int .i64 0, .int .u8 0, .int .i64 0, .int .u16 0, .int .u8 0, .int .u8 0, .int .u8 0, .int .u8 0, .slice none 0 0]) ?_ 0 _ rfl; (with_reducible repeat (first | refine blk_drewN ?_ _ | refine blk_drew ?_ | refine blk_alloc ?_ _)); exact BK192.out) Try.underlying44 rfl (by kernel_rfl)) rfl ?_
                exact ⟨_, _, by first | rfl | (simp [errW_none, errW_some] <;> rfl) | (simp [*, errW_none, errW_some] <;> rfl), by first | exact Kd.R_nil _ _ _ _ _ | exact Kd.N_nil _ _ _ _ _ | exact Kd.V_nil _ _ _ _ _ | exact Kd.Q_nil _ _ _ _ _ | exact Kd.S_nil _ _ _ _ _, by first | exact Kd.V_nil _ _ _ _ _ | exact Kd.V_mono (Kd.R_V (by first | exact Kd.R_nil _ _ _ _ _ | exact Kd.N_nil _ _ _ _ _ | exact Kd.V_nil _ _ _ _ _ | exact Kd.Q_nil _ _ _ _ _ | exact Kd.S_nil _ _ _ _ _)) (fun k_ hk => by first | exact ⟨(.inr (hk.1)), hk.2⟩ | exact (.inr (hk))), by repeat (first | (with_reducible first | exact HB.out | apply below_alloc | apply pw_below_drewN | apply below_drew1 | refine below_set ?_ GE192.out) | exact HB.out)⟩
              · rw [if_neg c17] at H
                have c17b0 : decide ((y201.length : Int) < t200) = false := decide_eq_false c17
                clear c17
                by_cases c23 : 1 ≤ (l0.length : Int)
                · rw [if_pos c23] at H
                  have c23b0 := eq_true c23
                  have c23b1 : decide (1 ≤ (l0.length : Int)) = true := decide_eq_true c23
                  clear c23
                  obtain ⟨y207, hy207⟩ : ∃ y_ : List Int, y_ = (l0.drop 1) := ⟨_, rfl⟩
                  replace H : ((script_signed.f y207).bind fun t212 => (if 3 ≤ (l0.length : Int) then ((script_signed.f (l0.drop 3)).bind fun t218 => (if 5 < (l0.length : Int) then (if 0 ≤ t200 then (if t200 ≤ (y201.length : Int) then ((bytes_Clone.f (y201.take (t200 : Int).toNat)).bind fun t225 => (if 6 < (l0.length : Int) then (if 7 ≤ (l0.length : Int) then ((script_number.f (l0.drop 7)).bind fun t235 => (if 9 ≤ 13 then (some (wrap64 (rd l0 0), t212, t218, rd l0 5, wrap64 (rd l0 6), IntKind.u16.wrap (t235), rd l0 9, rd l0 10, rd l0 11, rd l0 12, t225, (y201.drop (t200 : Int).toNat), 0)) else (none))) else (none)) else (none))) else (none)) else (none)) else (none))) else (none))) = some (r1, r2, r3, r4, r5, r6, r7, r8, r9, r10, r11, r12, r13) := by first | (rw [hy207]; with_reducible exact H) | (have H2_ := (Option.bind_some _ _).symm.trans H; rw [hy207]; with_reducible exact H2_) | (have H2_ := (Option.bind_some _ _).symm.trans H; with_reducible exact H2_) | with_reducible exact H | (rw [hy207]; exact H) | exact H
                  have Ny207 := Aside0.mk hy207
                  clear hy207
                  replace H := Option.bind_eq_some_iff.mp H
                  obtain ⟨t212, A240, H⟩ := H
                  replace H : (if 3 ≤ (l0.length : Int) then ((script_signed.f (l0.drop 3)).bind fun t218 => (if 5 < (l0.length : Int) then (if 0 ≤ t200 then (if t200 ≤ (y201.length : Int) then ((bytes_Clone.f (y201.take (t200 : Int).toNat)).bind fun t225 => (if 6 < (l0.length : Int) then (if 7 ≤ (l0.length : Int) then ((script_number.f (l0.drop 7)).bind fun t235 => (if 9 ≤ 13 then (some (wrap64 (rd l0 0), t212, t218, rd l0 5, wrap64 (rd l0 6), IntKind.u16.wrap (t235), rd l0 9, rd l0 10, rd l0 11, rd l0 12, t225, (y201.drop (t200 : Int).toNat), 0)) else (none))) else (none)) else (none))) else (none)) else (none)) else (none))) else (none)) = some (r1, r2, r3, r4, r5, r6, r7, r8, r9, r10, r11, r12, r13) := H
                  have A24 := Aside0.mk A240
                  clear A240
                  by_cases c25 : 3 ≤ (l0.length : Int)
                  · rw [if_pos c25] at H
                    have c25b0 := eq_true c25
                    have c25b1 : decide (3 ≤ (l0.length : Int)) = true := decide_eq_true c25
                    clear c25
                    obtain ⟨y213, hy213⟩ : ∃ y_ : List Int, y_ = (l0.drop 3) := ⟨_, rfl⟩
                    replace H : ((script_signed.f y213).bind fun t218 => (if 5 < (l0.length : Int) then (if 0 ≤ t200 then (if t200 ≤ (y201.length : Int) then ((bytes_Clone.f (y201.take (t200 : Int).toNat)).bind fun t225 => (if 6 < (l0.length : Int) then (if 7 ≤ (l0.length : Int) then ((script_number.f (l0.drop 7)).bind fun t235 => (if 9 ≤ 13 then (some (wrap64 (rd l0 0), t212, t218, rd l0 5, wrap64 (rd l0 6), IntKind.u16.wrap (t235), rd l0 9, rd l0 10, rd l0 11, rd l0 12, t225, (y201.drop (t200 : Int).toNat), 0)) else (none))) else (none)) else (none))) else (none)) else (none)) else (none))) = some (r1, r2, r3, r4, r5, r6, r7, r8, r9, r10, r11, r12, r13) := by first | (rw [hy213]; with_reducible exact H) | (have H2_ := (Option.bind_some _ _).symm.trans H; rw [hy213]; with_reducible exact H2_) | (have H2_ := (Option.bind_some _ _).symm.trans H; with_reducible exact H2_) | with_reducible exact H | (rw [hy213]; exact H) | exact H
                    have Ny213 := Aside0.mk hy213
                    clear hy213
                    replace H := Option.bind_eq_some_iff.mp H
                    obtain ⟨t218, A260, H⟩ := H
                    replace H : (if 5 < (l0.length : Int) then (if 0 ≤ t200 then (if t200 ≤ (y201.length : Int) then ((bytes_Clone.f (y201.take (t200 : Int).toNat)).bind fun t225 => (if 6 < (l0.length : Int) then (if 7 ≤ (l0.length : Int) then ((script_number.f (l0.drop 7)).bind fun t235 => (if 9 ≤ 13 then (some (wrap64 (rd l0 0), t212, t218, rd l0 5, wrap64 (rd l0 6), IntKind.u16.wrap (t235), rd l0 9, rd l0 10, rd l0 11, rd l0 12, t225, (y201.drop (t200 : Int).toNat), 0)) else (none))) else (none)) else (none))) else (none)) else (none)) else (none)) = some (r1, r2, r3, r4, r5, r6, r7, r8, r9, r10, r11, r12, r13) := H
                    have A26 := Aside0.mk A260
                    clear A260
                    by_cases c27 : 5 < (l0.length : Int)
                    · rw [if_pos c27] at H
                      have c27b0 : decide (5 < (l0.length : Int)) = true := decide_eq_true c27
                      have c27b1 : decide (5 < l0.length) = true := decide_eq_true (by omega)
                      clear c27
                      by_cases c28 : 0 ≤ t200
                      · rw [if_pos c28] at H
                        have c28b0 := eq_true c28
                        have c28b1 : decide (0 ≤ t200) = true := decide_eq_true c28
                        clear c28
                        by_cases c29 : t200 ≤ (y201.length : Int)
                        · rw [if_pos c29] at H
                          have c29b0 := eq_true c29
                          have c29b1 : decide (t200 ≤ (y201.length : Int)) = true := decide_eq_true c29
                          clear c29
                          obtain ⟨y220, hy220⟩ : ∃ y_ : List Int, y_ = (y201.take (t200 : Int).toNat) := ⟨_, rfl⟩
                          replace H : ((bytes_Clone.f y220).bind fun t225 => (if 6 < (l0.length : Int) then (if 7 ≤ (l0.length : Int) then ((script_number.f (l0.drop 7)).bind fun t235 => (if 9 ≤ 13 then (some (wrap64 (rd l0 0), t212, t218, rd l0 5, wrap64 (rd l0 6), IntKind.u16.wrap (t235), rd l0 9, rd l0 10, rd l0 11, rd l0 12, t225, (y201.drop (t200 : Int).toNat), 0)) else (none))) else (none)) else (none))) = some (r1, r2, r3, r4, r5, r6, r7, r8, r9, r10, r11, r12, r13) := by first | (rw [hy220]; with_reducible exact H) | (have H2_ := (Option.bind_some _ _).symm.trans H; rw [hy220]; with_reducible exact H2_) | (have H2_ := (Option.bind_some _ _).symm.trans H; with_reducible exact H2_) | with_reducible exact H | (rw [hy220]; exact H) | exact H
                          have Ny220 := Aside0.mk hy220
                          clear hy220
                          replace H := Option.bind_eq_some_iff.mp H
                          obtain ⟨t225, A300, H⟩ := H
                          replace H : (if 6 < (l0.length : Int) then (if 7 ≤ (l0.length : Int) then ((script_number.f (l0.drop 7)).bind fun t235 => (if 9 ≤ 13 then (some (wrap64 (rd l0 0), t212, t218, rd l0 5, wrap64 (rd l0 6), IntKind.u16.wrap (t235), rd l0 9, rd l0 10, rd l0 11, rd l0 12, t225, (y201.drop (t200 : Int).toNat), 0)) else (none))) else (none)) else (none)) = some (r1, r2, r3, r4, r5, r6, r7, r8, r9, r10, r11, r12, r13) := H
                          have A30 := Aside0.mk A300
                          clear A300
                          by_cases c31 : 6 < (l0.length : Int)
                          · rw [if_pos c31] at H
                            have c31b0 : decide (6 < (l0.length : Int)) = true := decide_eq_true c31
                            have c31b1 : decide (6 < l0.length) = true := decide_eq_true (by omega)
                            clear c31
                            by_cases c32 : 7 ≤ (l0.length : Int)
                            · rw [if_pos c32] at H
                              have c32b0 := eq_true c32
                              have c32b1 : decide (7 ≤ (l0.length : Int)) = true := decide_eq_true c32
                              clear c32
                              obtain ⟨y230, hy230⟩ : ∃ y_ : List Int, y_ = (l0.drop 7) := ⟨_, rfl⟩
                              replace H : ((script_number.f y230).bind fun t235 => (if 9 ≤ 13 then (some (wrap64 (rd l0 0), t212, t218, rd l0 5, wrap64 (rd l0 6), IntKind.u16.wrap (t235), rd l0 9, rd l0 10, rd l0 11, rd l0 12, t225, (y201.drop (t200 : Int).toNat), 0)) else (none))) = some (r1, r2, r3, r4, r5, r6, r7, r8, r9, r10, r11, r12, r13) := by first | (rw [hy230]; with_reducible exact H) | (have H2_ := (Option.bind_some _ _).symm.trans H; rw [hy230]; with_reducible exact H2_) | (have H2_ := (Option.bind_some _ _).symm.trans H; with_reducible exact H2_) | with_reducible exact H | (rw [hy230]; exact H) | exact H
                              have Ny230 := Aside0.mk hy230
                              clear hy230
                              replace H := Option.bind_eq_some_iff.mp H
                              obtain ⟨t235, A330, H⟩ := H
                              replace H : (if 9 ≤ 13 then (some (wrap64 (rd l0 0), t212, t218, rd l0 5, wrap64 (rd l0 6), IntKind.u16.wrap (t235), rd l0 9, rd l0 10, rd l0 11, rd l0 12, t225, (y201.drop (t200 : Int).toNat), 0)) else (none)) = some (r1, r2, r3, r4, r5, r6, r7, r8, r9, r10, r11, r12, r13) := H
                              have A33 := Aside0.mk A330
                              clear A330
                              by_cases c34 : 9 ≤ 13
                              · rw [if_pos c34] at H
                                have c34b0 := eq_true c34
                                have c34b1 : decide (9 ≤ 13) = true := decide_eq_true c34
                                clear c34
                                have c35b0 := eq_true (of_decide_eq_true (by first | (with_reducible assumption) | assumption) : 13 ≤ (l0.length : Int))
                                obtain ⟨y236, hy236⟩ : ∃ y_ : List Int, y_ = ((l0.take 13).drop 9) := ⟨_, rfl⟩
                                replace H : (some (wrap64 (rd l0 0), t212, t218, rd l0 5, wrap64 (rd l0 6), IntKind.u16.wrap (t235), rd l0 9, rd l0 10, rd l0 11, rd l0 12, t225, (y201.drop (t200 : Int).toNat), 0)) = some (r1, r2, r3, r4, r5, r6, r7, r8, r9, r10, r11, r12, r13) := by first | (rw [hy236]; with_reducible exact H) | (have H2_ := (Option.bind_some _ _).symm.trans H; rw [hy236]; with_reducible exact H2_) | (have H2_ := (Option.bind_some _ _).symm.trans H; with_reducible exact H2_) | with_reducible exact H | (rw [hy236]; exact H) | exact H
                                have Ny236 := Aside0.mk hy236
                                clear hy236
                                have c36b0 := eq_true (of_decide_eq_true (by first | (with_reducible assumption) | assumption) : 0 ≤ t200)
                                have c37b0 := eq_true (of_decide_eq_true (by first | (with_reducible assumption) | assumption) : t200 ≤ (y201.length : Int))
                                obtain ⟨y241, hy241⟩ : ∃ y_ : List Int, y_ = (y201.drop (t200 : Int).toNat) := ⟨_, rfl⟩
                                replace H : (some (wrap64 (rd l0 0), t212, t218, rd l0 5, wrap64 (rd l0 6), IntKind.u16.wrap (t235), rd l0 9, rd l0 10, rd l0 11, rd l0 12, t225, y241, 0)) = some (r1, r2, r3, r4, r5, r6, r7, r8, r9, r10, r11, r12, r13) := by first | (rw [hy241]; with_reducible exact H) | (have H2_ := (Option.bind_some _ _).symm.trans H; rw [hy241]; with_reducible exact H2_) | (have H2_ := (Option.bind_some _ _).symm.trans H; with_reducible exact H2_) | with_reducible exact H | (rw [hy241]; exact H) | exact H
                                have Ny241 := Aside0.mk hy241
                                clear hy241
                                simp only [Option.some.injEq, Prod.mk.injEq] at H
                                obtain ⟨rfl, rfl, rfl, rfl, rfl, rfl, rfl, rfl, rfl, rfl, rfl, rfl, rfl⟩ := H
                                go_enter Try.func19, Try.ntmps19
                                try go_wp2_with (first | ((with_reducible refine gate_dst (N := 2) rfl ?_); refine box_event ?hg (N := 2) ?hd (cs := #[.int .i64 0, .int .i64 0, .int .i64 0, .int .u8 0, .int .i64 0, .int .u16 0, .int .u8 0, .int .u8 0, .int .u8 0, .int .u8 0, .slice none 0 0]) (t := 44) ?hr ?_; (case hd => rfl); (case hg => rfl); (case hr => first | (go_simp; done) | (go_simp; rfl)); intro gb192 hg w38 hbox hb; have n0_ := Aside0.mk (Kd.V_below (Kd.V_elderB (by (with_reducible repeat (first | apply Kd.V_alloc | apply Kd.V_drewN | apply Kd.V_drew)); exact HO0.out) gb192 (Nat.le_of_eq hg.symm)) hb); have n1_ := Aside0.mk (below_step (by repeat (first | (with_reducible first | exact HB.out | apply below_alloc | apply pw_below_drewN | apply below_drew1) | exact HB.out)) hb); have n2_ := Aside0.mk (hbox); have n3_ := Aside0.mk ((by rw [hg]; exact (below_size (by repeat (first | (with_reducible first | exact HB.out | apply below_alloc | apply pw_below_drewN | apply below_drew1) | exact HB.out))) : w.heap.size ≤ gb192)); have n4_ := Aside0.mk ((by rw [hg]; exact (below_size (by repeat (first | (with_reducible first | exact HB.out | apply below_alloc | apply pw_below_drewN | apply below_drew1) | exact HB.out))) : w.heap.size ≤ gb192)); clear HO0; clear HB; have HO0 := n0_; have HB := n1_; have BK192 := n2_; have GW192 := n3_; have GE192 := n4_; clear n0_ n1_ n2_ n3_ n4_; clear hb hbox hg; have p193 : 0 ≤ (0 : Int) := (by omega); have q193 : 0 < (l0.length : Int) := of_decide_eq_true (by first | (with_reducible assumption) | assumption); obtain ⟨ad193, e193, hx193_0⟩ := Kd.at_int (Kd.V_reads' HO0.out).2.2 0 p193 q193; cases e193; have qi193 : (0 < l0.length) = True := eq_true (by omega); (try rw [show ((0 : Int)).toNat = 0 from rfl] at hx193_0); (try rw [Addr.add_zero'] at hx193_0); replace p193 := eq_true p193; replace q193 := eq_true q193) | ((with_reducible refine gate_callee (f := 22) rfl ?_); refine goesL_ (some 13) rfl rfl Try.func22 (by kernel_rfl) rfl #[.int .i64 (wrap64 (rd l0 0)), .int .i64 1, .int .i64 8] rfl (by (try simp only [List.map_toArray, List.map_cons, List.map_nil]); first | done | rfl | (simp only [List.length_drop, List.length_take]; rfl)) ?_; (with_reducible refine (script_within.calls (wrap64 (rd l0 0)) 1 8 true _ A3.out).mono ?_); rintro e w' ⟨rfl, ⟨nd, rfl⟩⟩; refine ⟨_, rfl, ?_⟩; (try (rw [drewN_self w38]; generalize hq_ : World.drewN w38 _ = w38; have n0_ : Aside0 (Kd.V (Kd.int .u8) 5 w38 w.heap.size (fun k_ => (P0_ k_ ∨ w.heap.size ≤ k_) ∧ k_ ≠ gb192) (.slice (some ad193) l0.length c0) l0) := ⟨by rw [← hq_]; exact (by (with_reducible repeat (first | apply Kd.V_alloc | apply Kd.V_drewN | apply Kd.V_drew)); exact HO0.out)⟩; have n1_ : Aside0 (w38.heap[gb192]? = some (.cells #[.int .i64 0, .int .i64 0, .int .i64 0, .int .u8 0, .int .i64 0, .int .u16 0, .int .u8 0, .int .u8 0, .int .u8 0, .int .u8 0, .slice none 0 0] 44 (0, 0))) := ⟨by rw [← hq_]; exact (by (with_reducible repeat (first | refine blk_drewN ?_ _ | refine blk_drew ?_ | refine blk_alloc ?_ _)); exact BK192.out)⟩; have n2_ : Aside0 (Below w.heap.size w w38) := ⟨by rw [← hq_]; exact (by repeat (first | (with_reducible first | exact HB.out | apply below_alloc | apply pw_below_drewN | apply below_drew1 | refine below_set ?_ GE192.out) | exact HB.out))⟩; clear HO0 BK192 HB hq_; have HO0 := n0_; have BK192 := n1_; have HB := n2_; clear n0_ n1_ n2_))))
                                have n0_ := Aside0.mk (Kd.V_drew HO0.out)
                                have n1_ := Aside0.mk (blk_drew BK192.out)
                                have n2_ := Aside0.mk (below_drew1 HB.out)
                                clear HO0
                                clear BK192
                                clear HB
                                have HO0 := n0_
                                have BK192 := n1_
                                have HB := n2_
                                clear n0_ n1_ n2_
                                have q40 : (13 : Int) ≤ ((l0.length : Int) : Int) := of_decide_eq_true (by first | (with_reducible assumption) | assumption)
                                obtain ⟨i040, hi040, _, hsz40, _⟩ := info_parts info5
                                have hroom40 : l0.length ≤ c0 := (Kd.V_reads' HO0.out).2.1
                                have hC40 : Kd.F (Kd.int .u8) _ _ (some ad193) l0.length l0 := (Kd.V_at (base := w.heap.size) HO0.out).2.2
                                have hcut40 := cut_from (P := Try.prog) 23 5 .i64 Try.underlying23 hi040 1 hsz40 (some ad193) l0.length c0 13 (by omega) q40
                                have hr40 := Kd.F_cut (m := (13 : Int).toNat) (c := c0) hC40 (by omega) hroom40
                                obtain ⟨A40, hA40⟩ : ∃ A1, A1 = (if c0 = (13 : Int).toNat then (some ad193) else ((some ad193) : Option Addr).map (·.add ((13 : Int).toNat * 1))) := ⟨_, rfl⟩
                                obtain ⟨c40, hc40⟩ : ∃ c1, c1 = c0 - (13 : Int).toNat := ⟨_, rfl⟩
                                have hy40 : y195.length = l0.length - (13 : Int).toNat := (by rw [Ny195.out, List.length_drop] <;> omega)
                                rw [show (l0).drop (13 : Int).toNat = y195 from Ny195.out.symm] at hr40
                                replace hr40 : Kd.F (Kd.int .u8) _ _ A40 y195.length y195 := (by rw [hA40]; exact hr40)
                                rw [← hy40, ← hA40, ← hc40] at hcut40
                                have HO199 := Aside0.mk (show Kd.V (Kd.int .u8) 5 _ w.heap.size _ (.slice A40 y195.length c40) y195 from Kd.V_mk (by rw [hy40, hc40]; exact Nat.sub_le_sub_right hroom40 _) hr40)
                                have HC199 := Aside0.mk (show y195.length ≤ c40 from by rw [hy40, hc40]; exact Nat.sub_le_sub_right hroom40 _)
                                clear hr40 hC40 hroom40 hi040 hsz40 hc40
                                have KY40 := Aside0.mk hy40
                                have KA40 := Aside0.mk hA40
                                clear hy40 hA40
                                replace q40 := eq_true q40
                                have q41 : (15 : Int) ≤ ((l0.length : Int) : Int) := of_decide_eq_true (by first | (with_reducible assumption) | assumption)
                                obtain ⟨i041, hi041, _, hsz41, _⟩ := info_parts info5
                                have hroom41 : l0.length ≤ c0 := (Kd.V_reads' HO0.out).2.1
                                have hC41 : Kd.F (Kd.int .u8) _ _ (some ad193) l0.length l0 := (Kd.V_at (base := w.heap.size) HO0.out).2.2
                                have hcut41 := cut_from (P := Try.prog) 23 5 .i64 Try.underlying23 hi041 1 hsz41 (some ad193) l0.length c0 15 (by omega) q41
                                have hr41 := Kd.F_cut (m := (15 : Int).toNat) (c := c0) hC41 (by omega) hroom41
                                obtain ⟨A41, hA41⟩ : ∃ A1, A1 = (if c0 = (15 : Int).toNat then (some ad193) else ((some ad193) : Option Addr).map (·.add ((15 : Int).toNat * 1))) := ⟨_, rfl⟩
                                obtain ⟨c41, hc41⟩ : ∃ c1, c1 = c0 - (15 : Int).toNat := ⟨_, rfl⟩
                                have hy41 : y201.length = l0.length - (15 : Int).toNat := (by rw [Ny201.out, List.length_drop] <;> omega)
                                rw [show (l0).drop (15 : Int).toNat = y201 from Ny201.out.symm] at hr41
                                replace hr41 : Kd.F (Kd.int .u8) _ _ A41 y201.length y201 := (by rw [hA41]; exact hr41)
                                rw [← hy41, ← hA41, ← hc41] at hcut41
                                have HO205 := Aside0.mk (show Kd.V (Kd.int .u8) 5 _ w.heap.size _ (.slice A41 y201.length c41) y201 from Kd.V_mk (by rw [hy41, hc41]; exact Nat.sub_le_sub_right hroom41 _) hr41)
                                have HC205 := Aside0.mk (show y201.length ≤ c41 from by rw [hy41, hc41]; exact Nat.sub_le_sub_right hroom41 _)
                                clear hr41 hC41 hroom41 hi041 hsz41 hc41
                                have KY41 := Aside0.mk hy41
                                have KA41 := Aside0.mk hA41
                                clear hy41 hA41
                                replace q41 := eq_true q41
                                refine start_ (n := 7) (S := fun w' => True) (ds := []) #[false, false, false, false, false, false, false] (by kernel_rfl) rfl rfl trivial (fun hHeld => ?_)
                                generalize w38.drew = w39 at HO0 BK192 HB HO199 HO205 hHeld ⊢
                                refine pure_ (i := 0) (N := some 21) (v := ?_) (a' := ?_) #[true, false, false, false, false, false, false] rfl rfl (by kernel_rfl) (fun _ _ _ h => h) (Or.inl ⟨by rfl, ?_⟩) ?_ ?_
                                rotate_left
                                · intro w'
                                  go_simp
                                  with_reducible rfl
                                rotate_left
                                · simp only [Act.put, List.setIfInBounds_toArray, List.set_cons_zero, List.set_cons_succ, i64_w, i32_w]
                                  rfl
                                refine pure_ (i := 1) (N := some 22) (v := ?_) (a' := ?_) #[true, true, false, false, false, false, false] rfl rfl (by kernel_rfl) (fun _ _ _ h => h) (Or.inl ⟨by rfl, ?_⟩) ?_ ?_
                                rotate_left
                                · intro w'
                                  go_simp
                                  with_reducible rfl
                                rotate_left
                                · simp only [Act.put, List.setIfInBounds_toArray, List.set_cons_zero, List.set_cons_succ, i64_w, i32_w]
                                  rfl
                                refine pure_ (i := 3) (N := some 24) (v := ?_) (a' := ?_) #[true, true, false, true, false, false, false] rfl rfl (by kernel_rfl) (fun _ _ _ h => h) (Or.inl ⟨by rfl, ?_⟩) ?_ ?_
                                rotate_left
                                · intro w'
                                  go_simp
                                  with_reducible rfl
                                rotate_left
                                · simp only [Act.put, List.setIfInBounds_toArray, List.set_cons_zero, List.set_cons_succ, i64_w, i32_w]
                                  rfl
                                refine pure_ (i := 4) (N := some 25) (v := ?_) (a' := ?_) #[true, true, false, true, true, false, false] rfl rfl (by kernel_rfl) (fun _ _ _ h => h) (Or.inl ⟨by rfl, ?_⟩) ?_ ?_
                                rotate_left
                                · intro w'
                                  go_simp
                                  with_reducible rfl
                                rotate_left
                                · simp only [Act.put, List.setIfInBounds_toArray, List.set_cons_zero, List.set_cons_succ, i64_w, i32_w]
                                  rfl
                                refine one_ (i := 2) (N := some 23) #[true, true, true, true, true, false, false] rfl rfl (by kernel_rfl) (by decide) (fun K hK => ?_)
                                refine goes_ Try.func29 (by kernel_rfl) rfl #[.slice A40 y195.length c40] (by rfl) rfl rfl (by (try simp only [List.map_toArray, List.map_cons, List.map_nil]); first | done | rfl | (simp only [List.length_drop, List.length_take]; rfl)) ?_
                                with_reducible refine (script_number.calls _ _ y195 t200 _ ?side1 ?side2 A9.out).mono ?_
                                (case side1 => repeat (first | exact (Kd.V_reads' HO199.out).2.2 | (with_reducible refine Kd.C_alloc ?_ _) | (with_reducible refine Kd.C_drewN ?_ _) | (with_reducible refine Kd.C_drew ?_)))
                                (case side2 => exact (Kd.V_reads' HO199.out).2.1)
                                rintro e w' ⟨rfl, ⟨nd, rfl⟩⟩
                                refine ⟨_, rfl, ?_⟩
                                refine hK.out _ _ trivial (fun hHeld => ?_)
                                clear hK K
                                refine norm_ (a' := ?_) ?_ ?_
                                rotate_left
                                · show Act.put _ (some 23) _ = _
                                  simp only [Act.put, List.setIfInBounds_toArray, List.set_cons_zero, List.set_cons_succ, i64_w, i32_w]
                                  rfl
                                refine pure_ (i := 5) (N := some 5) (v := ?_) (a' := ?_) #[true, true, true, true, true, true, false] rfl rfl (by kernel_rfl) (fun _ _ _ h => h) (Or.inl ⟨by rfl, ?_⟩) ?_ ?_
                                rotate_left
                                · intro w'
                                  go_simp
                                  with_reducible rfl
                                rotate_left
                                · simp only [Act.put, List.setIfInBounds_toArray, List.set_cons_zero, List.set_cons_succ, i64_w, i32_w]
                                  rfl
                                refine pure_ (i := 6) (N := some 6) (v := ?_) (a' := ?_) #[true, true, true, true, true, true, true] rfl rfl (by kernel_rfl) (fun _ _ _ h => h) (Or.inl ⟨by rfl, ?_⟩) ?_ ?_
                                rotate_left
                                · intro w'
                                  go_simp
                                  with_reducible rfl
                                rotate_left
                                · simp only [Act.put, List.setIfInBounds_toArray, List.set_cons_zero, List.set_cons_succ, i64_w, i32_w]
                                  rfl
                                refine done_ (by kernel_rfl) ?_
                                try go_wp2
                                (try (rw [drewN_self w39]; generalize hq_ : World.drewN w39 _ = w39; have n0_ : Aside0 (Kd.V (Kd.int .u8) 5 w39 w.heap.size (fun k_ => (P0_ k_ ∨ w.heap.size ≤ k_) ∧ k_ ≠ gb192) (.slice (some ad193) l0.length c0) l0) := ⟨by rw [← hq_]; exact (by (with_reducible repeat (first | apply Kd.V_alloc | apply Kd.V_drewN | apply Kd.V_drew)); exact HO0.out)⟩; have n1_ : Aside0 (Kd.V (Kd.int .u8) 5 w39 w.heap.size (fun k_ => (P0_ k_ ∨ w.heap.size ≤ k_) ∧ k_ ≠ gb192) (.slice A40 y195.length c40) y195) := ⟨by rw [← hq_]; exact (by (with_reducible repeat (first | apply Kd.V_alloc | apply Kd.V_drewN | apply Kd.V_drew)); exact HO199.out)⟩; have n2_ : Aside0 (Kd.V (Kd.int .u8) 5 w39 w.heap.size (fun k_ => (P0_ k_ ∨ w.heap.size ≤ k_) ∧ k_ ≠ gb192) (.slice A41 y201.length c41) y201) := ⟨by rw [← hq_]; exact (by (with_reducible repeat (first | apply Kd.V_alloc | apply Kd.V_drewN | apply Kd.V_drew)); exact HO205.out)⟩; have n3_ : Aside0 (w39.heap[gb192]? = some (.cells #[.int .i64 0, .int .i64 0, .int .i64 0, .int .u8 0, .int .i64 0, .int .u16 0, .int .u8 0, .int .u8 0, .int .u8 0, .int .u8 0, .slice none 0 0] 44 (0, 0))) := ⟨by rw [← hq_]; exact (by (with_reducible repeat (first | refine blk_drewN ?_ _ | refine blk_drew ?_ | refine blk_alloc ?_ _)); exact BK192.out)⟩; have n4_ : Aside0 (Below w.heap.size w w39) := ⟨by rw [← hq_]; exact (by repeat (first | (with_reducible first | exact HB.out | apply below_alloc | apply pw_below_drewN | apply below_drew1 | refine below_set ?_ GE192.out) | exact HB.out))⟩; clear HO0 HO199 HO205 BK192 HB hq_; have HO0 := n0_; have HO199 := n1_; have HO205 := n2_; have BK192 := n3_; have HB := n4_; clear n0_ n1_ n2_ n3_ n4_))
                                have n0_ := Aside0.mk (Kd.V_drew HO0.out)
                                have n1_ := Aside0.mk (Kd.V_drew HO199.out)
                                have n2_ := Aside0.mk (Kd.V_drew HO205.out)
                                have n3_ := Aside0.mk (blk_drew BK192.out)
                                have n4_ := Aside0.mk (below_drew1 HB.out)
                                clear HO0
                                clear HO199
                                clear HO205
                                clear BK192
                                clear HB
                                have HO0 := n0_
                                have HO199 := n1_
                                have HO205 := n2_
                                have BK192 := n3_
                                have HB := n4_
                                clear n0_ n1_ n2_ n3_ n4_
                                have p206 : 0 ≤ (0 : Int) := (by omega)
                                have q206 : 0 < (l0.length : Int) := of_decide_eq_true (by first | (with_reducible assumption) | assumption)
                                obtain ⟨ad206, e206, hx206_0⟩ := Kd.at_int (Kd.V_reads' HO0.out).2.2 0 p206 q206
                                obtain rfl : ad193 = ad206 := (by injection e206)
                                have qi206 : (0 < l0.length) = True := eq_true (by omega)
                                (try rw [show ((0 : Int)).toNat = 0 from rfl] at hx206_0)
                                (try rw [Addr.add_zero'] at hx206_0)
                                replace p206 := eq_true p206
                                replace q206 := eq_true q206
                                have q43 : (1 : Int) ≤ ((l0.length : Int) : Int) := of_decide_eq_true (by first | (with_reducible assumption) | assumption)
                                obtain ⟨i043, hi043, _, hsz43, _⟩ := info_parts info5
                                have hroom43 : l0.length ≤ c0 := (Kd.V_reads' HO0.out).2.1
                                have hC43 : Kd.F (Kd.int .u8) _ _ (some ad193) l0.length l0 := (Kd.V_at (base := w.heap.size) HO0.out).2.2
                                have hcut43 := cut_from (P := Try.prog) 23 5 .i64 Try.underlying23 hi043 1 hsz43 (some ad193) l0.length c0 1 (by omega) q43
                                have hr43 := Kd.F_cut (m := (1 : Int).toNat) (c := c0) hC43 (by omega) hroom43
                                obtain ⟨A43, hA43⟩ : ∃ A1, A1 = (if c0 = (1 : Int).toNat then (some ad193) else ((some ad193) : Option Addr).map (·.add ((1 : Int).toNat * 1))) := ⟨_, rfl⟩
                                obtain ⟨c43, hc43⟩ : ∃ c1, c1 = c0 - (1 : Int).toNat := ⟨_, rfl⟩
                                have hy43 : y207.length = l0.length - (1 : Int).toNat := (by rw [Ny207.out, List.length_drop] <;> omega)
                                rw [show (l0).drop (1 : Int).toNat = y207 from Ny207.out.symm] at hr43
                                replace hr43 : Kd.F (Kd.int .u8) _ _ A43 y207.length y207 := (by rw [hA43]; exact hr43)
                                rw [← hy43, ← hA43, ← hc43] at hcut43
                                have HO211 := Aside0.mk (show Kd.V (Kd.int .u8) 5 _ w.heap.size _ (.slice A43 y207.length c43) y207 from Kd.V_mk (by rw [hy43, hc43]; exact Nat.sub_le_sub_right hroom43 _) hr43)
                                have HC211 := Aside0.mk (show y207.length ≤ c43 from by rw [hy43, hc43]; exact Nat.sub_le_sub_right hroom43 _)
                                clear hr43 hC43 hroom43 hi043 hsz43 hc43
                                have KY43 := Aside0.mk hy43
                                have KA43 := Aside0.mk hA43
                                clear hy43 hA43
                                replace q43 := eq_true q43
                                have q44 : (3 : Int) ≤ ((l0.length : Int) : Int) := of_decide_eq_true (by first | (with_reducible assumption) | assumption)
                                obtain ⟨i044, hi044, _, hsz44, _⟩ := info_parts info5
                                have hroom44 : l0.length ≤ c0 := (Kd.V_reads' HO0.out).2.1
                                have hC44 : Kd.F (Kd.int .u8) _ _ (some ad193) l0.length l0 := (Kd.V_at (base := w.heap.size) HO0.out).2.2
                                have hcut44 := cut_from (P := Try.prog) 23 5 .i64 Try.underlying23 hi044 1 hsz44 (some ad193) l0.length c0 3 (by omega) q44
                                have hr44 := Kd.F_cut (m := (3 : Int).toNat) (c := c0) hC44 (by omega) hroom44
                                obtain ⟨A44, hA44⟩ : ∃ A1, A1 = (if c0 = (3 : Int).toNat then (some ad193) else ((some ad193) : Option Addr).map (·.add ((3 : Int).toNat * 1))) := ⟨_, rfl⟩
                                obtain ⟨c44, hc44⟩ : ∃ c1, c1 = c0 - (3 : Int).toNat := ⟨_, rfl⟩
                                have hy44 : y213.length = l0.length - (3 : Int).toNat := (by rw [Ny213.out, List.length_drop] <;> omega)
                                rw [show (l0).drop (3 : Int).toNat = y213 from Ny213.out.symm] at hr44
                                replace hr44 : Kd.F (Kd.int .u8) _ _ A44 y213.length y213 := (by rw [hA44]; exact hr44)
                                rw [← hy44, ← hA44, ← hc44] at hcut44
                                have HO217 := Aside0.mk (show Kd.V (Kd.int .u8) 5 _ w.heap.size _ (.slice A44 y213.length c44) y213 from Kd.V_mk (by rw [hy44, hc44]; exact Nat.sub_le_sub_right hroom44 _) hr44)
                                have HC217 := Aside0.mk (show y213.length ≤ c44 from by rw [hy44, hc44]; exact Nat.sub_le_sub_right hroom44 _)
                                clear hr44 hC44 hroom44 hi044 hsz44 hc44
                                have KY44 := Aside0.mk hy44
                                have KA44 := Aside0.mk hA44
                                clear hy44 hA44
                                replace q44 := eq_true q44
                                have p219 : 0 ≤ (5 : Int) := (by omega)
                                have q219 : 5 < (l0.length : Int) := of_decide_eq_true (by first | (with_reducible assumption) | assumption)
                                obtain ⟨ad219, e219, hx219_0⟩ := Kd.at_int (Kd.V_reads' HO0.out).2.2 5 p219 q219
                                obtain rfl : ad193 = ad219 := (by injection e219)
                                (try simp only [show (5 : Int).toNat = 5 from rfl, Nat.reduceMul, Nat.reduceEqDiff, Go.Addr.add, ↓reduceIte] at hx219_0)
                                have qi219 : (5 < l0.length) = True := eq_true (by omega)
                                (try rw [show ((5 : Int)).toNat = 5 from rfl] at hx219_0)
                                replace p219 := eq_true p219
                                replace q219 := eq_true q219
                                have q45 : (t200 : Int) ≤ ((y201.length : Int) : Int) := of_decide_eq_true (by first | (with_reducible assumption) | assumption)
                                obtain ⟨i045, hi045, _, hsz45, _⟩ := info_parts info5
                                have hroom45 : y201.length ≤ c41 := (Kd.V_reads' HO205.out).2.1
                                have hC45 : Kd.F (Kd.int .u8) _ _ A41 y201.length y201 := (Kd.V_at (base := w.heap.size) HO205.out).2.2
                                have hcut45 := cut_to (P := Try.prog) 23 5 .i64 Try.underlying23 hi045 A41 y201.length c41 t200 (of_decide_eq_true (by first | (with_reducible assumption) | assumption)) q45 hroom45
                                have hr45 := Kd.F_take (m := (t200 : Int).toNat) hC45 (by omega)
                                have hy45 : y220.length = (t200 : Int).toNat := (by rw [Ny220.out, List.length_take]; omega)
                                rw [← Ny220.out] at hr45
                                rw [← hy45] at hcut45
                                have HO224 := Aside0.mk (show Kd.V (Kd.int .u8) 5 _ w.heap.size _ (.slice A41 y220.length c41) y220 from Kd.V_mk (by omega) hr45)
                                have HC224 := Aside0.mk (show y220.length ≤ c41 from by omega)
                                clear hr45 hC45 hroom45 hi045 hsz45
                                have KY45 := Aside0.mk hy45
                                clear hy45
                                replace q45 := eq_true q45
                                refine start_ (n := 20) (S := fun w' => w'.cell? ad193 = some (.int .u8 (rd l0 0)) ∧ w'.cell? ⟨ad193.block, ad193.off + 5, none⟩ = some (.int .u8 (rd l0 5))) (ds := []) #[false, false, false, false, false, false, false, false, false, false, false, false, false, false, false, false, false, false, false, false] (by kernel_rfl) rfl rfl ⟨hx206_0, hx219_0⟩ (fun hHeld => ?_); refine with_tabW script_first.tab10 script_first.bits10 (fun HT_ HW_ => ?_)
                                generalize w39.drew = w42 at HO0 HO199 HO205 BK192 HB HO211 HO217 HO224 hx206_0 hx219_0 hHeld ⊢
                                refine pure_ (i := 0) (N := some 36) (v := ?_) (a' := ?_) #[true, false, false, false, false, false, false, false, false, false, false, false, false, false, false, false, false, false, false, false] rfl rfl (any_of HT_.out (by kernel_rfl)) (fun _ _ _ h => h) (Or.inl ⟨by rfl, ?_⟩) ?_ ?_
                                rotate_left
                                · intro w'
                                  go_simp
                                  with_reducible rfl
                                rotate_left
                                · simp only [Act.put, List.setIfInBounds_toArray, List.set_cons_zero, List.set_cons_succ, i64_w, i32_w]
                                  rfl
                                refine pure_ (i := 1) (N := some 37) (v := ?_) (a' := ?_) #[true, true, false, false, false, false, false, false, false, false, false, false, false, false, false, false, false, false, false, false] rfl rfl (any_of HT_.out (by kernel_rfl)) (fun _ _ _ h => h) (Or.inl ⟨by rfl, ?_⟩) ?_ ?_
                                rotate_left
                                · intro w'
                                  go_simp
                                  with_reducible rfl
                                rotate_left
                                · simp only [Act.put, List.setIfInBounds_toArray, List.set_cons_zero, List.set_cons_succ, i64_w, i32_w]
                                  rfl
                                refine pure_ (i := 4) (N := some 40) (v := ?_) (a' := ?_) #[true, true, false, false, true, false, false, false, false, false, false, false, false, false, false, false, false, false, false, false] rfl rfl (any_of HT_.out (by kernel_rfl)) (fun _ _ _ h => h) (Or.inl ⟨by rfl, ?_⟩) ?_ ?_
                                rotate_left
                                · intro w'
                                  go_simp
                                  with_reducible rfl
                                rotate_left
                                · simp only [Act.put, List.setIfInBounds_toArray, List.set_cons_zero, List.set_cons_succ, i64_w, i32_w]
                                  rfl
                                refine pure_ (i := 5) (N := some 41) (v := ?_) (a' := ?_) #[true, true, false, false, true, true, false, false, false, false, false, false, false, false, false, false, false, false, false, false] rfl rfl (any_of HT_.out (by kernel_rfl)) (fun _ _ _ h => h) (Or.inl ⟨by rfl, ?_⟩) ?_ ?_
                                rotate_left
                                · intro w'
                                  go_simp
                                  with_reducible rfl
                                rotate_left
                                · simp only [Act.put, List.setIfInBounds_toArray, List.set_cons_zero, List.set_cons_succ, i64_w, i32_w]
                                  rfl
                                refine pure_ (i := 7) (N := some 43) (v := ?_) (a' := ?_) #[true, true, false, false, true, true, false, true, false, false, false, false, false, false, false, false, false, false, false, false] rfl rfl (any_of HT_.out (by kernel_rfl)) (fun _ _ _ h => h) (Or.inl ⟨by rfl, ?_⟩) ?_ ?_
                                rotate_left
                                · intro w'
                                  go_simp
                                  with_reducible rfl
                                rotate_left
                                · simp only [Act.put, List.setIfInBounds_toArray, List.set_cons_zero, List.set_cons_succ, i64_w, i32_w]
                                  rfl
                                refine pure_ (i := 8) (N := some 44) (v := ?_) (a' := ?_) #[true, true, false, false, true, true, false, true, true, false, false, false, false, false, false, false, false, false, false, false] rfl rfl (any_of HT_.out (by kernel_rfl)) (fun _ _ _ h => h) (Or.inl ⟨by rfl, ?_⟩) ?_ ?_
                                rotate_left
                                · intro w'
                                  go_simp
                                  with_reducible rfl
                                rotate_left
                                · simp only [Act.put, List.setIfInBounds_toArray, List.set_cons_zero, List.set_cons_succ, i64_w, i32_w]
                                  rfl
                                refine pure_ (i := 10) (N := some 46) (v := ?_) (a' := ?_) #[true, true, false, false, true, true, false, true, true, false, true, false, false, false, false, false, false, false, false, false] rfl rfl (any_of HT_.out (by kernel_rfl)) (fun _ _ _ h => h) (Or.inl ⟨by rfl, ?_⟩) ?_ ?_
                                rotate_left
                                · intro w'
                                  go_simp
                                  with_reducible rfl
                                rotate_left
                                · simp only [Act.put, List.setIfInBounds_toArray, List.set_cons_zero, List.set_cons_succ, i64_w, i32_w]
                                  rfl
                                refine pure_ (i := 11) (N := some 47) (v := ?_) (a' := ?_) #[true, true, false, false, true, true, false, true, true, false, true, true, false, false, false, false, false, false, false, false] rfl rfl (any_of HT_.out (by kernel_rfl)) (fun _ _ _ h => h) (Or.inl ⟨by rfl, ?_⟩) ?_ ?_
                                rotate_left
                                · intro w'
                                  go_simp
                                  with_reducible rfl
                                rotate_left
                                · simp only [Act.put, List.setIfInBounds_toArray, List.set_cons_zero, List.set_cons_succ, i64_w, i32_w]
                                  rfl
                                refine pure_ (i := 13) (N := some 49) (v := ?_) (a' := ?_) #[true, true, false, false, true, true, false, true, true, false, true, true, false, true, false, false, false, false, false, false] rfl rfl (any_of HT_.out (by kernel_rfl)) (fun _ _ _ h => h) (Or.inl ⟨by rfl, ?_⟩) ?_ ?_
                                rotate_left
                                · intro w'
                                  go_simp
                                  with_reducible rfl
                                rotate_left
                                · simp only [Act.put, List.setIfInBounds_toArray, List.set_cons_zero, List.set_cons_succ, i64_w, i32_w]
                                  rfl
                                refine pure_ (i := 14) (N := some 50) (v := ?_) (a' := ?_) #[true, true, false, false, true, true, false, true, true, false, true, true, false, true, true, false, false, false, false, false] rfl rfl (any_of HT_.out (by kernel_rfl)) (fun _ _ _ h => h) (Or.inl ⟨by rfl, ?_⟩) ?_ ?_
                                rotate_left
                                · intro w'
                                  go_simp
                                  with_reducible rfl
                                rotate_left
                                · simp only [Act.put, List.setIfInBounds_toArray, List.set_cons_zero, List.set_cons_succ, i64_w, i32_w]
                                  rfl
                                refine pure_ (i := 15) (N := some 51) (v := ?_) (a' := ?_) #[true, true, false, false, true, true, false, true, true, false, true, true, false, true, true, true, false, false, false, false] rfl rfl (any_of HT_.out (by kernel_rfl)) (fun _ _ _ h => h) (Or.inl ⟨by rfl, ?_⟩) ?_ ?_
                                rotate_left
                                · intro w'
                                  go_simp
                                  with_reducible rfl
                                rotate_left
                                · simp only [Act.put, List.setIfInBounds_toArray, List.set_cons_zero, List.set_cons_succ, i64_w, i32_w]
                                  rfl
                                refine take_ (i := 2) (N := some 38) (v := ?_) (a' := ?_) #[true, true, true, false, true, true, false, true, true, false, true, true, false, true, true, true, false, false, false, false] rfl rfl (take_ofW HT_.out HW_.out (by kernel_rfl)) (fun _ _ _ h => h) (Or.inl ⟨by rfl, ?_⟩) hHeld ?_ ?_
                                rotate_left
                                · rintro w' ⟨s0, s1⟩
                                  go_simp
                                  with_reducible rfl
                                rotate_left
                                · simp only [Act.put, List.setIfInBounds_toArray, List.set_cons_zero, List.set_cons_succ, i64_w, i32_w]
                                  rfl
                                refine pure_ (i := 3) (N := some 39) (v := ?_) (a' := ?_) #[true, true, true, true, true, true, false, true, true, false, true, true, false, true, true, true, false, false, false, false] rfl rfl (any_of HT_.out (by kernel_rfl)) (fun _ _ _ h => h) (Or.inl ⟨by rfl, ?_⟩) ?_ ?_
                                rotate_left
                                · intro w'
                                  go_simp
                                  with_reducible rfl
                                rotate_left
                                · simp only [Act.put, List.setIfInBounds_toArray, List.set_cons_zero, List.set_cons_succ, i64_w, i32_w]
                                  rfl
                                refine take_ (i := 12) (N := some 48) (v := ?_) (a' := ?_) #[true, true, true, true, true, true, false, true, true, false, true, true, true, true, true, true, false, false, false, false] rfl rfl (take_ofW HT_.out HW_.out (by kernel_rfl)) (fun _ _ _ h => h) (Or.inl ⟨by rfl, ?_⟩) hHeld ?_ ?_
                                rotate_left
                                · rintro w' ⟨s0, s1⟩
                                  go_simp
                                  with_reducible rfl
                                rotate_left
                                · simp only [Act.put, List.setIfInBounds_toArray, List.set_cons_zero, List.set_cons_succ, i64_w, i32_w]
                                  rfl
                                refine join_ (σ := Value × Nat) 1 #[true, true, true, true, true, true, true, true, true, true, true, true, true, true, true, true, true, true, true, false] (fun s_ => [(42, .int .i64 t212), (45, .int .i64 t218), (52, s_.1), (7, .pointer (some ⟨s_.2, 0, none⟩)), (53, .agg #[.int .i64 (wrap64 (rd l0 0)), .int .i64 t212, .int .i64 t218, .int .u8 (rd l0 5), .int .i64 0, .int .u16 0, .int .u8 0, .int .u8 0, .int .u8 0, .int .u8 0, s_.1])]) (fun s_ w' => (w'.cell? ad193 = some (.int .u8 (rd l0 0)) ∧ w'.cell? ⟨ad193.block, ad193.off + 5, none⟩ = some (.int .u8 (rd l0 5))) ∧ (Kd.V (Kd.int .u8) 5 w' w.heap.size (fun k_ => (P0_ k_ ∨ w.heap.size ≤ k_) ∧ some k_ ≠ (s_.1 : Value).ownBlock ∧ k_ ≠ gb192 ∧ k_ ≠ s_.2) (.slice (some ad193) l0.length c0) l0) ∧ (Kd.V (Kd.int .u8) 5 w' w.heap.size (fun k_ => (P0_ k_ ∨ w.heap.size ≤ k_) ∧ some k_ ≠ (s_.1 : Value).ownBlock ∧ k_ ≠ gb192 ∧ k_ ≠ s_.2) (.slice A40 y195.length c40) y195) ∧ (Kd.V (Kd.int .u8) 5 w' w.heap.size (fun k_ => (P0_ k_ ∨ w.heap.size ≤ k_) ∧ some k_ ≠ (s_.1 : Value).ownBlock ∧ k_ ≠ gb192 ∧ k_ ≠ s_.2) (.slice A41 y201.length c41) y201) ∧ (Kd.V (Kd.int .u8) 5 w' w.heap.size (fun k_ => (P0_ k_ ∨ w.heap.size ≤ k_) ∧ some k_ ≠ (s_.1 : Value).ownBlock ∧ k_ ≠ gb192 ∧ k_ ≠ s_.2) (.slice A43 y207.length c43) y207) ∧ (Kd.V (Kd.int .u8) 5 w' w.heap.size (fun k_ => (P0_ k_ ∨ w.heap.size ≤ k_) ∧ some k_ ≠ (s_.1 : Value).ownBlock ∧ k_ ≠ gb192 ∧ k_ ≠ s_.2) (.slice A44 y213.length c44) y213) ∧ (Kd.V (Kd.int .u8) 5 w' w.heap.size (fun k_ => (P0_ k_ ∨ w.heap.size ≤ k_) ∧ some k_ ≠ (s_.1 : Value).ownBlock ∧ k_ ≠ gb192 ∧ k_ ≠ s_.2) (.slice A41 y220.length c41) y220) ∧ (Kd.R (Kd.int .u8) 5 w' w.heap.size (fun k_ => (w.heap.size ≤ k_)) s_.1 t225) ∧ (w'.heap[gb192]? = some (.cells #[.int .i64 0, .int .i64 0, .int .i64 0, .int .u8 0, .int .i64 0, .int .u16 0, .int .u8 0, .int .u8 0, .int .u8 0, .int .u8 0, .slice none 0 0] 44 (0, 0))) ∧ (w'.heap[s_.2]? = some (.cells #[.int .i64 0, .int .i64 0, .int .i64 0, .int .u8 0, .int .i64 0, .int .u16 0, .int .u8 0, .int .u8 0, .int .u8 0, .int .u8 0, .slice none 0 0] 44 (0, 0))) ∧ (w.heap.size ≤ s_.2) ∧ (w.heap.size ≤ s_.2) ∧ (gb192 ≠ s_.2) ∧ (s_.2 ≠ gb192) ∧ (Below w.heap.size w w')) ?_ ?_
                                rotate_left
                                · intro hCont
                                  refine two_ (i := 6) (j := 18) (Ni := some 42) (Nj := some 7) #[true, true, true, true, true, true, true, true, true, false, true, true, true, true, true, true, false, false, false, false] #[true, true, true, true, true, true, false, true, true, false, true, true, true, true, true, true, false, false, true, false] rfl rfl rfl rfl (two_of HT_.out (by kernel_rfl)) (by decide) (by decide) (fun K hK => ?_) (fun K hK => ?_)
                                  · skip
                                    refine goes_ Try.func30 (by kernel_rfl) rfl #[.slice A43 y207.length c43] (by rfl) rfl rfl (by (try simp only [List.map_toArray, List.map_cons, List.map_nil]); first | done | rfl | (simp only [List.length_drop, List.length_take]; rfl)) ?_
                                    with_reducible refine (script_signed.calls _ _ y207 t212 _ ?side1 ?side2 A24.out).mono ?_
                                    (case side1 => repeat (first | exact (Kd.V_reads' HO211.out).2.2 | (with_reducible refine Kd.C_alloc ?_ _) | (with_reducible refine Kd.C_drewN ?_ _) | (with_reducible refine Kd.C_drew ?_)))
                                    (case side2 => exact (Kd.V_reads' HO211.out).2.1)
                                    rintro e w' ⟨rfl, ⟨nd, rfl⟩⟩
                                    refine ⟨_, rfl, ?_⟩
                                    refine hK.out _ _ ⟨hHeld.1, hHeld.2⟩ (fun hHeld => ?_)
                                    clear hK K
                                    refine norm_ (a' := ?_) ?_ ?_
                                    rotate_left
                                    · show Act.put _ (some 42) _ = _
                                      simp only [Act.put, List.setIfInBounds_toArray, List.set_cons_zero, List.set_cons_succ, i64_w, i32_w]
                                      rfl
                                    refine two_ (i := 9) (j := 18) (Ni := some 45) (Nj := some 7) #[true, true, true, true, true, true, true, true, true, true, true, true, true, true, true, true, false, false, false, false] #[true, true, true, true, true, true, true, true, true, false, true, true, true, true, true, true, false, false, true, false] rfl rfl rfl rfl (two_of HT_.out (by kernel_rfl)) (by decide) (by decide) (fun K hK => ?_) (fun K hK => ?_)
                                    · skip
                                      refine goes_ Try.func30 (by kernel_rfl) rfl #[.slice A44 y213.length c44] (by rfl) rfl rfl (by (try simp only [List.map_toArray, List.map_cons, List.map_nil]); first | done | rfl | (simp only [List.length_drop, List.length_take]; rfl)) ?_
                                      with_reducible refine (script_signed.calls _ _ y213 t218 _ ?side1 ?side2 A26.out).mono ?_
                                      (case side1 => repeat (first | exact (Kd.V_reads' HO217.out).2.2 | (with_reducible refine Kd.C_alloc ?_ _) | (with_reducible refine Kd.C_drewN ?_ _) | (with_reducible refine Kd.C_drew ?_)))
                                      (case side2 => exact (Kd.V_reads' HO217.out).2.1)
                                      rintro e w' ⟨rfl, ⟨nd, rfl⟩⟩
                                      refine ⟨_, rfl, ?_⟩
                                      refine hK.out _ _ ⟨hHeld.1, hHeld.2⟩ (fun hHeld => ?_)
                                      clear hK K
                                      refine norm_ (a' := ?_) ?_ ?_
                                      rotate_left
                                      · show Act.put _ (some 45) _ = _
                                        simp only [Act.put, List.setIfInBounds_toArray, List.set_cons_zero, List.set_cons_succ, i64_w, i32_w]
                                        rfl
                                      refine two_ (i := 16) (j := 18) (Ni := some 52) (Nj := some 7) #[true, true, true, true, true, true, true, true, true, true, true, true, true, true, true, true, true, false, false, false] #[true, true, true, true, true, true, true, true, true, true, true, true, true, true, true, true, false, false, true, false] rfl rfl rfl rfl (two_of HT_.out (by kernel_rfl)) (by decide) (by decide) (fun K hK => ?_) (fun K hK => ?_)
                                      · skip
                                        refine goes_ Try.func24 (by kernel_rfl) rfl #[.slice A41 y220.length c41] (by rfl) rfl rfl (by (try simp only [List.map_toArray, List.map_cons, List.map_nil]); first | done | rfl | (simp only [List.length_drop, List.length_take]; rfl)) ?_
                                        with_reducible refine (bytes_Clone.calls _ _ y220 t225 _ ?side1 ?side2 A30.out).mono ?_
                                        (case side1 => repeat (first | exact (Kd.V_reads' HO224.out).2.2 | (with_reducible refine Kd.C_alloc ?_ _) | (with_reducible refine Kd.C_drewN ?_ _) | (with_reducible refine Kd.C_drew ?_)))
                                        (case side2 => exact (Kd.V_reads' HO224.out).2.1)
                                        rintro e w46 ⟨v226, rfl, ho0, hb⟩
                                        have HS0_ := (hb.cell (World.block_lt_of_cell? _ _ (hHeld.1))).trans (hHeld.1)
                                        have HS1_ := (hb.cell (World.block_lt_of_cell? _ _ (hHeld.2))).trans (hHeld.2)
                                        refine ⟨_, rfl, ?_⟩
                                        have n0_ := Aside0.mk (Kd.V_elder' (by (with_reducible repeat (first | apply Kd.V_alloc | apply Kd.V_drewN | apply Kd.V_drew)); exact HO0.out) (Kd.R_base ho0) hb)
                                        have n1_ := Aside0.mk (Kd.V_elder' (by (with_reducible repeat (first | apply Kd.V_alloc | apply Kd.V_drewN | apply Kd.V_drew)); exact HO199.out) (Kd.R_base ho0) hb)
                                        have n2_ := Aside0.mk (Kd.V_elder' (by (with_reducible repeat (first | apply Kd.V_alloc | apply Kd.V_drewN | apply Kd.V_drew)); exact HO205.out) (Kd.R_base ho0) hb)
                                        have n3_ := Aside0.mk (Kd.V_elder' (by (with_reducible repeat (first | apply Kd.V_alloc | apply Kd.V_drewN | apply Kd.V_drew)); exact HO211.out) (Kd.R_base ho0) hb)
                                        have n4_ := Aside0.mk (Kd.V_elder' (by (with_reducible repeat (first | apply Kd.V_alloc | apply Kd.V_drewN | apply Kd.V_drew)); exact HO217.out) (Kd.R_base ho0) hb)
                                        have n5_ := Aside0.mk (Kd.V_elder' (by (with_reducible repeat (first | apply Kd.V_alloc | apply Kd.V_drewN | apply Kd.V_drew)); exact HO224.out) (Kd.R_base ho0) hb)
                                        have n6_ := Aside0.mk (Kd.R_lower (Kd.R_newM (M := fun k_ => (w.heap.size ≤ k_)) ho0 (below_size (by repeat (first | (with_reducible first | exact HB.out | apply below_alloc | apply pw_below_drewN | apply below_drew1 | refine below_set ?_ GE192.out) | exact HB.out))) (fun k_ h_ => h_)) (below_size (by repeat (first | (with_reducible first | exact HB.out | apply below_alloc | apply pw_below_drewN | apply below_drew1 | refine below_set ?_ GE192.out) | exact HB.out))))
                                        have n7_ := Aside0.mk (blk_below (g := gb192) (o := .cells #[.int .i64 0, .int .i64 0, .int .i64 0, .int .u8 0, .int .i64 0, .int .u16 0, .int .u8 0, .int .u8 0, .int .u8 0, .int .u8 0, .slice none 0 0] 44 (0, 0)) (by (with_reducible repeat (first | refine blk_drewN ?_ _ | refine blk_drew ?_ | refine blk_alloc ?_ _)); exact BK192.out) hb)
                                        have n8_ := Aside0.mk (below_step (by repeat (first | (with_reducible first | exact HB.out | apply below_alloc | apply pw_below_drewN | apply below_drew1 | refine below_set ?_ GE192.out) | exact HB.out)) hb)
                                        clear HO0
                                        clear HO199
                                        clear HO205
                                        clear HO211
                                        clear HO217
                                        clear HO224
                                        clear BK192
                                        clear HB
                                        have HO0 := n0_
                                        have HO199 := n1_
                                        have HO205 := n2_
                                        have HO211 := n3_
                                        have HO217 := n4_
                                        have HO224 := n5_
                                        have HO227 := n6_
                                        have BK192 := n7_
                                        have HB := n8_
                                        clear n0_ n1_ n2_ n3_ n4_ n5_ n6_ n7_ n8_
                                        (try clear hb)
                                        (try clear hb2)
                                        (try clear hk)
                                        (try clear hi)
                                        (try clear ho0)
                                        obtain ⟨Ao47, co47, eo47⟩ := Kd.R_slice HO227.out
                                        (first | subst eo47 | (injection eo47 with f1_ f2_ f3_; have f4_ := f1_.symm; have f5_ := f3_.symm; clear f1_ f2_ f3_; subst f4_; subst f5_))
                                        refine hK.out _ _ ⟨HS0_, HS1_⟩ (fun hHeld => ?_)
                                        clear hK K
                                        refine norm_ (a' := ?_) ?_ ?_
                                        rotate_left
                                        · show Act.put _ (some 52) _ = _
                                          simp only [Act.put, List.setIfInBounds_toArray, List.set_cons_zero, List.set_cons_succ, i64_w, i32_w]
                                          rfl
                                        refine pure_ (i := 17) (N := some 53) (v := ?_) (a' := ?_) #[true, true, true, true, true, true, true, true, true, true, true, true, true, true, true, true, true, true, false, false] rfl rfl (any_of HT_.out (by kernel_rfl)) (fun _ _ _ h => h) (Or.inl ⟨by rfl, ?_⟩) ?_ ?_
                                        rotate_left
                                        · intro w'
                                          go_simp
                                          with_reducible rfl
                                        rotate_left
                                        · simp only [Act.put, List.setIfInBounds_toArray, List.set_cons_zero, List.set_cons_succ, i64_w, i32_w]
                                          rfl
                                        refine one_ (i := 18) (N := some 7) #[true, true, true, true, true, true, true, true, true, true, true, true, true, true, true, true, true, true, true, false] rfl rfl (one_of HT_.out (by kernel_rfl)) (by decide) (fun K hK => ?_)
                                        refine box_step ?hg (N := 7) ?hd (cs := #[.int .i64 0, .int .i64 0, .int .i64 0, .int .u8 0, .int .i64 0, .int .u16 0, .int .u8 0, .int .u8 0, .int .u8 0, .int .u8 0, .slice none 0 0]) (t := 44) ?hr ?_; (case hd => rfl); (case hg => rfl); (case hr => first | (go_simp; done) | (go_simp; rfl))
                                        intro gb228 hg w48 hbox hb
                                        have HS0_ := (hb.cell (World.block_lt_of_cell? _ _ (hHeld.1))).trans (hHeld.1)
                                        have HS1_ := (hb.cell (World.block_lt_of_cell? _ _ (hHeld.2))).trans (hHeld.2)
                                        have n0_ := Aside0.mk (Kd.V_below (Kd.V_elderB (by (with_reducible repeat (first | apply Kd.V_alloc | apply Kd.V_drewN | apply Kd.V_drew)); exact HO0.out) gb228 (Nat.le_of_eq hg.symm)) hb)
                                        have n1_ := Aside0.mk (Kd.V_below (Kd.V_elderB (by (with_reducible repeat (first | apply Kd.V_alloc | apply Kd.V_drewN | apply Kd.V_drew)); exact HO199.out) gb228 (Nat.le_of_eq hg.symm)) hb)
                                        have n2_ := Aside0.mk (Kd.V_below (Kd.V_elderB (by (with_reducible repeat (first | apply Kd.V_alloc | apply Kd.V_drewN | apply Kd.V_drew)); exact HO205.out) gb228 (Nat.le_of_eq hg.symm)) hb)
                                        have n3_ := Aside0.mk (Kd.V_below (Kd.V_elderB (by (with_reducible repeat (first | apply Kd.V_alloc | apply Kd.V_drewN | apply Kd.V_drew)); exact HO211.out) gb228 (Nat.le_of_eq hg.symm)) hb)
                                        have n4_ := Aside0.mk (Kd.V_below (Kd.V_elderB (by (with_reducible repeat (first | apply Kd.V_alloc | apply Kd.V_drewN | apply Kd.V_drew)); exact HO217.out) gb228 (Nat.le_of_eq hg.symm)) hb)
                                        have n5_ := Aside0.mk (Kd.V_below (Kd.V_elderB (by (with_reducible repeat (first | apply Kd.V_alloc | apply Kd.V_drewN | apply Kd.V_drew)); exact HO224.out) gb228 (Nat.le_of_eq hg.symm)) hb)
                                        have n6_ := Aside0.mk (Kd.R_below (by (with_reducible repeat (first | apply Kd.R_alloc | apply Kd.R_drewN | apply Kd.R_drew)); exact HO227.out) hb)
                                        have n7_ := Aside0.mk (blk_below (g := gb192) (o := .cells #[.int .i64 0, .int .i64 0, .int .i64 0, .int .u8 0, .int .i64 0, .int .u16 0, .int .u8 0, .int .u8 0, .int .u8 0, .int .u8 0, .slice none 0 0] 44 (0, 0)) (by (with_reducible repeat (first | refine blk_drewN ?_ _ | refine blk_drew ?_ | refine blk_alloc ?_ _)); exact BK192.out) hb)
                                        have n8_ := Aside0.mk (below_step (by repeat (first | (with_reducible first | exact HB.out | apply below_alloc | apply pw_below_drewN | apply below_drew1 | refine below_set ?_ GE192.out) | exact HB.out)) hb)
                                        have n9_ := Aside0.mk (hbox)
                                        have n10_ := Aside0.mk ((by rw [hg]; exact (below_size (by repeat (first | (with_reducible first | exact HB.out | apply below_alloc | apply pw_below_drewN | apply below_drew1 | refine below_set ?_ GE192.out) | exact HB.out))) : w.heap.size ≤ gb228))
                                        have n11_ := Aside0.mk ((by rw [hg]; exact (below_size (by repeat (first | (with_reducible first | exact HB.out | apply below_alloc | apply pw_below_drewN | apply below_drew1 | refine below_set ?_ GE192.out) | exact HB.out))) : w.heap.size ≤ gb228))
                                        have n12_ := Aside0.mk ((by rw [hg]; exact Nat.ne_of_lt (blk_lt (g := gb192) (o := .cells #[.int .i64 0, .int .i64 0, .int .i64 0, .int .u8 0, .int .i64 0, .int .u16 0, .int .u8 0, .int .u8 0, .int .u8 0, .int .u8 0, .slice none 0 0] 44 (0, 0)) (by (with_reducible repeat (first | refine blk_drewN ?_ _ | refine blk_drew ?_ | refine blk_alloc ?_ _)); exact BK192.out)) : gb192 ≠ gb228))
                                        have n13_ := Aside0.mk ((by rw [hg]; exact Nat.ne_of_gt (blk_lt (g := gb192) (o := .cells #[.int .i64 0, .int .i64 0, .int .i64 0, .int .u8 0, .int .i64 0, .int .u16 0, .int .u8 0, .int .u8 0, .int .u8 0, .int .u8 0, .slice none 0 0] 44 (0, 0)) (by (with_reducible repeat (first | refine blk_drewN ?_ _ | refine blk_drew ?_ | refine blk_alloc ?_ _)); exact BK192.out)) : gb228 ≠ gb192))
                                        clear HO0
                                        clear HO199
                                        clear HO205
                                        clear HO211
                                        clear HO217
                                        clear HO224
                                        clear HO227
                                        clear BK192
                                        clear HB
                                        have HO0 := n0_
                                        have HO199 := n1_
                                        have HO205 := n2_
                                        have HO211 := n3_
                                        have HO217 := n4_
                                        have HO224 := n5_
                                        have HO227 := n6_
                                        have BK192 := n7_
                                        have HB := n8_
                                        have BK228 := n9_
                                        have GW228 := n10_
                                        have GE228 := n11_
                                        have NB192_228 := n12_
                                        have NB228_192 := n13_
                                        clear n0_ n1_ n2_ n3_ n4_ n5_ n6_ n7_ n8_ n9_ n10_ n11_ n12_ n13_
                                        clear hb hbox hg
                                        refine hK.out _ _ ⟨HS0_, HS1_⟩ (fun hHeld => ?_)
                                        clear hK K
                                        refine norm_ (a' := ?_) ?_ ?_
                                        rotate_left
                                        · show Act.put _ (some 7) _ = _
                                          simp only [Act.put, List.setIfInBounds_toArray, List.set_cons_zero, List.set_cons_succ, i64_w, i32_w]
                                          rfl
                                        exact norm_ (by simp only [putAll, Act.put, List.setIfInBounds_toArray, List.set_cons_zero, List.set_cons_succ]) (hCont (.slice Ao47 t225.length co47, gb228) _ ⟨hHeld, (by (with_reducible repeat (first | apply Kd.V_alloc | apply Kd.V_drewN | apply Kd.V_drew)); exact Kd.V_mono HO0.out (fun _ hk => ⟨hk.1.1.1, ⟨hk.1.2, ⟨hk.1.1.2, hk.2⟩⟩⟩)), (by (with_reducible repeat (first | apply Kd.V_alloc | apply Kd.V_drewN | apply Kd.V_drew)); exact Kd.V_mono HO199.out (fun _ hk => ⟨hk.1.1.1, ⟨hk.1.2, ⟨hk.1.1.2, hk.2⟩⟩⟩)), (by (with_reducible repeat (first | apply Kd.V_alloc | apply Kd.V_drewN | apply Kd.V_drew)); exact Kd.V_mono HO205.out (fun _ hk => ⟨hk.1.1.1, ⟨hk.1.2, ⟨hk.1.1.2, hk.2⟩⟩⟩)), (by (with_reducible repeat (first | apply Kd.V_alloc | apply Kd.V_drewN | apply Kd.V_drew)); exact Kd.V_mono HO211.out (fun _ hk => ⟨hk.1.1.1, ⟨hk.1.2, ⟨hk.1.1.2, hk.2⟩⟩⟩)), (by (with_reducible repeat (first | apply Kd.V_alloc | apply Kd.V_drewN | apply Kd.V_drew)); exact Kd.V_mono HO217.out (fun _ hk => ⟨hk.1.1.1, ⟨hk.1.2, ⟨hk.1.1.2, hk.2⟩⟩⟩)), (by (with_reducible repeat (first | apply Kd.V_alloc | apply Kd.V_drewN | apply Kd.V_drew)); exact Kd.V_mono HO224.out (fun _ hk => ⟨hk.1.1.1, ⟨hk.1.2, ⟨hk.1.1.2, hk.2⟩⟩⟩)), (by (with_reducible repeat (first | apply Kd.R_alloc | apply Kd.R_drewN | apply Kd.R_drew)); exact Kd.R_mono HO227.out (fun _ hk => hk.1)), (by (with_reducible repeat (first | refine blk_drewN ?_ _ | refine blk_drew ?_ | refine blk_alloc ?_ _)); exact BK192.out), (by (with_reducible repeat (first | refine blk_drewN ?_ _ | refine blk_drew ?_ | refine blk_alloc ?_ _)); exact BK228.out), GW228.out, GE228.out, NB192_228.out, NB228_192.out, (by repeat (first | (with_reducible first | exact HB.out | apply below_alloc | apply pw_below_drewN | apply below_drew1 | refine below_set ?_ GE192.out | refine below_set ?_ GE228.out) | exact HB.out))⟩)
                                      · skip
                                        refine box_step ?hg (N := 7) ?hd (cs := #[.int .i64 0, .int .i64 0, .int .i64 0, .int .u8 0, .int .i64 0, .int .u16 0, .int .u8 0, .int .u8 0, .int .u8 0, .int .u8 0, .slice none 0 0]) (t := 44) ?hr ?_; (case hd => rfl); (case hg => rfl); (case hr => first | (go_simp; done) | (go_simp; rfl))
                                        intro gb228 hg w46 hbox hb
                                        have HS0_ := (hb.cell (World.block_lt_of_cell? _ _ (hHeld.1))).trans (hHeld.1)
                                        have HS1_ := (hb.cell (World.block_lt_of_cell? _ _ (hHeld.2))).trans (hHeld.2)
                                        have n0_ := Aside0.mk (Kd.V_below (Kd.V_elderB (by (with_reducible repeat (first | apply Kd.V_alloc | apply Kd.V_drewN | apply Kd.V_drew)); exact HO0.out) gb228 (Nat.le_of_eq hg.symm)) hb)
                                        have n1_ := Aside0.mk (Kd.V_below (Kd.V_elderB (by (with_reducible repeat (first | apply Kd.V_alloc | apply Kd.V_drewN | apply Kd.V_drew)); exact HO199.out) gb228 (Nat.le_of_eq hg.symm)) hb)
                                        have n2_ := Aside0.mk (Kd.V_below (Kd.V_elderB (by (with_reducible repeat (first | apply Kd.V_alloc | apply Kd.V_drewN | apply Kd.V_drew)); exact HO205.out) gb228 (Nat.le_of_eq hg.symm)) hb)
                                        have n3_ := Aside0.mk (Kd.V_below (Kd.V_elderB (by (with_reducible repeat (first | apply Kd.V_alloc | apply Kd.V_drewN | apply Kd.V_drew)); exact HO211.out) gb228 (Nat.le_of_eq hg.symm)) hb)
                                        have n4_ := Aside0.mk (Kd.V_below (Kd.V_elderB (by (with_reducible repeat (first | apply Kd.V_alloc | apply Kd.V_drewN | apply Kd.V_drew)); exact HO217.out) gb228 (Nat.le_of_eq hg.symm)) hb)
                                        have n5_ := Aside0.mk (Kd.V_below (Kd.V_elderB (by (with_reducible repeat (first | apply Kd.V_alloc | apply Kd.V_drewN | apply Kd.V_drew)); exact HO224.out) gb228 (Nat.le_of_eq hg.symm)) hb)
                                        have n6_ := Aside0.mk (blk_below (g := gb192) (o := .cells #[.int .i64 0, .int .i64 0, .int .i64 0, .int .u8 0, .int .i64 0, .int .u16 0, .int .u8 0, .int .u8 0, .int .u8 0, .int .u8 0, .slice none 0 0] 44 (0, 0)) (by (with_reducible repeat (first | refine blk_drewN ?_ _ | refine blk_drew ?_ | refine blk_alloc ?_ _)); exact BK192.out) hb)
                                        have n7_ := Aside0.mk (below_step (by repeat (first | (with_reducible first | exact HB.out | apply below_alloc | apply pw_below_drewN | apply below_drew1 | refine below_set ?_ GE192.out) | exact HB.out)) hb)
                                        have n8_ := Aside0.mk (hbox)
                                        have n9_ := Aside0.mk ((by rw [hg]; exact (below_size (by repeat (first | (with_reducible first | exact HB.out | apply below_alloc | apply pw_below_drewN | apply below_drew1 | refine below_set ?_ GE192.out) | exact HB.out))) : w.heap.size ≤ gb228))
                                        have n10_ := Aside0.mk ((by rw [hg]; exact (below_size (by repeat (first | (with_reducible first | exact HB.out | apply below_alloc | apply pw_below_drewN | apply below_drew1 | refine below_set ?_ GE192.out) | exact HB.out))) : w.heap.size ≤ gb228))
                                        have n11_ := Aside0.mk ((by rw [hg]; exact Nat.ne_of_lt (blk_lt (g := gb192) (o := .cells #[.int .i64 0, .int .i64 0, .int .i64 0, .int .u8 0, .int .i64 0, .int .u16 0, .int .u8 0, .int .u8 0, .int .u8 0, .int .u8 0, .slice none 0 0] 44 (0, 0)) (by (with_reducible repeat (first | refine blk_drewN ?_ _ | refine blk_drew ?_ | refine blk_alloc ?_ _)); exact BK192.out)) : gb192 ≠ gb228))
                                        have n12_ := Aside0.mk ((by rw [hg]; exact Nat.ne_of_gt (blk_lt (g := gb192) (o := .cells #[.int .i64 0, .int .i64 0, .int .i64 0, .int .u8 0, .int .i64 0, .int .u16 0, .int .u8 0, .int .u8 0, .int .u8 0, .int .u8 0, .slice none 0 0] 44 (0, 0)) (by (with_reducible repeat (first | refine blk_drewN ?_ _ | refine blk_drew ?_ | refine blk_alloc ?_ _)); exact BK192.out)) : gb228 ≠ gb192))
                                        clear HO0
                                        clear HO199
                                        clear HO205
                                        clear HO211
                                        clear HO217
                                        clear HO224
                                        clear BK192
                                        clear HB
                                        have HO0 := n0_
                                        have HO199 := n1_
                                        have HO205 := n2_
                                        have HO211 := n3_
                                        have HO217 := n4_
                                        have HO224 := n5_
                                        have BK192 := n6_
                                        have HB := n7_
                                        have BK228 := n8_
                                        have GW228 := n9_
                                        have GE228 := n10_
                                        have NB192_228 := n11_
                                        have NB228_192 := n12_
                                        clear n0_ n1_ n2_ n3_ n4_ n5_ n6_ n7_ n8_ n9_ n10_ n11_ n12_
                                        clear hb hbox hg
                                        refine hK.out _ _ ⟨HS0_, HS1_⟩ (fun hHeld => ?_)
                                        clear hK K
                                        refine norm_ (a' := ?_) ?_ ?_
                                        rotate_left
                                        · show Act.put _ (some 7) _ = _
                                          simp only [Act.put, List.setIfInBounds_toArray, List.set_cons_zero, List.set_cons_succ, i64_w, i32_w]
                                          rfl
                                        refine one_ (i := 16) (N := some 52) #[true, true, true, true, true, true, true, true, true, true, true, true, true, true, true, true, true, false, true, false] rfl rfl (one_of HT_.out (by kernel_rfl)) (by decide) (fun K hK => ?_)
                                        refine goes_ Try.func24 (by kernel_rfl) rfl #[.slice A41 y220.length c41] (by rfl) rfl rfl (by (try simp only [List.map_toArray, List.map_cons, List.map_nil]); first | done | rfl | (simp only [List.length_drop, List.length_take]; rfl)) ?_
                                        with_reducible refine (bytes_Clone.calls _ _ y220 t225 _ ?side1 ?side2 A30.out).mono ?_
                                        (case side1 => repeat (first | exact (Kd.V_reads' HO224.out).2.2 | (with_reducible refine Kd.C_alloc ?_ _) | (with_reducible refine Kd.C_drewN ?_ _) | (with_reducible refine Kd.C_drew ?_)))
                                        (case side2 => exact (Kd.V_reads' HO224.out).2.1)
                                        rintro e w47 ⟨v226, rfl, ho0, hb⟩
                                        have HS0_ := (hb.cell (World.block_lt_of_cell? _ _ (hHeld.1))).trans (hHeld.1)
                                        have HS1_ := (hb.cell (World.block_lt_of_cell? _ _ (hHeld.2))).trans (hHeld.2)
                                        refine ⟨_, rfl, ?_⟩
                                        have n0_ := Aside0.mk (Kd.V_elder' (by (with_reducible repeat (first | apply Kd.V_alloc | apply Kd.V_drewN | apply Kd.V_drew)); exact HO0.out) (Kd.R_base ho0) hb)
                                        have n1_ := Aside0.mk (Kd.V_elder' (by (with_reducible repeat (first | apply Kd.V_alloc | apply Kd.V_drewN | apply Kd.V_drew)); exact HO199.out) (Kd.R_base ho0) hb)
                                        have n2_ := Aside0.mk (Kd.V_elder' (by (with_reducible repeat (first | apply Kd.V_alloc | apply Kd.V_drewN | apply Kd.V_drew)); exact HO205.out) (Kd.R_base ho0) hb)
                                        have n3_ := Aside0.mk (Kd.V_elder' (by (with_reducible repeat (first | apply Kd.V_alloc | apply Kd.V_drewN | apply Kd.V_drew)); exact HO211.out) (Kd.R_base ho0) hb)
                                        have n4_ := Aside0.mk (Kd.V_elder' (by (with_reducible repeat (first | apply Kd.V_alloc | apply Kd.V_drewN | apply Kd.V_drew)); exact HO217.out) (Kd.R_base ho0) hb)
                                        have n5_ := Aside0.mk (Kd.V_elder' (by (with_reducible repeat (first | apply Kd.V_alloc | apply Kd.V_drewN | apply Kd.V_drew)); exact HO224.out) (Kd.R_base ho0) hb)
                                        have n6_ := Aside0.mk (Kd.R_lower (Kd.R_newM (M := fun k_ => (w.heap.size ≤ k_)) ho0 (below_size (by repeat (first | (with_reducible first | exact HB.out | apply below_alloc | apply pw_below_drewN | apply below_drew1 | refine below_set ?_ GE192.out | refine below_set ?_ GE228.out) | exact HB.out))) (fun k_ h_ => h_)) (below_size (by repeat (first | (with_reducible first | exact HB.out | apply below_alloc | apply pw_below_drewN | apply below_drew1 | refine below_set ?_ GE192.out | refine below_set ?_ GE228.out) | exact HB.out))))
                                        have n7_ := Aside0.mk (blk_below (g := gb192) (o := .cells #[.int .i64 0, .int .i64 0, .int .i64 0, .int .u8 0, .int .i64 0, .int .u16 0, .int .u8 0, .int .u8 0, .int .u8 0, .int .u8 0, .slice none 0 0] 44 (0, 0)) (by (with_reducible repeat (first | refine blk_drewN ?_ _ | refine blk_drew ?_ | refine blk_alloc ?_ _)); exact BK192.out) hb)
                                        have n8_ := Aside0.mk (blk_below (g := gb228) (o := .cells #[.int .i64 0, .int .i64 0, .int .i64 0, .int .u8 0, .int .i64 0, .int .u16 0, .int .u8 0, .int .u8 0, .int .u8 0, .int .u8 0, .slice none 0 0] 44 (0, 0)) (by (with_reducible repeat (first | refine blk_drewN ?_ _ | refine blk_drew ?_ | refine blk_alloc ?_ _)); exact BK228.out) hb)
                                        have n9_ := Aside0.mk (below_step (by repeat (first | (with_reducible first | exact HB.out | apply below_alloc | apply pw_below_drewN | apply below_drew1 | refine below_set ?_ GE192.out | refine below_set ?_ GE228.out) | exact HB.out)) hb)
                                        clear HO0
                                        clear HO199
                                        clear HO205
                                        clear HO211
                                        clear HO217
                                        clear HO224
                                        clear BK192
                                        clear BK228
                                        clear HB
                                        have HO0 := n0_
                                        have HO199 := n1_
                                        have HO205 := n2_
                                        have HO211 := n3_
                                        have HO217 := n4_
                                        have HO224 := n5_
                                        have HO227 := n6_
                                        have BK192 := n7_
                                        have BK228 := n8_
                                        have HB := n9_
                                        clear n0_ n1_ n2_ n3_ n4_ n5_ n6_ n7_ n8_ n9_
                                        (try clear hb)
                                        (try clear hb2)
                                        (try clear hk)
                                        (try clear hi)
                                        (try clear ho0)
                                        obtain ⟨Ao48, co48, eo48⟩ := Kd.R_slice HO227.out
                                        (first | subst eo48 | (injection eo48 with f1_ f2_ f3_; have f4_ := f1_.symm; have f5_ := f3_.symm; clear f1_ f2_ f3_; subst f4_; subst f5_))
                                        refine hK.out _ _ ⟨HS0_, HS1_⟩ (fun hHeld => ?_)
                                        clear hK K
                                        refine norm_ (a' := ?_) ?_ ?_
                                        rotate_left
                                        · show Act.put _ (some 52) _ = _
                                          simp only [Act.put, List.setIfInBounds_toArray, List.set_cons_zero, List.set_cons_succ, i64_w, i32_w]
                                          rfl
                                        refine pure_ (i := 17) (N := some 53) (v := ?_) (a' := ?_) #[true, true, true, true, true, true, true, true, true, true, true, true, true, true, true, true, true, true, true, false] rfl rfl (any_of HT_.out (by kernel_rfl)) (fun _ _ _ h => h) (Or.inl ⟨by rfl, ?_⟩) ?_ ?_
                                        rotate_left
                                        · intro w'
                                          go_simp
                                          with_reducible rfl
                                        rotate_left
                                        · simp only [Act.put, List.setIfInBounds_toArray, List.set_cons_zero, List.set_cons_succ, i64_w, i32_w]
                                          rfl
                                        exact norm_ (by simp only [putAll, Act.put, List.setIfInBounds_toArray, List.set_cons_zero, List.set_cons_succ]) (hCont (.slice Ao48 t225.length co48, gb228) _ ⟨hHeld, (by (with_reducible repeat (first | apply Kd.V_alloc | apply Kd.V_drewN | apply Kd.V_drew)); exact Kd.V_mono HO0.out (fun _ hk => ⟨hk.1.1.1, ⟨hk.2, ⟨hk.1.1.2, hk.1.2⟩⟩⟩)), (by (with_reducible repeat (first | apply Kd.V_alloc | apply Kd.V_drewN | apply Kd.V_drew)); exact Kd.V_mono HO199.out (fun _ hk => ⟨hk.1.1.1, ⟨hk.2, ⟨hk.1.1.2, hk.1.2⟩⟩⟩)), (by (with_reducible repeat (first | apply Kd.V_alloc | apply Kd.V_drewN | apply Kd.V_drew)); exact Kd.V_mono HO205.out (fun _ hk => ⟨hk.1.1.1, ⟨hk.2, ⟨hk.1.1.2, hk.1.2⟩⟩⟩)), (by (with_reducible repeat (first | apply Kd.V_alloc | apply Kd.V_drewN | apply Kd.V_drew)); exact Kd.V_mono HO211.out (fun _ hk => ⟨hk.1.1.1, ⟨hk.2, ⟨hk.1.1.2, hk.1.2⟩⟩⟩)), (by (with_reducible repeat (first | apply Kd.V_alloc | apply Kd.V_drewN | apply Kd.V_drew)); exact Kd.V_mono HO217.out (fun _ hk => ⟨hk.1.1.1, ⟨hk.2, ⟨hk.1.1.2, hk.1.2⟩⟩⟩)), (by (with_reducible repeat (first | apply Kd.V_alloc | apply Kd.V_drewN | apply Kd.V_drew)); exact Kd.V_mono HO224.out (fun _ hk => ⟨hk.1.1.1, ⟨hk.2, ⟨hk.1.1.2, hk.1.2⟩⟩⟩)), (by (with_reducible repeat (first | apply Kd.R_alloc | apply Kd.R_drewN | apply Kd.R_drew)); exact Kd.R_mono HO227.out (fun _ hk => hk.1)), (by (with_reducible repeat (first | refine blk_drewN ?_ _ | refine blk_drew ?_ | refine blk_alloc ?_ _)); exact BK192.out), (by (with_reducible repeat (first | refine blk_drewN ?_ _ | refine blk_drew ?_ | refine blk_alloc ?_ _)); exact BK228.out), GW228.out, GE228.out, NB192_228.out, NB228_192.out, (by repeat (first | (with_reducible first | exact HB.out | apply below_alloc | apply pw_below_drewN | apply below_drew1 | refine below_set ?_ GE192.out | refine below_set ?_ GE228.out) | exact HB.out))⟩)
                                    · skip
                                      refine box_step ?hg (N := 7) ?hd (cs := #[.int .i64 0, .int .i64 0, .int .i64 0, .int .u8 0, .int .i64 0, .int .u16 0, .int .u8 0, .int .u8 0, .int .u8 0, .int .u8 0, .slice none 0 0]) (t := 44) ?hr ?_; (case hd => rfl); (case hg => rfl); (case hr => first | (go_simp; done) | (go_simp; rfl))
                                      intro gb228 hg w46 hbox hb
                                      have HS0_ := (hb.cell (World.block_lt_of_cell? _ _ (hHeld.1))).trans (hHeld.1)
                                      have HS1_ := (hb.cell (World.block_lt_of_cell? _ _ (hHeld.2))).trans (hHeld.2)
                                      have n0_ := Aside0.mk (Kd.V_below (Kd.V_elderB (by (with_reducible repeat (first | apply Kd.V_alloc | apply Kd.V_drewN | apply Kd.V_drew)); exact HO0.out) gb228 (Nat.le_of_eq hg.symm)) hb)
                                      have n1_ := Aside0.mk (Kd.V_below (Kd.V_elderB (by (with_reducible repeat (first | apply Kd.V_alloc | apply Kd.V_drewN | apply Kd.V_drew)); exact HO199.out) gb228 (Nat.le_of_eq hg.symm)) hb)
                                      have n2_ := Aside0.mk (Kd.V_below (Kd.V_elderB (by (with_reducible repeat (first | apply Kd.V_alloc | apply Kd.V_drewN | apply Kd.V_drew)); exact HO205.out) gb228 (Nat.le_of_eq hg.symm)) hb)
                                      have n3_ := Aside0.mk (Kd.V_below (Kd.V_elderB (by (with_reducible repeat (first | apply Kd.V_alloc | apply Kd.V_drewN | apply Kd.V_drew)); exact HO211.out) gb228 (Nat.le_of_eq hg.symm)) hb)
                                      have n4_ := Aside0.mk (Kd.V_below (Kd.V_elderB (by (with_reducible repeat (first | apply Kd.V_alloc | apply Kd.V_drewN | apply Kd.V_drew)); exact HO217.out) gb228 (Nat.le_of_eq hg.symm)) hb)
                                      have n5_ := Aside0.mk (Kd.V_below (Kd.V_elderB (by (with_reducible repeat (first | apply Kd.V_alloc | apply Kd.V_drewN | apply Kd.V_drew)); exact HO224.out) gb228 (Nat.le_of_eq hg.symm)) hb)
                                      have n6_ := Aside0.mk (blk_below (g := gb192) (o := .cells #[.int .i64 0, .int .i64 0, .int .i64 0, .int .u8 0, .int .i64 0, .int .u16 0, .int .u8 0, .int .u8 0, .int .u8 0, .int .u8 0, .slice none 0 0] 44 (0, 0)) (by (with_reducible repeat (first | refine blk_drewN ?_ _ | refine blk_drew ?_ | refine blk_alloc ?_ _)); exact BK192.out) hb)
                                      have n7_ := Aside0.mk (below_step (by repeat (first | (with_reducible first | exact HB.out | apply below_alloc | apply pw_below_drewN | apply below_drew1 | refine below_set ?_ GE192.out) | exact HB.out)) hb)
                                      have n8_ := Aside0.mk (hbox)
                                      have n9_ := Aside0.mk ((by rw [hg]; exact (below_size (by repeat (first | (with_reducible first | exact HB.out | apply below_alloc | apply pw_below_drewN | apply below_drew1 | refine below_set ?_ GE192.out) | exact HB.out))) : w.heap.size ≤ gb228))
                                      have n10_ := Aside0.mk ((by rw [hg]; exact (below_size (by repeat (first | (with_reducible first | exact HB.out | apply below_alloc | apply pw_below_drewN | apply below_drew1 | refine below_set ?_ GE192.out) | exact HB.out))) : w.heap.size ≤ gb228))
                                      have n11_ := Aside0.mk ((by rw [hg]; exact Nat.ne_of_lt (blk_lt (g := gb192) (o := .cells #[.int .i64 0, .int .i64 0, .int .i64 0, .int .u8 0, .int .i64 0, .int .u16 0, .int .u8 0, .int .u8 0, .int .u8 0, .int .u8 0, .slice none 0 0] 44 (0, 0)) (by (with_reducible repeat (first | refine blk_drewN ?_ _ | refine blk_drew ?_ | refine blk_alloc ?_ _)); exact BK192.out)) : gb192 ≠ gb228))
                                      have n12_ := Aside0.mk ((by rw [hg]; exact Nat.ne_of_gt (blk_lt (g := gb192) (o := .cells #[.int .i64 0, .int .i64 0, .int .i64 0, .int .u8 0, .int .i64 0, .int .u16 0, .int .u8 0, .int .u8 0, .int .u8 0, .int .u8 0, .slice none 0 0] 44 (0, 0)) (by (with_reducible repeat (first | refine blk_drewN ?_ _ | refine blk_drew ?_ | refine blk_alloc ?_ _)); exact BK192.out)) : gb228 ≠ gb192))
                                      clear HO0
                                      clear HO199
                                      clear HO205
                                      clear HO211
                                      clear HO217
                                      clear HO224
                                      clear BK192
                                      clear HB
                                      have HO0 := n0_
                                      have HO199 := n1_
                                      have HO205 := n2_
                                      have HO211 := n3_
                                      have HO217 := n4_
                                      have HO224 := n5_
                                      have BK192 := n6_
                                      have HB := n7_
                                      have BK228 := n8_
                                      have GW228 := n9_
                                      have GE228 := n10_
                                      have NB192_228 := n11_
                                      have NB228_192 := n12_
                                      clear n0_ n1_ n2_ n3_ n4_ n5_ n6_ n7_ n8_ n9_ n10_ n11_ n12_
                                      clear hb hbox hg
                                      refine hK.out _ _ ⟨HS0_, HS1_⟩ (fun hHeld => ?_)
                                      clear hK K
                                      refine norm_ (a' := ?_) ?_ ?_
                                      rotate_left
                                      · show Act.put _ (some 7) _ = _
                                        simp only [Act.put, List.setIfInBounds_toArray, List.set_cons_zero, List.set_cons_succ, i64_w, i32_w]
                                        rfl
                                      refine one_ (i := 9) (N := some 45) #[true, true, true, true, true, true, true, true, true, true, true, true, true, true, true, true, false, false, true, false] rfl rfl (one_of HT_.out (by kernel_rfl)) (by decide) (fun K hK => ?_)
                                      refine goes_ Try.func30 (by kernel_rfl) rfl #[.slice A44 y213.length c44] (by rfl) rfl rfl (by (try simp only [List.map_toArray, List.map_cons, List.map_nil]); first | done | rfl | (simp only [List.length_drop, List.length_take]; rfl)) ?_
                                      with_reducible refine (script_signed.calls _ _ y213 t218 _ ?side1 ?side2 A26.out).mono ?_
                                      (case side1 => repeat (first | exact (Kd.V_reads' HO217.out).2.2 | (with_reducible refine Kd.C_alloc ?_ _) | (with_reducible refine Kd.C_drewN ?_ _) | (with_reducible refine Kd.C_drew ?_)))
                                      (case side2 => exact (Kd.V_reads' HO217.out).2.1)
                                      rintro e w' ⟨rfl, ⟨nd, rfl⟩⟩
                                      refine ⟨_, rfl, ?_⟩
                                      refine hK.out _ _ ⟨hHeld.1, hHeld.2⟩ (fun hHeld => ?_)
                                      clear hK K
                                      refine norm_ (a' := ?_) ?_ ?_
                                      rotate_left
                                      · show Act.put _ (some 45) _ = _
                                        simp only [Act.put, List.setIfInBounds_toArray, List.set_cons_zero, List.set_cons_succ, i64_w, i32_w]
                                        rfl
                                      refine one_ (i := 16) (N := some 52) #[true, true, true, true, true, true, true, true, true, true, true, true, true, true, true, true, true, false, true, false] rfl rfl (one_of HT_.out (by kernel_rfl)) (by decide) (fun K hK => ?_)
                                      refine goes_ Try.func24 (by kernel_rfl) rfl #[.slice A41 y220.length c41] (by rfl) rfl rfl (by (try simp only [List.map_toArray, List.map_cons, List.map_nil]); first | done | rfl | (simp only [List.length_drop, List.length_take]; rfl)) ?_
                                      with_reducible refine (bytes_Clone.calls _ _ y220 t225 _ ?side1 ?side2 A30.out).mono ?_
                                      (case side1 => repeat (first | exact (Kd.V_reads' HO224.out).2.2 | (with_reducible refine Kd.C_alloc ?_ _) | (with_reducible refine Kd.C_drewN ?_ _) | (with_reducible refine Kd.C_drew ?_)))
                                      (case side2 => exact (Kd.V_reads' HO224.out).2.1)
                                      rintro e w47 ⟨v226, rfl, ho0, hb⟩
                                      have HS0_ := (hb.cell (World.block_lt_of_cell? _ _ (hHeld.1))).trans (hHeld.1)
                                      have HS1_ := (hb.cell (World.block_lt_of_cell? _ _ (hHeld.2))).trans (hHeld.2)
                                      refine ⟨_, rfl, ?_⟩
                                      have n0_ := Aside0.mk (Kd.V_elder' (by (with_reducible repeat (first | apply Kd.V_alloc | apply Kd.V_drewN | apply Kd.V_drew)); exact HO0.out) (Kd.R_base ho0) hb)
                                      have n1_ := Aside0.mk (Kd.V_elder' (by (with_reducible repeat (first | apply Kd.V_alloc | apply Kd.V_drewN | apply Kd.V_drew)); exact HO199.out) (Kd.R_base ho0) hb)
                                      have n2_ := Aside0.mk (Kd.V_elder' (by (with_reducible repeat (first | apply Kd.V_alloc | apply Kd.V_drewN | apply Kd.V_drew)); exact HO205.out) (Kd.R_base ho0) hb)
                                      have n3_ := Aside0.mk (Kd.V_elder' (by (with_reducible repeat (first | apply Kd.V_alloc | apply Kd.V_drewN | apply Kd.V_drew)); exact HO211.out) (Kd.R_base ho0) hb)
                                      have n4_ := Aside0.mk (Kd.V_elder' (by (with_reducible repeat (first | apply Kd.V_alloc | apply Kd.V_drewN | apply Kd.V_drew)); exact HO217.out) (Kd.R_base ho0) hb)
                                      have n5_ := Aside0.mk (Kd.V_elder' (by (with_reducible repeat (first | apply Kd.V_alloc | apply Kd.V_drewN | apply Kd.V_drew)); exact HO224.out) (Kd.R_base ho0) hb)
                                      have n6_ := Aside0.mk (Kd.R_lower (Kd.R_newM (M := fun k_ => (w.heap.size ≤ k_)) ho0 (below_size (by repeat (first | (with_reducible first | exact HB.out | apply below_alloc | apply pw_below_drewN | apply below_drew1 | refine below_set ?_ GE192.out | refine below_set ?_ GE228.out) | exact HB.out))) (fun k_ h_ => h_)) (below_size (by repeat (first | (with_reducible first | exact HB.out | apply below_alloc | apply pw_below_drewN | apply below_drew1 | refine below_set ?_ GE192.out | refine below_set ?_ GE228.out) | exact HB.out))))
                                      have n7_ := Aside0.mk (blk_below (g := gb192) (o := .cells #[.int .i64 0, .int .i64 0, .int .i64 0, .int .u8 0, .int .i64 0, .int .u16 0, .int .u8 0, .int .u8 0, .int .u8 0, .int .u8 0, .slice none 0 0] 44 (0, 0)) (by (with_reducible repeat (first | refine blk_drewN ?_ _ | refine blk_drew ?_ | refine blk_alloc ?_ _)); exact BK192.out) hb)
                                      have n8_ := Aside0.mk (blk_below (g := gb228) (o := .cells #[.int .i64 0, .int .i64 0, .int .i64 0, .int .u8 0, .int .i64 0, .int .u16 0, .int .u8 0, .int .u8 0, .int .u8 0, .int .u8 0, .slice none 0 0] 44 (0, 0)) (by (with_reducible repeat (first | refine blk_drewN ?_ _ | refine blk_drew ?_ | refine blk_alloc ?_ _)); exact BK228.out) hb)
                                      have n9_ := Aside0.mk (below_step (by repeat (first | (with_reducible first | exact HB.out | apply below_alloc | apply pw_below_drewN | apply below_drew1 | refine below_set ?_ GE192.out | refine below_set ?_ GE228.out) | exact HB.out)) hb)
                                      clear HO0
                                      clear HO199
                                      clear HO205
                                      clear HO211
                                      clear HO217
                                      clear HO224
                                      clear BK192
                                      clear BK228
                                      clear HB
                                      have HO0 := n0_
                                      have HO199 := n1_
                                      have HO205 := n2_
                                      have HO211 := n3_
                                      have HO217 := n4_
                                      have HO224 := n5_
                                      have HO227 := n6_
                                      have BK192 := n7_
                                      have BK228 := n8_
                                      have HB := n9_
                                      clear n0_ n1_ n2_ n3_ n4_ n5_ n6_ n7_ n8_ n9_
                                      (try clear hb)
                                      (try clear hb2)
                                      (try clear hk)
                                      (try clear hi)
                                      (try clear ho0)
                                      obtain ⟨Ao48, co48, eo48⟩ := Kd.R_slice HO227.out
                                      (first | subst eo48 | (injection eo48 with f1_ f2_ f3_; have f4_ := f1_.symm; have f5_ := f3_.symm; clear f1_ f2_ f3_; subst f4_; subst f5_))
                                      refine hK.out _ _ ⟨HS0_, HS1_⟩ (fun hHeld => ?_)
                                      clear hK K
                                      refine norm_ (a' := ?_) ?_ ?_
                                      rotate_left
                                      · show Act.put _ (some 52) _ = _
                                        simp only [Act.put, List.setIfInBounds_toArray, List.set_cons_zero, List.set_cons_succ, i64_w, i32_w]
                                        rfl
                                      refine pure_ (i := 17) (N := some 53) (v := ?_) (a' := ?_) #[true, true, true, true, true, true, true, true, true, true, true, true, true, true, true, true, true, true, true, false] rfl rfl (any_of HT_.out (by kernel_rfl)) (fun _ _ _ h => h) (Or.inl ⟨by rfl, ?_⟩) ?_ ?_
                                      rotate_left
                                      · intro w'
                                        go_simp
                                        with_reducible rfl
                                      rotate_left
                                      · simp only [Act.put, List.setIfInBounds_toArray, List.set_cons_zero, List.set_cons_succ, i64_w, i32_w]
                                        rfl
                                      exact norm_ (by simp only [putAll, Act.put, List.setIfInBounds_toArray, List.set_cons_zero, List.set_cons_succ]) (hCont (.slice Ao48 t225.length co48, gb228) _ ⟨hHeld, (by (with_reducible repeat (first | apply Kd.V_alloc | apply Kd.V_drewN | apply Kd.V_drew)); exact Kd.V_mono HO0.out (fun _ hk => ⟨hk.1.1.1, ⟨hk.2, ⟨hk.1.1.2, hk.1.2⟩⟩⟩)), (by (with_reducible repeat (first | apply Kd.V_alloc | apply Kd.V_drewN | apply Kd.V_drew)); exact Kd.V_mono HO199.out (fun _ hk => ⟨hk.1.1.1, ⟨hk.2, ⟨hk.1.1.2, hk.1.2⟩⟩⟩)), (by (with_reducible repeat (first | apply Kd.V_alloc | apply Kd.V_drewN | apply Kd.V_drew)); exact Kd.V_mono HO205.out (fun _ hk => ⟨hk.1.1.1, ⟨hk.2, ⟨hk.1.1.2, hk.1.2⟩⟩⟩)), (by (with_reducible repeat (first | apply Kd.V_alloc | apply Kd.V_drewN | apply Kd.V_drew)); exact Kd.V_mono HO211.out (fun _ hk => ⟨hk.1.1.1, ⟨hk.2, ⟨hk.1.1.2, hk.1.2⟩⟩⟩)), (by (with_reducible repeat (first | apply Kd.V_alloc | apply Kd.V_drewN | apply Kd.V_drew)); exact Kd.V_mono HO217.out (fun _ hk => ⟨hk.1.1.1, ⟨hk.2, ⟨hk.1.1.2, hk.1.2⟩⟩⟩)), (by (with_reducible repeat (first | apply Kd.V_alloc | apply Kd.V_drewN | apply Kd.V_drew)); exact Kd.V_mono HO224.out (fun _ hk => ⟨hk.1.1.1, ⟨hk.2, ⟨hk.1.1.2, hk.1.2⟩⟩⟩)), (by (with_reducible repeat (first | apply Kd.R_alloc | apply Kd.R_drewN | apply Kd.R_drew)); exact Kd.R_mono HO227.out (fun _ hk => hk.1)), (by (with_reducible repeat (first | refine blk_drewN ?_ _ | refine blk_drew ?_ | refine blk_alloc ?_ _)); exact BK192.out), (by (with_reducible repeat (first | refine blk_drewN ?_ _ | refine blk_drew ?_ | refine blk_alloc ?_ _)); exact BK228.out), GW228.out, GE228.out, NB192_228.out, NB228_192.out, (by repeat (first | (with_reducible first | exact HB.out | apply below_alloc | apply pw_below_drewN | apply below_drew1 | refine below_set ?_ GE192.out | refine below_set ?_ GE228.out) | exact HB.out))⟩)
                                  · skip
                                    refine box_step ?hg (N := 7) ?hd (cs := #[.int .i64 0, .int .i64 0, .int .i64 0, .int .u8 0, .int .i64 0, .int .u16 0, .int .u8 0, .int .u8 0, .int .u8 0, .int .u8 0, .slice none 0 0]) (t := 44) ?hr ?_; (case hd => rfl); (case hg => rfl); (case hr => first | (go_simp; done) | (go_simp; rfl))
                                    intro gb228 hg w46 hbox hb
                                    have HS0_ := (hb.cell (World.block_lt_of_cell? _ _ (hHeld.1))).trans (hHeld.1)
                                    have HS1_ := (hb.cell (World.block_lt_of_cell? _ _ (hHeld.2))).trans (hHeld.2)
                                    have n0_ := Aside0.mk (Kd.V_below (Kd.V_elderB (by (with_reducible repeat (first | apply Kd.V_alloc | apply Kd.V_drewN | apply Kd.V_drew)); exact HO0.out) gb228 (Nat.le_of_eq hg.symm)) hb)
                                    have n1_ := Aside0.mk (Kd.V_below (Kd.V_elderB (by (with_reducible repeat (first | apply Kd.V_alloc | apply Kd.V_drewN | apply Kd.V_drew)); exact HO199.out) gb228 (Nat.le_of_eq hg.symm)) hb)
                                    have n2_ := Aside0.mk (Kd.V_below (Kd.V_elderB (by (with_reducible repeat (first | apply Kd.V_alloc | apply Kd.V_drewN | apply Kd.V_drew)); exact HO205.out) gb228 (Nat.le_of_eq hg.symm)) hb)
                                    have n3_ := Aside0.mk (Kd.V_below (Kd.V_elderB (by (with_reducible repeat (first | apply Kd.V_alloc | apply Kd.V_drewN | apply Kd.V_drew)); exact HO211.out) gb228 (Nat.le_of_eq hg.symm)) hb)
                                    have n4_ := Aside0.mk (Kd.V_below (Kd.V_elderB (by (with_reducible repeat (first | apply Kd.V_alloc | apply Kd.V_drewN | apply Kd.V_drew)); exact HO217.out) gb228 (Nat.le_of_eq hg.symm)) hb)
                                    have n5_ := Aside0.mk (Kd.V_below (Kd.V_elderB (by (with_reducible repeat (first | apply Kd.V_alloc | apply Kd.V_drewN | apply Kd.V_drew)); exact HO224.out) gb228 (Nat.le_of_eq hg.symm)) hb)
                                    have n6_ := Aside0.mk (blk_below (g := gb192) (o := .cells #[.int .i64 0, .int .i64 0, .int .i64 0, .int .u8 0, .int .i64 0, .int .u16 0, .int .u8 0, .int .u8 0, .int .u8 0, .int .u8 0, .slice none 0 0] 44 (0, 0)) (by (with_reducible repeat (first | refine blk_drewN ?_ _ | refine blk_drew ?_ | refine blk_alloc ?_ _)); exact BK192.out) hb)
                                    have n7_ := Aside0.mk (below_step (by repeat (first | (with_reducible first | exact HB.out | apply below_alloc | apply pw_below_drewN | apply below_drew1 | refine below_set ?_ GE192.out) | exact HB.out)) hb)
                                    have n8_ := Aside0.mk (hbox)
                                    have n9_ := Aside0.mk ((by rw [hg]; exact (below_size (by repeat (first | (with_reducible first | exact HB.out | apply below_alloc | apply pw_below_drewN | apply below_drew1 | refine below_set ?_ GE192.out) | exact HB.out))) : w.heap.size ≤ gb228))
                                    have n10_ := Aside0.mk ((by rw [hg]; exact (below_size (by repeat (first | (with_reducible first | exact HB.out | apply below_alloc | apply pw_below_drewN | apply below_drew1 | refine below_set ?_ GE192.out) | exact HB.out))) : w.heap.size ≤ gb228))
                                    have n11_ := Aside0.mk ((by rw [hg]; exact Nat.ne_of_lt (blk_lt (g := gb192) (o := .cells #[.int .i64 0, .int .i64 0, .int .i64 0, .int .u8 0, .int .i64 0, .int .u16 0, .int .u8 0, .int .u8 0, .int .u8 0, .int .u8 0, .slice none 0 0] 44 (0, 0)) (by (with_reducible repeat (first | refine blk_drewN ?_ _ | refine blk_drew ?_ | refine blk_alloc ?_ _)); exact BK192.out)) : gb192 ≠ gb228))
                                    have n12_ := Aside0.mk ((by rw [hg]; exact Nat.ne_of_gt (blk_lt (g := gb192) (o := .cells #[.int .i64 0, .int .i64 0, .int .i64 0, .int .u8 0, .int .i64 0, .int .u16 0, .int .u8 0, .int .u8 0, .int .u8 0, .int .u8 0, .slice none 0 0] 44 (0, 0)) (by (with_reducible repeat (first | refine blk_drewN ?_ _ | refine blk_drew ?_ | refine blk_alloc ?_ _)); exact BK192.out)) : gb228 ≠ gb192))
                                    clear HO0
                                    clear HO199
                                    clear HO205
                                    clear HO211
                                    clear HO217
                                    clear HO224
                                    clear BK192
                                    clear HB
                                    have HO0 := n0_
                                    have HO199 := n1_
                                    have HO205 := n2_
                                    have HO211 := n3_
                                    have HO217 := n4_
                                    have HO224 := n5_
                                    have BK192 := n6_
                                    have HB := n7_
                                    have BK228 := n8_
                                    have GW228 := n9_
                                    have GE228 := n10_
                                    have NB192_228 := n11_
                                    have NB228_192 := n12_
                                    clear n0_ n1_ n2_ n3_ n4_ n5_ n6_ n7_ n8_ n9_ n10_ n11_ n12_
                                    clear hb hbox hg
                                    refine hK.out _ _ ⟨HS0_, HS1_⟩ (fun hHeld => ?_)
                                    clear hK K
                                    refine norm_ (a' := ?_) ?_ ?_
                                    rotate_left
                                    · show Act.put _ (some 7) _ = _
                                      simp only [Act.put, List.setIfInBounds_toArray, List.set_cons_zero, List.set_cons_succ, i64_w, i32_w]
                                      rfl
                                    refine one_ (i := 6) (N := some 42) #[true, true, true, true, true, true, true, true, true, false, true, true, true, true, true, true, false, false, true, false] rfl rfl (one_of HT_.out (by kernel_rfl)) (by decide) (fun K hK => ?_)
                                    refine goes_ Try.func30 (by kernel_rfl) rfl #[.slice A43 y207.length c43] (by rfl) rfl rfl (by (try simp only [List.map_toArray, List.map_cons, List.map_nil]); first | done | rfl | (simp only [List.length_drop, List.length_take]; rfl)) ?_
                                    with_reducible refine (script_signed.calls _ _ y207 t212 _ ?side1 ?side2 A24.out).mono ?_
                                    (case side1 => repeat (first | exact (Kd.V_reads' HO211.out).2.2 | (with_reducible refine Kd.C_alloc ?_ _) | (with_reducible refine Kd.C_drewN ?_ _) | (with_reducible refine Kd.C_drew ?_)))
                                    (case side2 => exact (Kd.V_reads' HO211.out).2.1)
                                    rintro e w' ⟨rfl, ⟨nd, rfl⟩⟩
                                    refine ⟨_, rfl, ?_⟩
                                    refine hK.out _ _ ⟨hHeld.1, hHeld.2⟩ (fun hHeld => ?_)
                                    clear hK K
                                    refine norm_ (a' := ?_) ?_ ?_
                                    rotate_left
                                    · show Act.put _ (some 42) _ = _
                                      simp only [Act.put, List.setIfInBounds_toArray, List.set_cons_zero, List.set_cons_succ, i64_w, i32_w]
                                      rfl
                                    refine one_ (i := 9) (N := some 45) #[true, true, true, true, true, true, true, true, true, true, true, true, true, true, true, true, false, false, true, false] rfl rfl (one_of HT_.out (by kernel_rfl)) (by decide) (fun K hK => ?_)
                                    refine goes_ Try.func30 (by kernel_rfl) rfl #[.slice A44 y213.length c44] (by rfl) rfl rfl (by (try simp only [List.map_toArray, List.map_cons, List.map_nil]); first | done | rfl | (simp only [List.length_drop, List.length_take]; rfl)) ?_
                                    with_reducible refine (script_signed.calls _ _ y213 t218 _ ?side1 ?side2 A26.out).mono ?_
                                    (case side1 => repeat (first | exact (Kd.V_reads' HO217.out).2.2 | (with_reducible refine Kd.C_alloc ?_ _) | (with_reducible refine Kd.C_drewN ?_ _) | (with_reducible refine Kd.C_drew ?_)))
                                    (case side2 => exact (Kd.V_reads' HO217.out).2.1)
                                    rintro e w' ⟨rfl, ⟨nd, rfl⟩⟩
                                    refine ⟨_, rfl, ?_⟩
                                    refine hK.out _ _ ⟨hHeld.1, hHeld.2⟩ (fun hHeld => ?_)
                                    clear hK K
                                    refine norm_ (a' := ?_) ?_ ?_
                                    rotate_left
                                    · show Act.put _ (some 45) _ = _
                                      simp only [Act.put, List.setIfInBounds_toArray, List.set_cons_zero, List.set_cons_succ, i64_w, i32_w]
                                      rfl
                                    refine one_ (i := 16) (N := some 52) #[true, true, true, true, true, true, true, true, true, true, true, true, true, true, true, true, true, false, true, false] rfl rfl (one_of HT_.out (by kernel_rfl)) (by decide) (fun K hK => ?_)
                                    refine goes_ Try.func24 (by kernel_rfl) rfl #[.slice A41 y220.length c41] (by rfl) rfl rfl (by (try simp only [List.map_toArray, List.map_cons, List.map_nil]); first | done | rfl | (simp only [List.length_drop, List.length_take]; rfl)) ?_
                                    with_reducible refine (bytes_Clone.calls _ _ y220 t225 _ ?side1 ?side2 A30.out).mono ?_
                                    (case side1 => repeat (first | exact (Kd.V_reads' HO224.out).2.2 | (with_reducible refine Kd.C_alloc ?_ _) | (with_reducible refine Kd.C_drewN ?_ _) | (with_reducible refine Kd.C_drew ?_)))
                                    (case side2 => exact (Kd.V_reads' HO224.out).2.1)
                                    rintro e w47 ⟨v226, rfl, ho0, hb⟩
                                    have HS0_ := (hb.cell (World.block_lt_of_cell? _ _ (hHeld.1))).trans (hHeld.1)
                                    have HS1_ := (hb.cell (World.block_lt_of_cell? _ _ (hHeld.2))).trans (hHeld.2)
                                    refine ⟨_, rfl, ?_⟩
                                    have n0_ := Aside0.mk (Kd.V_elder' (by (with_reducible repeat (first | apply Kd.V_alloc | apply Kd.V_drewN | apply Kd.V_drew)); exact HO0.out) (Kd.R_base ho0) hb)
                                    have n1_ := Aside0.mk (Kd.V_elder' (by (with_reducible repeat (first | apply Kd.V_alloc | apply Kd.V_drewN | apply Kd.V_drew)); exact HO199.out) (Kd.R_base ho0) hb)
                                    have n2_ := Aside0.mk (Kd.V_elder' (by (with_reducible repeat (first | apply Kd.V_alloc | apply Kd.V_drewN | apply Kd.V_drew)); exact HO205.out) (Kd.R_base ho0) hb)
                                    have n3_ := Aside0.mk (Kd.V_elder' (by (with_reducible repeat (first | apply Kd.V_alloc | apply Kd.V_drewN | apply Kd.V_drew)); exact HO211.out) (Kd.R_base ho0) hb)
                                    have n4_ := Aside0.mk (Kd.V_elder' (by (with_reducible repeat (first | apply Kd.V_alloc | apply Kd.V_drewN | apply Kd.V_drew)); exact HO217.out) (Kd.R_base ho0) hb)
                                    have n5_ := Aside0.mk (Kd.V_elder' (by (with_reducible repeat (first | apply Kd.V_alloc | apply Kd.V_drewN | apply Kd.V_drew)); exact HO224.out) (Kd.R_base ho0) hb)
                                    have n6_ := Aside0.mk (Kd.R_lower (Kd.R_newM (M := fun k_ => (w.heap.size ≤ k_)) ho0 (below_size (by repeat (first | (with_reducible first | exact HB.out | apply below_alloc | apply pw_below_drewN | apply below_drew1 | refine below_set ?_ GE192.out | refine below_set ?_ GE228.out) | exact HB.out))) (fun k_ h_ => h_)) (below_size (by repeat (first | (with_reducible first | exact HB.out | apply below_alloc | apply pw_below_drewN | apply below_drew1 | refine below_set ?_ GE192.out | refine below_set ?_ GE228.out) | exact HB.out))))
                                    have n7_ := Aside0.mk (blk_below (g := gb192) (o := .cells #[.int .i64 0, .int .i64 0, .int .i64 0, .int .u8 0, .int .i64 0, .int .u16 0, .int .u8 0, .int .u8 0, .int .u8 0, .int .u8 0, .slice none 0 0] 44 (0, 0)) (by (with_reducible repeat (first | refine blk_drewN ?_ _ | refine blk_drew ?_ | refine blk_alloc ?_ _)); exact BK192.out) hb)
                                    have n8_ := Aside0.mk (blk_below (g := gb228) (o := .cells #[.int .i64 0, .int .i64 0, .int .i64 0, .int .u8 0, .int .i64 0, .int .u16 0, .int .u8 0, .int .u8 0, .int .u8 0, .int .u8 0, .slice none 0 0] 44 (0, 0)) (by (with_reducible repeat (first | refine blk_drewN ?_ _ | refine blk_drew ?_ | refine blk_alloc ?_ _)); exact BK228.out) hb)
                                    have n9_ := Aside0.mk (below_step (by repeat (first | (with_reducible first | exact HB.out | apply below_alloc | apply pw_below_drewN | apply below_drew1 | refine below_set ?_ GE192.out | refine below_set ?_ GE228.out) | exact HB.out)) hb)
                                    clear HO0
                                    clear HO199
                                    clear HO205
                                    clear HO211
                                    clear HO217
                                    clear HO224
                                    clear BK192
                                    clear BK228
                                    clear HB
                                    have HO0 := n0_
                                    have HO199 := n1_
                                    have HO205 := n2_
                                    have HO211 := n3_
                                    have HO217 := n4_
                                    have HO224 := n5_
                                    have HO227 := n6_
                                    have BK192 := n7_
                                    have BK228 := n8_
                                    have HB := n9_
                                    clear n0_ n1_ n2_ n3_ n4_ n5_ n6_ n7_ n8_ n9_
                                    (try clear hb)
                                    (try clear hb2)
                                    (try clear hk)
                                    (try clear hi)
                                    (try clear ho0)
                                    obtain ⟨Ao48, co48, eo48⟩ := Kd.R_slice HO227.out
                                    (first | subst eo48 | (injection eo48 with f1_ f2_ f3_; have f4_ := f1_.symm; have f5_ := f3_.symm; clear f1_ f2_ f3_; subst f4_; subst f5_))
                                    refine hK.out _ _ ⟨HS0_, HS1_⟩ (fun hHeld => ?_)
                                    clear hK K
                                    refine norm_ (a' := ?_) ?_ ?_
                                    rotate_left
                                    · show Act.put _ (some 52) _ = _
                                      simp only [Act.put, List.setIfInBounds_toArray, List.set_cons_zero, List.set_cons_succ, i64_w, i32_w]
                                      rfl
                                    refine pure_ (i := 17) (N := some 53) (v := ?_) (a' := ?_) #[true, true, true, true, true, true, true, true, true, true, true, true, true, true, true, true, true, true, true, false] rfl rfl (any_of HT_.out (by kernel_rfl)) (fun _ _ _ h => h) (Or.inl ⟨by rfl, ?_⟩) ?_ ?_
                                    rotate_left
                                    · intro w'
                                      go_simp
                                      with_reducible rfl
                                    rotate_left
                                    · simp only [Act.put, List.setIfInBounds_toArray, List.set_cons_zero, List.set_cons_succ, i64_w, i32_w]
                                      rfl
                                    exact norm_ (by simp only [putAll, Act.put, List.setIfInBounds_toArray, List.set_cons_zero, List.set_cons_succ]) (hCont (.slice Ao48 t225.length co48, gb228) _ ⟨hHeld, (by (with_reducible repeat (first | apply Kd.V_alloc | apply Kd.V_drewN | apply Kd.V_drew)); exact Kd.V_mono HO0.out (fun _ hk => ⟨hk.1.1.1, ⟨hk.2, ⟨hk.1.1.2, hk.1.2⟩⟩⟩)), (by (with_reducible repeat (first | apply Kd.V_alloc | apply Kd.V_drewN | apply Kd.V_drew)); exact Kd.V_mono HO199.out (fun _ hk => ⟨hk.1.1.1, ⟨hk.2, ⟨hk.1.1.2, hk.1.2⟩⟩⟩)), (by (with_reducible repeat (first | apply Kd.V_alloc | apply Kd.V_drewN | apply Kd.V_drew)); exact Kd.V_mono HO205.out (fun _ hk => ⟨hk.1.1.1, ⟨hk.2, ⟨hk.1.1.2, hk.1.2⟩⟩⟩)), (by (with_reducible repeat (first | apply Kd.V_alloc | apply Kd.V_drewN | apply Kd.V_drew)); exact Kd.V_mono HO211.out (fun _ hk => ⟨hk.1.1.1, ⟨hk.2, ⟨hk.1.1.2, hk.1.2⟩⟩⟩)), (by (with_reducible repeat (first | apply Kd.V_alloc | apply Kd.V_drewN | apply Kd.V_drew)); exact Kd.V_mono HO217.out (fun _ hk => ⟨hk.1.1.1, ⟨hk.2, ⟨hk.1.1.2, hk.1.2⟩⟩⟩)), (by (with_reducible repeat (first | apply Kd.V_alloc | apply Kd.V_drewN | apply Kd.V_drew)); exact Kd.V_mono HO224.out (fun _ hk => ⟨hk.1.1.1, ⟨hk.2, ⟨hk.1.1.2, hk.1.2⟩⟩⟩)), (by (with_reducible repeat (first | apply Kd.R_alloc | apply Kd.R_drewN | apply Kd.R_drew)); exact Kd.R_mono HO227.out (fun _ hk => hk.1)), (by (with_reducible repeat (first | refine blk_drewN ?_ _ | refine blk_drew ?_ | refine blk_alloc ?_ _)); exact BK192.out), (by (with_reducible repeat (first | refine blk_drewN ?_ _ | refine blk_drew ?_ | refine blk_alloc ?_ _)); exact BK228.out), GW228.out, GE228.out, NB192_228.out, NB228_192.out, (by repeat (first | (with_reducible first | exact HB.out | apply below_alloc | apply pw_below_drewN | apply below_drew1 | refine below_set ?_ GE192.out | refine below_set ?_ GE228.out) | exact HB.out))⟩)
                                rintro ⟨v226, gb228⟩ w49 ⟨hS_, h0_, h1_, h2_, h3_, h4_, h5_, h6_, h7_, h8_, h9_, h10_, h11_, h12_, h13_⟩
                                have n0_ : Aside0 (Kd.V (Kd.int .u8) 5 w49 w.heap.size (fun k_ => (P0_ k_ ∨ w.heap.size ≤ k_) ∧ some k_ ≠ (v226 : Value).ownBlock ∧ k_ ≠ gb192 ∧ k_ ≠ gb228) (.slice (some ad193) l0.length c0) l0) := ⟨h0_⟩
                                have n1_ : Aside0 (Kd.V (Kd.int .u8) 5 w49 w.heap.size (fun k_ => (P0_ k_ ∨ w.heap.size ≤ k_) ∧ some k_ ≠ (v226 : Value).ownBlock ∧ k_ ≠ gb192 ∧ k_ ≠ gb228) (.slice A40 y195.length c40) y195) := ⟨h1_⟩
                                have n2_ : Aside0 (Kd.V (Kd.int .u8) 5 w49 w.heap.size (fun k_ => (P0_ k_ ∨ w.heap.size ≤ k_) ∧ some k_ ≠ (v226 : Value).ownBlock ∧ k_ ≠ gb192 ∧ k_ ≠ gb228) (.slice A41 y201.length c41) y201) := ⟨h2_⟩
                                have n3_ : Aside0 (Kd.V (Kd.int .u8) 5 w49 w.heap.size (fun k_ => (P0_ k_ ∨ w.heap.size ≤ k_) ∧ some k_ ≠ (v226 : Value).ownBlock ∧ k_ ≠ gb192 ∧ k_ ≠ gb228) (.slice A43 y207.length c43) y207) := ⟨h3_⟩
                                have n4_ : Aside0 (Kd.V (Kd.int .u8) 5 w49 w.heap.size (fun k_ => (P0_ k_ ∨ w.heap.size ≤ k_) ∧ some k_ ≠ (v226 : Value).ownBlock ∧ k_ ≠ gb192 ∧ k_ ≠ gb228) (.slice A44 y213.length c44) y213) := ⟨h4_⟩
                                have n5_ : Aside0 (Kd.V (Kd.int .u8) 5 w49 w.heap.size (fun k_ => (P0_ k_ ∨ w.heap.size ≤ k_) ∧ some k_ ≠ (v226 : Value).ownBlock ∧ k_ ≠ gb192 ∧ k_ ≠ gb228) (.slice A41 y220.length c41) y220) := ⟨h5_⟩
                                have n6_ : Aside0 (Kd.R (Kd.int .u8) 5 w49 w.heap.size (fun k_ => (w.heap.size ≤ k_)) v226 t225) := ⟨h6_⟩
                                have n7_ : Aside0 (w49.heap[gb192]? = some (.cells #[.int .i64 0, .int .i64 0, .int .i64 0, .int .u8 0, .int .i64 0, .int .u16 0, .int .u8 0, .int .u8 0, .int .u8 0, .int .u8 0, .slice none 0 0] 44 (0, 0))) := ⟨h7_⟩
                                have n8_ : Aside0 (w49.heap[gb228]? = some (.cells #[.int .i64 0, .int .i64 0, .int .i64 0, .int .u8 0, .int .i64 0, .int .u16 0, .int .u8 0, .int .u8 0, .int .u8 0, .int .u8 0, .slice none 0 0] 44 (0, 0))) := ⟨h8_⟩
                                have n9_ : Aside0 (w.heap.size ≤ gb228) := ⟨h9_⟩
                                have n10_ : Aside0 (w.heap.size ≤ gb228) := ⟨h10_⟩
                                have n11_ : Aside0 (gb192 ≠ gb228) := ⟨h11_⟩
                                have n12_ : Aside0 (gb228 ≠ gb192) := ⟨h12_⟩
                                have n13_ : Aside0 (Below w.heap.size w w49) := ⟨h13_⟩
                                clear HO0
                                clear HO199
                                clear HO205
                                clear BK192
                                clear HB
                                clear h0_ h1_ h2_ h3_ h4_ h5_ h6_ h7_ h8_ h9_ h10_ h11_ h12_ h13_
                                have HO0 := n0_
                                have HO199 := n1_
                                have HO205 := n2_
                                have HO211 := n3_
                                have HO217 := n4_
                                have HO224 := n5_
                                have HO227 := n6_
                                have BK192 := n7_
                                have BK228 := n8_
                                have GW228 := n9_
                                have GE228 := n10_
                                have NB192_228 := n11_
                                have NB228_192 := n12_
                                have HB := n13_
                                clear n0_ n1_ n2_ n3_ n4_ n5_ n6_ n7_ n8_ n9_ n10_ n11_ n12_ n13_
                                have hHeld : w49.cell? ad193 = some (.int .u8 (rd l0 0)) ∧ w49.cell? ⟨ad193.block, ad193.off + 5, none⟩ = some (.int .u8 (rd l0 5)) := hS_
                                obtain ⟨Ao50, co50, eo50⟩ := Kd.R_slice HO227.out
                                (first | subst eo50 | (injection eo50 with f1_ f2_ f3_; have f4_ := f1_.symm; have f5_ := f3_.symm; clear f1_ f2_ f3_; subst f4_; subst f5_))
                                refine norm_ (a' := ?_) ?_ ?_
                                rotate_left
                                · simp only [putAll, Act.put, List.setIfInBounds_toArray, List.set_cons_zero, List.set_cons_succ]
                                  rfl
                                refine one_ (i := 19) (N := none) #[true, true, true, true, true, true, true, true, true, true, true, true, true, true, true, true, true, true, true, true] rfl rfl (one_of HT_.out (by kernel_rfl)) (by decide) (fun K hK => ?_)
                                have hs51 : w49.cell? ⟨gb228, 0, none⟩ = some (.int .i64 0) := (blk_cell BK228.out 0).trans rfl
                                have hfs51 := blk_frozen BK228.out 0
                                have hns51_0 := NB192_228.out
                                have hms51_0 := NB228_192.out
                                have hs52 : w49.cell? ⟨gb228, 1, none⟩ = some (.int .i64 0) := (blk_cell BK228.out 1).trans rfl
                                have hfs52 := blk_frozen BK228.out 1
                                have hns52_0 := NB192_228.out
                                have hms52_0 := NB228_192.out
                                have hs53 : w49.cell? ⟨gb228, 2, none⟩ = some (.int .i64 0) := (blk_cell BK228.out 2).trans rfl
                                have hfs53 := blk_frozen BK228.out 2
                                have hns53_0 := NB192_228.out
                                have hms53_0 := NB228_192.out
                                have hs54 : w49.cell? ⟨gb228, 3, none⟩ = some (.int .u8 0) := (blk_cell BK228.out 3).trans rfl
                                have hfs54 := blk_frozen BK228.out 3
                                have hns54_0 := NB192_228.out
                                have hms54_0 := NB228_192.out
                                have hs55 : w49.cell? ⟨gb228, 4, none⟩ = some (.int .i64 0) := (blk_cell BK228.out 4).trans rfl
                                have hfs55 := blk_frozen BK228.out 4
                                have hns55_0 := NB192_228.out
                                have hms55_0 := NB228_192.out
                                have hs56 : w49.cell? ⟨gb228, 5, none⟩ = some (.int .u16 0) := (blk_cell BK228.out 5).trans rfl
                                have hfs56 := blk_frozen BK228.out 5
                                have hns56_0 := NB192_228.out
                                have hms56_0 := NB228_192.out
                                have hs57 : w49.cell? ⟨gb228, 6, none⟩ = some (.int .u8 0) := (blk_cell BK228.out 6).trans rfl
                                have hfs57 := blk_frozen BK228.out 6
                                have hns57_0 := NB192_228.out
                                have hms57_0 := NB228_192.out
                                have hs58 : w49.cell? ⟨gb228, 7, none⟩ = some (.int .u8 0) := (blk_cell BK228.out 7).trans rfl
                                have hfs58 := blk_frozen BK228.out 7
                                have hns58_0 := NB192_228.out
                                have hms58_0 := NB228_192.out
                                have hs59 : w49.cell? ⟨gb228, 8, none⟩ = some (.int .u8 0) := (blk_cell BK228.out 8).trans rfl
                                have hfs59 := blk_frozen BK228.out 8
                                have hns59_0 := NB192_228.out
                                have hms59_0 := NB228_192.out
                                have hs60 : w49.cell? ⟨gb228, 9, none⟩ = some (.int .u8 0) := (blk_cell BK228.out 9).trans rfl
                                have hfs60 := blk_frozen BK228.out 9
                                have hns60_0 := NB192_228.out
                                have hms60_0 := NB228_192.out
                                have hs61 : w49.cell? ⟨gb228, 10, none⟩ = some (.slice none 0 0) := (blk_cell BK228.out 10).trans rfl
                                have hfs61 := blk_frozen BK228.out 10
                                have hns61_0 := NB192_228.out
                                have hms61_0 := NB228_192.out
                                refine skip_ (w1 := ?_) (by rfl) rfl ?_ ?_
                                rotate_left
                                · go_simp
                                  rfl
                                have hne_ : ad193.block ≠ gb228 := apart_new (Kd.V_reads' hs0).2.2 rfl (of_decide_eq_true (by assumption)) GE228.out
                                refine hK.out _ _ (by obtain ⟨z0_, z1_⟩ := hHeld; refine ⟨?_, ?_⟩ <;> (with_reducible repeat (first | assumption | refine far_cells hne_ ?_ _ _ | refine far_cells2 hne_ ?_ _ _))) (fun hHeld => ?_)
                                clear hne_
                                clear hK K
                                refine done_ (done_of HT_.out (by kernel_rfl)) ?_
                                try go_wp2
                                have n0_ : Aside0 (Kd.V (Kd.int .u8) 5 (((((((((((w49.setCell ⟨gb228, 0, none⟩ (.int .i64 (wrap64 (rd l0 0)))).setCell ⟨gb228, 1, none⟩ (.int .i64 t212)).setCell ⟨gb228, 2, none⟩ (.int .i64 t218)).setCell ⟨gb228, 3, none⟩ (.int .u8 (rd l0 5))).setCell ⟨gb228, 4, none⟩ (.int .i64 0)).setCell ⟨gb228, 5, none⟩ (.int .u16 0)).setCell ⟨gb228, 6, none⟩ (.int .u8 0)).setCell ⟨gb228, 7, none⟩ (.int .u8 0)).setCell ⟨gb228, 8, none⟩ (.int .u8 0)).setCell ⟨gb228, 9, none⟩ (.int .u8 0)).setCell ⟨gb228, 10, none⟩ (.slice Ao50 t225.length co50)) w.heap.size (fun k_ => (P0_ k_ ∨ w.heap.size ≤ k_) ∧ some k_ ≠ (.slice Ao50 t225.length co50 : Value).ownBlock ∧ k_ ≠ gb192 ∧ k_ ≠ gb228) (.slice (some ad193) l0.length c0) l0) := ⟨by (with_reducible repeat (first | apply Kd.V_alloc | apply Kd.V_drewN | apply Kd.V_drew)); exact Kd.V_mono (Kd.V_far (p := ⟨gb228, 10, none⟩) (Kd.V_far (p := ⟨gb228, 9, none⟩) (Kd.V_far (p := ⟨gb228, 8, none⟩) (Kd.V_far (p := ⟨gb228, 7, none⟩) (Kd.V_far (p := ⟨gb228, 6, none⟩) (Kd.V_far (p := ⟨gb228, 5, none⟩) (Kd.V_far (p := ⟨gb228, 4, none⟩) (Kd.V_far (p := ⟨gb228, 3, none⟩) (Kd.V_far (p := ⟨gb228, 2, none⟩) (Kd.V_far (p := ⟨gb228, 1, none⟩) (Kd.V_far (p := ⟨gb228, 0, none⟩) (Kd.V_mono HO0.out (fun k_ hk => (⟨hk, hk.2.2.2⟩ : _ ∧ k_ ≠ gb228))) (fun _ hk => hk.2) (.int .i64 (wrap64 (rd l0 0)))) (fun _ hk => hk.2) (.int .i64 t212)) (fun _ hk => hk.2) (.int .i64 t218)) (fun _ hk => hk.2) (.int .u8 (rd l0 5))) (fun _ hk => hk.2) (.int .i64 0)) (fun _ hk => hk.2) (.int .u16 0)) (fun _ hk => hk.2) (.int .u8 0)) (fun _ hk => hk.2) (.int .u8 0)) (fun _ hk => hk.2) (.int .u8 0)) (fun _ hk => hk.2) (.int .u8 0)) (fun _ hk => hk.2) (.slice Ao50 t225.length co50)) (fun _ hk => ⟨hk.1.1, ⟨hk.1.2.1, ⟨hk.1.2.2.1, hk.1.2.2.2⟩⟩⟩)⟩
                                have n1_ : Aside0 (Kd.V (Kd.int .u8) 5 (((((((((((w49.setCell ⟨gb228, 0, none⟩ (.int .i64 (wrap64 (rd l0 0)))).setCell ⟨gb228, 1, none⟩ (.int .i64 t212)).setCell ⟨gb228, 2, none⟩ (.int .i64 t218)).setCell ⟨gb228, 3, none⟩ (.int .u8 (rd l0 5))).setCell ⟨gb228, 4, none⟩ (.int .i64 0)).setCell ⟨gb228, 5, none⟩ (.int .u16 0)).setCell ⟨gb228, 6, none⟩ (.int .u8 0)).setCell ⟨gb228, 7, none⟩ (.int .u8 0)).setCell ⟨gb228, 8, none⟩ (.int .u8 0)).setCell ⟨gb228, 9, none⟩ (.int .u8 0)).setCell ⟨gb228, 10, none⟩ (.slice Ao50 t225.length co50)) w.heap.size (fun k_ => (P0_ k_ ∨ w.heap.size ≤ k_) ∧ some k_ ≠ (.slice Ao50 t225.length co50 : Value).ownBlock ∧ k_ ≠ gb192 ∧ k_ ≠ gb228) (.slice A40 y195.length c40) y195) := ⟨by (with_reducible repeat (first | apply Kd.V_alloc | apply Kd.V_drewN | apply Kd.V_drew)); exact Kd.V_mono (Kd.V_far (p := ⟨gb228, 10, none⟩) (Kd.V_far (p := ⟨gb228, 9, none⟩) (Kd.V_far (p := ⟨gb228, 8, none⟩) (Kd.V_far (p := ⟨gb228, 7, none⟩) (Kd.V_far (p := ⟨gb228, 6, none⟩) (Kd.V_far (p := ⟨gb228, 5, none⟩) (Kd.V_far (p := ⟨gb228, 4, none⟩) (Kd.V_far (p := ⟨gb228, 3, none⟩) (Kd.V_far (p := ⟨gb228, 2, none⟩) (Kd.V_far (p := ⟨gb228, 1, none⟩) (Kd.V_far (p := ⟨gb228, 0, none⟩) (Kd.V_mono HO199.out (fun k_ hk => (⟨hk, hk.2.2.2⟩ : _ ∧ k_ ≠ gb228))) (fun _ hk => hk.2) (.int .i64 (wrap64 (rd l0 0)))) (fun _ hk => hk.2) (.int .i64 t212)) (fun _ hk => hk.2) (.int .i64 t218)) (fun _ hk => hk.2) (.int .u8 (rd l0 5))) (fun _ hk => hk.2) (.int .i64 0)) (fun _ hk => hk.2) (.int .u16 0)) (fun _ hk => hk.2) (.int .u8 0)) (fun _ hk => hk.2) (.int .u8 0)) (fun _ hk => hk.2) (.int .u8 0)) (fun _ hk => hk.2) (.int .u8 0)) (fun _ hk => hk.2) (.slice Ao50 t225.length co50)) (fun _ hk => ⟨hk.1.1, ⟨hk.1.2.1, ⟨hk.1.2.2.1, hk.1.2.2.2⟩⟩⟩)⟩
                                have n2_ : Aside0 (Kd.V (Kd.int .u8) 5 (((((((((((w49.setCell ⟨gb228, 0, none⟩ (.int .i64 (wrap64 (rd l0 0)))).setCell ⟨gb228, 1, none⟩ (.int .i64 t212)).setCell ⟨gb228, 2, none⟩ (.int .i64 t218)).setCell ⟨gb228, 3, none⟩ (.int .u8 (rd l0 5))).setCell ⟨gb228, 4, none⟩ (.int .i64 0)).setCell ⟨gb228, 5, none⟩ (.int .u16 0)).setCell ⟨gb228, 6, none⟩ (.int .u8 0)).setCell ⟨gb228, 7, none⟩ (.int .u8 0)).setCell ⟨gb228, 8, none⟩ (.int .u8 0)).setCell ⟨gb228, 9, none⟩ (.int .u8 0)).setCell ⟨gb228, 10, none⟩ (.slice Ao50 t225.length co50)) w.heap.size (fun k_ => (P0_ k_ ∨ w.heap.size ≤ k_) ∧ some k_ ≠ (.slice Ao50 t225.length co50 : Value).ownBlock ∧ k_ ≠ gb192 ∧ k_ ≠ gb228) (.slice A41 y201.length c41) y201) := ⟨by (with_reducible repeat (first | apply Kd.V_alloc | apply Kd.V_drewN | apply Kd.V_drew)); exact Kd.V_mono (Kd.V_far (p := ⟨gb228, 10, none⟩) (Kd.V_far (p := ⟨gb228, 9, none⟩) (Kd.V_far (p := ⟨gb228, 8, none⟩) (Kd.V_far (p := ⟨gb228, 7, none⟩) (Kd.V_far (p := ⟨gb228, 6, none⟩) (Kd.V_far (p := ⟨gb228, 5, none⟩) (Kd.V_far (p := ⟨gb228, 4, none⟩) (Kd.V_far (p := ⟨gb228, 3, none⟩) (Kd.V_far (p := ⟨gb228, 2, none⟩) (Kd.V_far (p := ⟨gb228, 1, none⟩) (Kd.V_far (p := ⟨gb228, 0, none⟩) (Kd.V_mono HO205.out (fun k_ hk => (⟨hk, hk.2.2.2⟩ : _ ∧ k_ ≠ gb228))) (fun _ hk => hk.2) (.int .i64 (wrap64 (rd l0 0)))) (fun _ hk => hk.2) (.int .i64 t212)) (fun _ hk => hk.2) (.int .i64 t218)) (fun _ hk => hk.2) (.int .u8 (rd l0 5))) (fun _ hk => hk.2) (.int .i64 0)) (fun _ hk => hk.2) (.int .u16 0)) (fun _ hk => hk.2) (.int .u8 0)) (fun _ hk => hk.2) (.int .u8 0)) (fun _ hk => hk.2) (.int .u8 0)) (fun _ hk => hk.2) (.int .u8 0)) (fun _ hk => hk.2) (.slice Ao50 t225.length co50)) (fun _ hk => ⟨hk.1.1, ⟨hk.1.2.1, ⟨hk.1.2.2.1, hk.1.2.2.2⟩⟩⟩)⟩
                                have n3_ : Aside0 (Kd.V (Kd.int .u8) 5 (((((((((((w49.setCell ⟨gb228, 0, none⟩ (.int .i64 (wrap64 (rd l0 0)))).setCell ⟨gb228, 1, none⟩ (.int .i64 t212)).setCell ⟨gb228, 2, none⟩ (.int .i64 t218)).setCell ⟨gb228, 3, none⟩ (.int .u8 (rd l0 5))).setCell ⟨gb228, 4, none⟩ (.int .i64 0)).setCell ⟨gb228, 5, none⟩ (.int .u16 0)).setCell ⟨gb228, 6, none⟩ (.int .u8 0)).setCell ⟨gb228, 7, none⟩ (.int .u8 0)).setCell ⟨gb228, 8, none⟩ (.int .u8 0)).setCell ⟨gb228, 9, none⟩ (.int .u8 0)).setCell ⟨gb228, 10, none⟩ (.slice Ao50 t225.length co50)) w.heap.size (fun k_ => (P0_ k_ ∨ w.heap.size ≤ k_) ∧ some k_ ≠ (.slice Ao50 t225.length co50 : Value).ownBlock ∧ k_ ≠ gb192 ∧ k_ ≠ gb228) (.slice A43 y207.length c43) y207) := ⟨by (with_reducible repeat (first | apply Kd.V_alloc | apply Kd.V_drewN | apply Kd.V_drew)); exact Kd.V_mono (Kd.V_far (p := ⟨gb228, 10, none⟩) (Kd.V_far (p := ⟨gb228, 9, none⟩) (Kd.V_far (p := ⟨gb228, 8, none⟩) (Kd.V_far (p := ⟨gb228, 7, none⟩) (Kd.V_far (p := ⟨gb228, 6, none⟩) (Kd.V_far (p := ⟨gb228, 5, none⟩) (Kd.V_far (p := ⟨gb228, 4, none⟩) (Kd.V_far (p := ⟨gb228, 3, none⟩) (Kd.V_far (p := ⟨gb228, 2, none⟩) (Kd.V_far (p := ⟨gb228, 1, none⟩) (Kd.V_far (p := ⟨gb228, 0, none⟩) (Kd.V_mono HO211.out (fun k_ hk => (⟨hk, hk.2.2.2⟩ : _ ∧ k_ ≠ gb228))) (fun _ hk => hk.2) (.int .i64 (wrap64 (rd l0 0)))) (fun _ hk => hk.2) (.int .i64 t212)) (fun _ hk => hk.2) (.int .i64 t218)) (fun _ hk => hk.2) (.int .u8 (rd l0 5))) (fun _ hk => hk.2) (.int .i64 0)) (fun _ hk => hk.2) (.int .u16 0)) (fun _ hk => hk.2) (.int .u8 0)) (fun _ hk => hk.2) (.int .u8 0)) (fun _ hk => hk.2) (.int .u8 0)) (fun _ hk => hk.2) (.int .u8 0)) (fun _ hk => hk.2) (.slice Ao50 t225.length co50)) (fun _ hk => ⟨hk.1.1, ⟨hk.1.2.1, ⟨hk.1.2.2.1, hk.1.2.2.2⟩⟩⟩)⟩
                                have n4_ : Aside0 (Kd.V (Kd.int .u8) 5 (((((((((((w49.setCell ⟨gb228, 0, none⟩ (.int .i64 (wrap64 (rd l0 0)))).setCell ⟨gb228, 1, none⟩ (.int .i64 t212)).setCell ⟨gb228, 2, none⟩ (.int .i64 t218)).setCell ⟨gb228, 3, none⟩ (.int .u8 (rd l0 5))).setCell ⟨gb228, 4, none⟩ (.int .i64 0)).setCell ⟨gb228, 5, none⟩ (.int .u16 0)).setCell ⟨gb228, 6, none⟩ (.int .u8 0)).setCell ⟨gb228, 7, none⟩ (.int .u8 0)).setCell ⟨gb228, 8, none⟩ (.int .u8 0)).setCell ⟨gb228, 9, none⟩ (.int .u8 0)).setCell ⟨gb228, 10, none⟩ (.slice Ao50 t225.length co50)) w.heap.size (fun k_ => (P0_ k_ ∨ w.heap.size ≤ k_) ∧ some k_ ≠ (.slice Ao50 t225.length co50 : Value).ownBlock ∧ k_ ≠ gb192 ∧ k_ ≠ gb228) (.slice A44 y213.length c44) y213) := ⟨by (with_reducible repeat (first | apply Kd.V_alloc | apply Kd.V_drewN | apply Kd.V_drew)); exact Kd.V_mono (Kd.V_far (p := ⟨gb228, 10, none⟩) (Kd.V_far (p := ⟨gb228, 9, none⟩) (Kd.V_far (p := ⟨gb228, 8, none⟩) (Kd.V_far (p := ⟨gb228, 7, none⟩) (Kd.V_far (p := ⟨gb228, 6, none⟩) (Kd.V_far (p := ⟨gb228, 5, none⟩) (Kd.V_far (p := ⟨gb228, 4, none⟩) (Kd.V_far (p := ⟨gb228, 3, none⟩) (Kd.V_far (p := ⟨gb228, 2, none⟩) (Kd.V_far (p := ⟨gb228, 1, none⟩) (Kd.V_far (p := ⟨gb228, 0, none⟩) (Kd.V_mono HO217.out (fun k_ hk => (⟨hk, hk.2.2.2⟩ : _ ∧ k_ ≠ gb228))) (fun _ hk => hk.2) (.int .i64 (wrap64 (rd l0 0)))) (fun _ hk => hk.2) (.int .i64 t212)) (fun _ hk => hk.2) (.int .i64 t218)) (fun _ hk => hk.2) (.int .u8 (rd l0 5))) (fun _ hk => hk.2) (.int .i64 0)) (fun _ hk => hk.2) (.int .u16 0)) (fun _ hk => hk.2) (.int .u8 0)) (fun _ hk => hk.2) (.int .u8 0)) (fun _ hk => hk.2) (.int .u8 0)) (fun _ hk => hk.2) (.int .u8 0)) (fun _ hk => hk.2) (.slice Ao50 t225.length co50)) (fun _ hk => ⟨hk.1.1, ⟨hk.1.2.1, ⟨hk.1.2.2.1, hk.1.2.2.2⟩⟩⟩)⟩
                                have n5_ : Aside0 (Kd.V (Kd.int .u8) 5 (((((((((((w49.setCell ⟨gb228, 0, none⟩ (.int .i64 (wrap64 (rd l0 0)))).setCell ⟨gb228, 1, none⟩ (.int .i64 t212)).setCell ⟨gb228, 2, none⟩ (.int .i64 t218)).setCell ⟨gb228, 3, none⟩ (.int .u8 (rd l0 5))).setCell ⟨gb228, 4, none⟩ (.int .i64 0)).setCell ⟨gb228, 5, none⟩ (.int .u16 0)).setCell ⟨gb228, 6, none⟩ (.int .u8 0)).setCell ⟨gb228, 7, none⟩ (.int .u8 0)).setCell ⟨gb228, 8, none⟩ (.int .u8 0)).setCell ⟨gb228, 9, none⟩ (.int .u8 0)).setCell ⟨gb228, 10, none⟩ (.slice Ao50 t225.length co50)) w.heap.size (fun k_ => (P0_ k_ ∨ w.heap.size ≤ k_) ∧ some k_ ≠ (.slice Ao50 t225.length co50 : Value).ownBlock ∧ k_ ≠ gb192 ∧ k_ ≠ gb228) (.slice A41 y220.length c41) y220) := ⟨by (with_reducible repeat (first | apply Kd.V_alloc | apply Kd.V_drewN | apply Kd.V_drew)); exact Kd.V_mono (Kd.V_far (p := ⟨gb228, 10, none⟩) (Kd.V_far (p := ⟨gb228, 9, none⟩) (Kd.V_far (p := ⟨gb228, 8, none⟩) (Kd.V_far (p := ⟨gb228, 7, none⟩) (Kd.V_far (p := ⟨gb228, 6, none⟩) (Kd.V_far (p := ⟨gb228, 5, none⟩) (Kd.V_far (p := ⟨gb228, 4, none⟩) (Kd.V_far (p := ⟨gb228, 3, none⟩) (Kd.V_far (p := ⟨gb228, 2, none⟩) (Kd.V_far (p := ⟨gb228, 1, none⟩) (Kd.V_far (p := ⟨gb228, 0, none⟩) (Kd.V_mono HO224.out (fun k_ hk => (⟨hk, hk.2.2.2⟩ : _ ∧ k_ ≠ gb228))) (fun _ hk => hk.2) (.int .i64 (wrap64 (rd l0 0)))) (fun _ hk => hk.2) (.int .i64 t212)) (fun _ hk => hk.2) (.int .i64 t218)) (fun _ hk => hk.2) (.int .u8 (rd l0 5))) (fun _ hk => hk.2) (.int .i64 0)) (fun _ hk => hk.2) (.int .u16 0)) (fun _ hk => hk.2) (.int .u8 0)) (fun _ hk => hk.2) (.int .u8 0)) (fun _ hk => hk.2) (.int .u8 0)) (fun _ hk => hk.2) (.int .u8 0)) (fun _ hk => hk.2) (.slice Ao50 t225.length co50)) (fun _ hk => ⟨hk.1.1, ⟨hk.1.2.1, ⟨hk.1.2.2.1, hk.1.2.2.2⟩⟩⟩)⟩
                                have n6_ : Aside0 (Kd.R (Kd.int .u8) 5 (((((((((((w49.setCell ⟨gb228, 0, none⟩ (.int .i64 (wrap64 (rd l0 0)))).setCell ⟨gb228, 1, none⟩ (.int .i64 t212)).setCell ⟨gb228, 2, none⟩ (.int .i64 t218)).setCell ⟨gb228, 3, none⟩ (.int .u8 (rd l0 5))).setCell ⟨gb228, 4, none⟩ (.int .i64 0)).setCell ⟨gb228, 5, none⟩ (.int .u16 0)).setCell ⟨gb228, 6, none⟩ (.int .u8 0)).setCell ⟨gb228, 7, none⟩ (.int .u8 0)).setCell ⟨gb228, 8, none⟩ (.int .u8 0)).setCell ⟨gb228, 9, none⟩ (.int .u8 0)).setCell ⟨gb228, 10, none⟩ (.slice Ao50 t225.length co50)) w.heap.size (fun k_ => (w.heap.size ≤ k_)) (.slice Ao50 t225.length co50) t225) := ⟨by (with_reducible repeat (first | apply Kd.R_alloc | apply Kd.R_drewN | apply Kd.R_drew)); exact Kd.R_mono (Kd.R_far (p := ⟨gb228, 10, none⟩) (Kd.R_far (p := ⟨gb228, 9, none⟩) (Kd.R_far (p := ⟨gb228, 8, none⟩) (Kd.R_far (p := ⟨gb228, 7, none⟩) (Kd.R_far (p := ⟨gb228, 6, none⟩) (Kd.R_far (p := ⟨gb228, 5, none⟩) (Kd.R_far (p := ⟨gb228, 4, none⟩) (Kd.R_far (p := ⟨gb228, 3, none⟩) (Kd.R_far (p := ⟨gb228, 2, none⟩) (Kd.R_far (p := ⟨gb228, 1, none⟩) (Kd.R_far (p := ⟨gb228, 0, none⟩) (Kd.R_types HO227.out BK228.out (by decide)) (fun _ hk => hk.2) (.int .i64 (wrap64 (rd l0 0)))) (fun _ hk => hk.2) (.int .i64 t212)) (fun _ hk => hk.2) (.int .i64 t218)) (fun _ hk => hk.2) (.int .u8 (rd l0 5))) (fun _ hk => hk.2) (.int .i64 0)) (fun _ hk => hk.2) (.int .u16 0)) (fun _ hk => hk.2) (.int .u8 0)) (fun _ hk => hk.2) (.int .u8 0)) (fun _ hk => hk.2) (.int .u8 0)) (fun _ hk => hk.2) (.int .u8 0)) (fun _ hk => hk.2) (.slice Ao50 t225.length co50)) (fun _ hk => hk.1)⟩
                                have n7_ : Aside0 ((((((((((((w49.setCell ⟨gb228, 0, none⟩ (.int .i64 (wrap64 (rd l0 0)))).setCell ⟨gb228, 1, none⟩ (.int .i64 t212)).setCell ⟨gb228, 2, none⟩ (.int .i64 t218)).setCell ⟨gb228, 3, none⟩ (.int .u8 (rd l0 5))).setCell ⟨gb228, 4, none⟩ (.int .i64 0)).setCell ⟨gb228, 5, none⟩ (.int .u16 0)).setCell ⟨gb228, 6, none⟩ (.int .u8 0)).setCell ⟨gb228, 7, none⟩ (.int .u8 0)).setCell ⟨gb228, 8, none⟩ (.int .u8 0)).setCell ⟨gb228, 9, none⟩ (.int .u8 0)).setCell ⟨gb228, 10, none⟩ (.slice Ao50 t225.length co50)).heap[gb192]? = some (.cells #[.int .i64 0, .int .i64 0, .int .i64 0, .int .u8 0, .int .i64 0, .int .u16 0, .int .u8 0, .int .u8 0, .int .u8 0, .int .u8 0, .slice none 0 0] 44 (0, 0))) := ⟨by (with_reducible repeat (first | refine blk_drewN ?_ _ | refine blk_drew ?_ | refine blk_alloc ?_ _)); refine blk_far ?_ NB192_228.out _; (with_reducible repeat (first | refine blk_drewN ?_ _ | refine blk_drew ?_ | refine blk_alloc ?_ _)); refine blk_far ?_ NB192_228.out _; (with_reducible repeat (first | refine blk_drewN ?_ _ | refine blk_drew ?_ | refine blk_alloc ?_ _)); refine blk_far ?_ NB192_228.out _; (with_reducible repeat (first | refine blk_drewN ?_ _ | refine blk_drew ?_ | refine blk_alloc ?_ _)); refine blk_far ?_ NB192_228.out _; (with_reducible repeat (first | refine blk_drewN ?_ _ | refine blk_drew ?_ | refine blk_alloc ?_ _)); refine blk_far ?_ NB192_228.out _; (with_reducible repeat (first | refine blk_drewN ?_ _ | refine blk_drew ?_ | refine blk_alloc ?_ _)); refine blk_far ?_ NB192_228.out _; (with_reducible repeat (first | refine blk_drewN ?_ _ | refine blk_drew ?_ | refine blk_alloc ?_ _)); refine blk_far ?_ NB192_228.out _; (with_reducible repeat (first | refine blk_drewN ?_ _ | refine blk_drew ?_ | refine blk_alloc ?_ _)); refine blk_far ?_ NB192_228.out _; (with_reducible repeat (first | refine blk_drewN ?_ _ | refine blk_drew ?_ | refine blk_alloc ?_ _)); refine blk_far ?_ NB192_228.out _; (with_reducible repeat (first | refine blk_drewN ?_ _ | refine blk_drew ?_ | refine blk_alloc ?_ _)); refine blk_far ?_ NB192_228.out _; (with_reducible repeat (first | refine blk_drewN ?_ _ | refine blk_drew ?_ | refine blk_alloc ?_ _)); refine blk_far ?_ NB192_228.out _; (with_reducible repeat (first | refine blk_drewN ?_ _ | refine blk_drew ?_ | refine blk_alloc ?_ _)); exact BK192.out⟩
                                have n8_ : Aside0 ((((((((((((w49.setCell ⟨gb228, 0, none⟩ (.int .i64 (wrap64 (rd l0 0)))).setCell ⟨gb228, 1, none⟩ (.int .i64 t212)).setCell ⟨gb228, 2, none⟩ (.int .i64 t218)).setCell ⟨gb228, 3, none⟩ (.int .u8 (rd l0 5))).setCell ⟨gb228, 4, none⟩ (.int .i64 0)).setCell ⟨gb228, 5, none⟩ (.int .u16 0)).setCell ⟨gb228, 6, none⟩ (.int .u8 0)).setCell ⟨gb228, 7, none⟩ (.int .u8 0)).setCell ⟨gb228, 8, none⟩ (.int .u8 0)).setCell ⟨gb228, 9, none⟩ (.int .u8 0)).setCell ⟨gb228, 10, none⟩ (.slice Ao50 t225.length co50)).heap[gb228]? = some (.cells #[.int .i64 (wrap64 (rd l0 0)), .int .i64 t212, .int .i64 t218, .int .u8 (rd l0 5), .int .i64 0, .int .u16 0, .int .u8 0, .int .u8 0, .int .u8 0, .int .u8 0, .slice Ao50 t225.length co50] 44 (0, 0))) := ⟨by (with_reducible repeat (first | refine blk_drewN ?_ _ | refine blk_drew ?_ | refine blk_alloc ?_ _)); refine blk_put (cs := #[.int .i64 (wrap64 (rd l0 0)), .int .i64 t212, .int .i64 t218, .int .u8 (rd l0 5), .int .i64 0, .int .u16 0, .int .u8 0, .int .u8 0, .int .u8 0, .int .u8 0, .slice none 0 0]) ?_ 10 _ rfl; (with_reducible repeat (first | refine blk_drewN ?_ _ | refine blk_drew ?_ | refine blk_alloc ?_ _)); refine blk_put (cs := #[.int .i64 (wrap64 (rd l0 0)), .int .i64 t212, .int .i64 t218, .int .u8 (rd l0 5), .int .i64 0, .int .u16 0, .int .u8 0, .int .u8 0, .int .u8 0, .int .u8 0, .slice none 0 0]) ?_ 9 _ rfl; (with_reducible repeat (first | refine blk_drewN ?_ _ | refine blk_drew ?_ | refine blk_alloc ?_ _)); refine blk_put (cs := #[.int .i64 (wrap64 (rd l0 0)), .int .i64 t212, .int .i64 t218, .int .u8 (rd l0 5), .int .i64 0, .int .u16 0, .int .u8 0, .int .u8 0, .int .u8 0, .int .u8 0, .slice none 0 0]) ?_ 8 _ rfl; (with_reducible repeat (first | refine blk_drewN ?_ _ | refine blk_drew ?_ | refine blk_alloc ?_ _)); refine blk_put (cs := #[.int .i64 (wrap64 (rd l0 0)), .int .i64 t212, .int .i64 t218, .int .u8 (rd l0 5), .int .i64 0, .int .u16 0, .int .u8 0, .int .u8 0, .int .u8 0, .int .u8 0, .slice none 0 0]) ?_ 7 _ rfl; (with_reducible repeat (first | refine blk_drewN ?_ _ | refine blk_drew ?_ | refine blk_alloc ?_ _)); refine blk_put (cs := #[.int .i64 (wrap64 (rd l0 0)), .int .i64 t212, .int .i64 t218, .int .u8 (rd l0 5), .int .i64 0, .int .u16 0, .int .u8 0, .int .u8 0, .int .u8 0, .int .u8 0, .slice none 0 0]) ?_ 6 _ rfl; (with_reducible repeat (first | refine blk_drewN ?_ _ | refine blk_drew ?_ | refine blk_alloc ?_ _)); refine blk_put (cs := #[.int .i64 (wrap64 (rd l0 0)), .int .i64 t212, .int .i64 t218, .int .u8 (rd l0 5), .int .i64 0, .int .u16 0, .int .u8 0, .int .u8 0, .int .u8 0, .int .u8 0, .slice none 0 0]) ?_ 5 _ rfl; (with_reducible repeat (first | refine blk_drewN ?_ _ | refine blk_drew ?_ | refine blk_alloc ?_ _)); refine blk_put (cs := #[.int .i64 (wrap64 (rd l0 0)), .int .i64 t212, .int .i64 t218, .int .u8 (rd l0 5), .int .i64 0, .int .u16 0, .int .u8 0, .int .u8 0, .int .u8 0, .int .u8 0, .slice none 0 0]) ?_ 4 _ rfl; (with_reducible repeat (first | refine blk_drewN ?_ _ | refine blk_drew ?_ | refine blk_alloc ?_ _)); refine blk_put (cs := #[.int .i64 (wrap64 (rd l0 0)), .int .i64 t212, .int .i64 t218, .int .u8 0, .int .i64 0, .int .u16 0, .int .u8 0, .int .u8 0, .int .u8 0, .int .u8 0, .slice none 0 0]) ?_ 3 _ rfl; (with_reducible repeat (first | refine blk_drewN ?_ _ | refine blk_drew ?_ | refine blk_alloc ?_ _)); refine blk_put (cs := #[.int .i64 (wrap64 (rd l0 0)), .int .i64 t212, .int .i64 0, .int .u8 0, .int .i64 0, .int .u16 0, .int .u8 0, .int .u8 0, .int .u8 0, .int .u8 0, .slice none 0 0]) ?_ 2 _ rfl; (with_reducible repeat (first | refine blk_drewN ?_ _ | refine blk_drew ?_ | refine blk_alloc ?_ _)); refine blk_put (cs := #[.int .i64 (wrap64 (rd l0 0)), .int .i64 0, .int .i64 0, .int .u8 0, .int .i64 0, .int .u16 0, .int .u8 0, .int .u8 0, .int .u8 0, .int .u8 0, .slice none 0 0]) ?_ 1 _ rfl; (with_reducible repeat (first | refine blk_drewN ?_ _ | refine blk_drew ?_ | refine blk_alloc ?_ _)); refine blk_put (cs := #[.int .i64 0, .int .i64 0, .int .i64 0, .int .u8 0, .int .i64 0, .int .u16 0, .int .u8 0, .int .u8 0, .int .u8 0, .int .u8 0, .slice none 0 0]) ?_ 0 _ rfl; (with_reducible repeat (first | refine blk_drewN ?_ _ | refine blk_drew ?_ | refine blk_alloc ?_ _)); exact BK228.out⟩
                                have n9_ : Aside0 (Below w.heap.size w (((((((((((w49.setCell ⟨gb228, 0, none⟩ (.int .i64 (wrap64 (rd l0 0)))).setCell ⟨gb228, 1, none⟩ (.int .i64 t212)).setCell ⟨gb228, 2, none⟩ (.int .i64 t218)).setCell ⟨gb228, 3, none⟩ (.int .u8 (rd l0 5))).setCell ⟨gb228, 4, none⟩ (.int .i64 0)).setCell ⟨gb228, 5, none⟩ (.int .u16 0)).setCell ⟨gb228, 6, none⟩ (.int .u8 0)).setCell ⟨gb228, 7, none⟩ (.int .u8 0)).setCell ⟨gb228, 8, none⟩ (.int .u8 0)).setCell ⟨gb228, 9, none⟩ (.int .u8 0)).setCell ⟨gb228, 10, none⟩ (.slice Ao50 t225.length co50))) := ⟨by repeat (first | (with_reducible first | exact HB.out | apply below_alloc | apply pw_below_drewN | apply below_drew1 | refine below_set ?_ GE192.out | refine below_set ?_ GE228.out) | exact HB.out)⟩
                                (try clear HO0)
                                (try clear HO199)
                                (try clear HO205)
                                (try clear HO211)
                                (try clear HO217)
                                (try clear HO224)
                                (try clear HO227)
                                (try clear BK192)
                                (try clear BK228)
                                (try clear HB)
                                generalize (((((((((((w49.setCell ⟨gb228, 0, none⟩ (.int .i64 (wrap64 (rd l0 0)))).setCell ⟨gb228, 1, none⟩ (.int .i64 t212)).setCell ⟨gb228, 2, none⟩ (.int .i64 t218)).setCell ⟨gb228, 3, none⟩ (.int .u8 (rd l0 5))).setCell ⟨gb228, 4, none⟩ (.int .i64 0)).setCell ⟨gb228, 5, none⟩ (.int .u16 0)).setCell ⟨gb228, 6, none⟩ (.int .u8 0)).setCell ⟨gb228, 7, none⟩ (.int .u8 0)).setCell ⟨gb228, 8, none⟩ (.int .u8 0)).setCell ⟨gb228, 9, none⟩ (.int .u8 0)).setCell ⟨gb228, 10, none⟩ (.slice Ao50 t225.length co50)) = w62 at n0_ n1_ n2_ n3_ n4_ n5_ n6_ n7_ n8_ n9_ ⊢
                                have HO0 := n0_
                                have HO199 := n1_
                                have HO205 := n2_
                                have HO211 := n3_
                                have HO217 := n4_
                                have HO224 := n5_
                                have HO227 := n6_
                                have BK192 := n7_
                                have BK228 := n8_
                                have HB := n9_
                                clear n0_ n1_ n2_ n3_ n4_ n5_ n6_ n7_ n8_ n9_
                                have n0_ := Aside0.mk (Kd.V_drew HO0.out)
                                have n1_ := Aside0.mk (Kd.V_drew HO199.out)
                                have n2_ := Aside0.mk (Kd.V_drew HO205.out)
                                have n3_ := Aside0.mk (Kd.V_drew HO211.out)
                                have n4_ := Aside0.mk (Kd.V_drew HO217.out)
                                have n5_ := Aside0.mk (Kd.V_drew HO224.out)
                                have n6_ := Aside0.mk (Kd.R_drew HO227.out)
                                have n7_ := Aside0.mk (blk_drew BK192.out)
                                have n8_ := Aside0.mk (blk_drew BK228.out)
                                have n9_ := Aside0.mk (below_drew1 HB.out)
                                clear HO0
                                clear HO199
                                clear HO205
                                clear HO211
                                clear HO217
                                clear HO224
                                clear HO227
                                clear BK192
                                clear BK228
                                clear HB
                                have HO0 := n0_
                                have HO199 := n1_
                                have HO205 := n2_
                                have HO211 := n3_
                                have HO217 := n4_
                                have HO224 := n5_
                                have HO227 := n6_
                                have BK192 := n7_
                                have BK228 := n8_
                                have HB := n9_
                                clear n0_ n1_ n2_ n3_ n4_ n5_ n6_ n7_ n8_ n9_
                                have p229 : 0 ≤ (6 : Int) := (by omega)
                                have q229 : 6 < (l0.length : Int) := of_decide_eq_true (by first | (with_reducible assumption) | assumption)
                                obtain ⟨ad229, e229, hx229_0⟩ := Kd.at_int (Kd.V_reads' HO0.out).2.2 6 p229 q229
                                obtain rfl : ad193 = ad229 := (by injection e229)
                                (try simp only [show (6 : Int).toNat = 6 from rfl, Nat.reduceMul, Nat.reduceEqDiff, Go.Addr.add, ↓reduceIte] at hx229_0)
                                have qi229 : (6 < l0.length) = True := eq_true (by omega)
                                (try rw [show ((6 : Int)).toNat = 6 from rfl] at hx229_0)
                                replace p229 := eq_true p229
                                replace q229 := eq_true q229
                                have q64 : (7 : Int) ≤ ((l0.length : Int) : Int) := of_decide_eq_true (by first | (with_reducible assumption) | assumption)
                                obtain ⟨i064, hi064, _, hsz64, _⟩ := info_parts info5
                                have hroom64 : l0.length ≤ c0 := (Kd.V_reads' HO0.out).2.1
                                have hC64 : Kd.F (Kd.int .u8) _ _ (some ad193) l0.length l0 := (Kd.V_at (base := w.heap.size) HO0.out).2.2
                                have hcut64 := cut_from (P := Try.prog) 23 5 .i64 Try.underlying23 hi064 1 hsz64 (some ad193) l0.length c0 7 (by omega) q64
                                have hr64 := Kd.F_cut (m := (7 : Int).toNat) (c := c0) hC64 (by omega) hroom64
                                obtain ⟨A64, hA64⟩ : ∃ A1, A1 = (if c0 = (7 : Int).toNat then (some ad193) else ((some ad193) : Option Addr).map (·.add ((7 : Int).toNat * 1))) := ⟨_, rfl⟩
                                obtain ⟨c64, hc64⟩ : ∃ c1, c1 = c0 - (7 : Int).toNat := ⟨_, rfl⟩
                                have hy64 : y230.length = l0.length - (7 : Int).toNat := (by rw [Ny230.out, List.length_drop] <;> omega)
                                rw [show (l0).drop (7 : Int).toNat = y230 from Ny230.out.symm] at hr64
                                replace hr64 : Kd.F (Kd.int .u8) _ _ A64 y230.length y230 := (by rw [hA64]; exact hr64)
                                rw [← hy64, ← hA64, ← hc64] at hcut64
                                have HO234 := Aside0.mk (show Kd.V (Kd.int .u8) 5 _ w.heap.size _ (.slice A64 y230.length c64) y230 from Kd.V_mk (by rw [hy64, hc64]; exact Nat.sub_le_sub_right hroom64 _) hr64)
                                have HC234 := Aside0.mk (show y230.length ≤ c64 from by rw [hy64, hc64]; exact Nat.sub_le_sub_right hroom64 _)
                                clear hr64 hC64 hroom64 hi064 hsz64 hc64
                                have KY64 := Aside0.mk hy64
                                have KA64 := Aside0.mk hA64
                                clear hy64 hA64
                                replace q64 := eq_true q64
                                have q65 : (13 : Int) ≤ ((l0.length : Int) : Int) := of_decide_eq_true (by first | (with_reducible assumption) | assumption)
                                obtain ⟨i065, hi065, _, hsz65, _⟩ := info_parts info5
                                have hroom65 : l0.length ≤ c0 := (Kd.V_reads' HO0.out).2.1
                                have hC65 : Kd.F (Kd.int .u8) _ _ (some ad193) l0.length l0 := (Kd.V_at (base := w.heap.size) HO0.out).2.2
                                have ql65 : (9 : Int) ≤ (13 : Int) := (by omega)
                                have hcut65 := cut_mid (P := Try.prog) 23 5 .i64 .i64 Try.underlying23 hi065 1 hsz65 (some ad193) l0.length c0 9 13 (by omega) ql65 q65 hroom65
                                have hr65 := Kd.F_mid (lo := (9 : Int).toNat) (hi := (13 : Int).toNat) (c := c0) hC65 (by omega) (by omega) hroom65
                                obtain ⟨A65, hA65⟩ : ∃ A1, A1 = (if c0 = (9 : Int).toNat then (some ad193) else ((some ad193) : Option Addr).map (·.add ((9 : Int).toNat * 1))) := ⟨_, rfl⟩
                                obtain ⟨c65, hc65⟩ : ∃ c1, c1 = c0 - (9 : Int).toNat := ⟨_, rfl⟩
                                have hy65 : y236.length = (13 : Int).toNat - (9 : Int).toNat := (by rw [Ny236.out, List.length_drop, List.length_take] <;> omega)
                                rw [show ((l0).take (13 : Int).toNat).drop (9 : Int).toNat = y236 from Ny236.out.symm] at hr65
                                replace hr65 : Kd.F (Kd.int .u8) _ _ A65 y236.length y236 := (by rw [hA65]; exact hr65)
                                rw [← hy65, ← hA65, ← hc65] at hcut65
                                have HO240 := Aside0.mk (show Kd.V (Kd.int .u8) 5 _ w.heap.size _ (.slice A65 y236.length c65) y236 from Kd.V_mk (by rw [hy65, hc65]; exact Nat.sub_le_sub_right (Nat.le_trans (by omega) hroom65) _) hr65)
                                have HC240 := Aside0.mk (show y236.length ≤ c65 from by rw [hy65, hc65]; exact Nat.sub_le_sub_right (Nat.le_trans (by omega) hroom65) _)
                                clear hr65 hC65 hroom65 hi065 hsz65 hc65
                                have KY65 := Aside0.mk hy65
                                have KA65 := Aside0.mk hA65
                                clear hy65 hA65
                                obtain ⟨adZ9, eZ9, hx229_9⟩ := Kd.at_int (Kd.V_reads' HO0.out).2.2 9 (by omega) (by omega)
                                obtain rfl : ad193 = adZ9 := (by injection eZ9)
                                (try simp only [show (9 : Int).toNat = 9 from rfl, Nat.reduceMul, Nat.reduceEqDiff, Go.Addr.add, ↓reduceIte] at hx229_9)
                                clear eZ9
                                obtain ⟨adZ10, eZ10, hx229_10⟩ := Kd.at_int (Kd.V_reads' HO0.out).2.2 10 (by omega) (by omega)
                                obtain rfl : ad193 = adZ10 := (by injection eZ10)
                                (try simp only [show (10 : Int).toNat = 10 from rfl, Nat.reduceMul, Nat.reduceEqDiff, Go.Addr.add, ↓reduceIte] at hx229_10)
                                clear eZ10
                                obtain ⟨adZ11, eZ11, hx229_11⟩ := Kd.at_int (Kd.V_reads' HO0.out).2.2 11 (by omega) (by omega)
                                obtain rfl : ad193 = adZ11 := (by injection eZ11)
                                (try simp only [show (11 : Int).toNat = 11 from rfl, Nat.reduceMul, Nat.reduceEqDiff, Go.Addr.add, ↓reduceIte] at hx229_11)
                                clear eZ11
                                obtain ⟨adZ12, eZ12, hx229_12⟩ := Kd.at_int (Kd.V_reads' HO0.out).2.2 12 (by omega) (by omega)
                                obtain rfl : ad193 = adZ12 := (by injection eZ12)
                                (try simp only [show (12 : Int).toNat = 12 from rfl, Nat.reduceMul, Nat.reduceEqDiff, Go.Addr.add, ↓reduceIte] at hx229_12)
                                clear eZ12
                                have hZ_ : A65 = some ⟨ad193.block, ad193.off + 9, none⟩ := by
                                  have h_ := (Kd.V_reads' HO0.out).2.1
                                  have h2_ := KA65.out
                                  rw [if_neg (by omega)] at h2_
                                  rw [h2_]
                                  rfl
                                have hat_ : ∀ w : World, (Instr.arrayAt 37 (.slice A65 y236.length c65)).run Try.prog w = .ok (.pointer (some ⟨ad193.block, ad193.off + 9, none⟩)) w := fun w => by
                                  have h_ := KY65.out
                                  rw [run_arrayAt w 37 5 4 A65 y236.length c65 Try.underlying37 (by omega), hZ_]
                                clear hZ_
                                replace q65 := eq_true q65
                                refine start_ (n := 15) (S := fun w' => w'.cell? ⟨ad193.block, ad193.off + 6, none⟩ = some (.int .u8 (rd l0 6)) ∧ w'.cell? ⟨ad193.block, ad193.off + 9, none⟩ = some (.int .u8 (rd l0 9)) ∧ w'.cell? ⟨ad193.block, ad193.off + 9 + 1, none⟩ = some (.int .u8 (rd l0 10)) ∧ w'.cell? ⟨ad193.block, ad193.off + 9 + 1 + 1, none⟩ = some (.int .u8 (rd l0 11)) ∧ w'.cell? ⟨ad193.block, ad193.off + 9 + 1 + 1 + 1, none⟩ = some (.int .u8 (rd l0 12))) (ds := []) #[false, false, false, false, false, false, false, false, false, false, false, false, false, false, false] (by kernel_rfl) rfl rfl ⟨hx229_0, hx229_9, hx229_10, hx229_11, hx229_12⟩ (fun hHeld => ?_); refine with_tabW script_first.tab11 script_first.bits11 (fun HT_ HW_ => ?_)
                                generalize w62.drew = w63 at HO0 HO199 HO205 HO211 HO217 HO224 HO227 BK192 BK228 HB HO234 HO240 hx229_0 hx229_9 hx229_10 hx229_11 hx229_12 hHeld ⊢
                                refine pure_ (i := 0) (N := some 54) (v := ?_) (a' := ?_) #[true, false, false, false, false, false, false, false, false, false, false, false, false, false, false] rfl rfl (any_of HT_.out (by kernel_rfl)) (fun _ _ _ h => h) (Or.inl ⟨by rfl, ?_⟩) ?_ ?_
                                rotate_left
                                · intro w'
                                  go_simp
                                  with_reducible rfl
                                rotate_left
                                · simp only [Act.put, List.setIfInBounds_toArray, List.set_cons_zero, List.set_cons_succ, i64_w, i32_w]
                                  rfl
                                refine pure_ (i := 1) (N := some 55) (v := ?_) (a' := ?_) #[true, true, false, false, false, false, false, false, false, false, false, false, false, false, false] rfl rfl (any_of HT_.out (by kernel_rfl)) (fun _ _ _ h => h) (Or.inl ⟨by rfl, ?_⟩) ?_ ?_
                                rotate_left
                                · intro w'
                                  go_simp
                                  with_reducible rfl
                                rotate_left
                                · simp only [Act.put, List.setIfInBounds_toArray, List.set_cons_zero, List.set_cons_succ, i64_w, i32_w]
                                  rfl
                                refine pure_ (i := 4) (N := some 58) (v := ?_) (a' := ?_) #[true, true, false, false, true, false, false, false, false, false, false, false, false, false, false] rfl rfl (any_of HT_.out (by kernel_rfl)) (fun _ _ _ h => h) (Or.inl ⟨by rfl, ?_⟩) ?_ ?_
                                rotate_left
                                · intro w'
                                  go_simp
                                  with_reducible rfl
                                rotate_left
                                · simp only [Act.put, List.setIfInBounds_toArray, List.set_cons_zero, List.set_cons_succ, i64_w, i32_w]
                                  rfl
                                refine pure_ (i := 5) (N := some 59) (v := ?_) (a' := ?_) #[true, true, false, false, true, true, false, false, false, false, false, false, false, false, false] rfl rfl (any_of HT_.out (by kernel_rfl)) (fun _ _ _ h => h) (Or.inl ⟨by rfl, ?_⟩) ?_ ?_
                                rotate_left
                                · intro w'
                                  go_simp
                                  with_reducible rfl
                                rotate_left
                                · simp only [Act.put, List.setIfInBounds_toArray, List.set_cons_zero, List.set_cons_succ, i64_w, i32_w]
                                  rfl
                                refine pure_ (i := 8) (N := some 62) (v := ?_) (a' := ?_) #[true, true, false, false, true, true, false, false, true, false, false, false, false, false, false] rfl rfl (any_of HT_.out (by kernel_rfl)) (fun _ _ _ h => h) (Or.inl ⟨by rfl, ?_⟩) ?_ ?_
                                rotate_left
                                · intro w'
                                  go_simp
                                  with_reducible rfl
                                rotate_left
                                · simp only [Act.put, List.setIfInBounds_toArray, List.set_cons_zero, List.set_cons_succ, i64_w, i32_w]
                                  rfl
                                refine pure_ (i := 9) (N := some 63) (v := ?_) (a' := ?_) #[true, true, false, false, true, true, false, false, true, true, false, false, false, false, false] rfl rfl (any_of HT_.out (by kernel_rfl)) (fun _ _ _ h => h) (Or.inl ⟨by rfl, ?_⟩) ?_ ?_
                                rotate_left
                                · intro w'
                                  go_simp
                                  with_reducible rfl
                                rotate_left
                                · simp only [Act.put, List.setIfInBounds_toArray, List.set_cons_zero, List.set_cons_succ, i64_w, i32_w]
                                  rfl
                                refine take_ (i := 2) (N := some 56) (v := ?_) (a' := ?_) #[true, true, true, false, true, true, false, false, true, true, false, false, false, false, false] rfl rfl (take_ofW HT_.out HW_.out (by kernel_rfl)) (fun _ _ _ h => h) (Or.inl ⟨by rfl, ?_⟩) hHeld ?_ ?_
                                rotate_left
                                · rintro w' ⟨s0, s1, s2, s3, s4⟩
                                  go_simp
                                  with_reducible rfl
                                rotate_left
                                · simp only [Act.put, List.setIfInBounds_toArray, List.set_cons_zero, List.set_cons_succ, i64_w, i32_w]
                                  rfl
                                refine pure_ (i := 3) (N := some 57) (v := ?_) (a' := ?_) #[true, true, true, true, true, true, false, false, true, true, false, false, false, false, false] rfl rfl (any_of HT_.out (by kernel_rfl)) (fun _ _ _ h => h) (Or.inl ⟨by rfl, ?_⟩) ?_ ?_
                                rotate_left
                                · intro w'
                                  go_simp
                                  with_reducible rfl
                                rotate_left
                                · simp only [Act.put, List.setIfInBounds_toArray, List.set_cons_zero, List.set_cons_succ, i64_w, i32_w]
                                  rfl
                                refine pure_ (i := 10) (N := some 64) (v := ?_) (a' := ?_) #[true, true, true, true, true, true, false, false, true, true, true, false, false, false, false] rfl rfl (any_of HT_.out (by kernel_rfl)) (fun _ _ _ h => h) (Or.inl ⟨by rfl, ?_⟩) ?_ ?_
                                rotate_left
                                · intro w'
                                  go_simp
                                  with_reducible rfl
                                rotate_left
                                · simp only [Act.put, List.setIfInBounds_toArray, List.set_cons_zero, List.set_cons_succ, i64_w, i32_w]
                                  rfl
                                refine take_ (i := 11) (N := some 65) (v := ?_) (a' := ?_) #[true, true, true, true, true, true, false, false, true, true, true, true, false, false, false] rfl rfl (take_ofW HT_.out HW_.out (by kernel_rfl)) (fun _ _ _ h => h) (Or.inl ⟨by rfl, ?_⟩) hHeld ?_ ?_
                                rotate_left
                                · rintro w' ⟨s0, s1, s2, s3, s4⟩
                                  go_simp
                                  with_reducible rfl
                                rotate_left
                                · simp only [Act.put, List.setIfInBounds_toArray, List.set_cons_zero, List.set_cons_succ, i64_w, i32_w]
                                  rfl
                                refine one_ (i := 6) (N := some 60) #[true, true, true, true, true, true, true, false, true, true, true, true, false, false, false] rfl rfl (one_of HT_.out (by kernel_rfl)) (by decide) (fun K hK => ?_)
                                refine goes_ Try.func29 (by kernel_rfl) rfl #[.slice A64 y230.length c64] (by rfl) rfl rfl (by (try simp only [List.map_toArray, List.map_cons, List.map_nil]); first | done | rfl | (simp only [List.length_drop, List.length_take]; rfl)) ?_
                                with_reducible refine (script_number.calls _ _ y230 t235 _ ?side1 ?side2 A33.out).mono ?_
                                (case side1 => repeat (first | exact (Kd.V_reads' HO234.out).2.2 | (with_reducible refine Kd.C_alloc ?_ _) | (with_reducible refine Kd.C_drewN ?_ _) | (with_reducible refine Kd.C_drew ?_)))
                                (case side2 => exact (Kd.V_reads' HO234.out).2.1)
                                rintro e w' ⟨rfl, ⟨nd, rfl⟩⟩
                                refine ⟨_, rfl, ?_⟩
                                refine hK.out _ _ (hHeld) (fun hHeld => ?_)
                                clear hK K
                                have n0_ := Aside0.mk (Kd.V_drewN HO0.out nd)
                                have n1_ := Aside0.mk (Kd.V_drewN HO199.out nd)
                                have n2_ := Aside0.mk (Kd.V_drewN HO205.out nd)
                                have n3_ := Aside0.mk (Kd.V_drewN HO211.out nd)
                                have n4_ := Aside0.mk (Kd.V_drewN HO217.out nd)
                                have n5_ := Aside0.mk (Kd.V_drewN HO224.out nd)
                                have n6_ := Aside0.mk (Kd.R_drewN HO227.out nd)
                                have n7_ := Aside0.mk (blk_drewN BK192.out nd)
                                have n8_ := Aside0.mk (blk_drewN BK228.out nd)
                                have n9_ := Aside0.mk (pw_below_drewN HB.out nd)
                                have n10_ := Aside0.mk (Kd.V_drewN HO234.out nd)
                                have n11_ := Aside0.mk (Kd.V_drewN HO240.out nd)
                                clear HO0
                                clear HO199
                                clear HO205
                                clear HO211
                                clear HO217
                                clear HO224
                                clear HO227
                                clear BK192
                                clear BK228
                                clear HB
                                clear HO234
                                clear HO240
                                have HO0 := n0_
                                have HO199 := n1_
                                have HO205 := n2_
                                have HO211 := n3_
                                have HO217 := n4_
                                have HO224 := n5_
                                have HO227 := n6_
                                have BK192 := n7_
                                have BK228 := n8_
                                have HB := n9_
                                have HO234 := n10_
                                have HO240 := n11_
                                clear n0_ n1_ n2_ n3_ n4_ n5_ n6_ n7_ n8_ n9_ n10_ n11_
                                generalize w63.drewN nd = w63b at HO0 HO199 HO205 HO211 HO217 HO224 HO227 BK192 BK228 HB HO234 HO240 hHeld ⊢
                                refine norm_ (a' := ?_) ?_ ?_
                                rotate_left
                                · show Act.put _ (some 60) _ = _
                                  simp only [Act.put, List.setIfInBounds_toArray, List.set_cons_zero, List.set_cons_succ, i64_w, i32_w]
                                  rfl
                                refine pure_ (i := 7) (N := some 61) (v := ?_) (a' := ?_) #[true, true, true, true, true, true, true, true, true, true, true, true, false, false, false] rfl rfl (any_of HT_.out (by kernel_rfl)) (fun _ _ _ h => h) (Or.inl ⟨by rfl, ?_⟩) ?_ ?_
                                rotate_left
                                · intro w'
                                  go_simp
                                  with_reducible rfl
                                rotate_left
                                · simp only [Act.put, List.setIfInBounds_toArray, List.set_cons_zero, List.set_cons_succ, i64_w, i32_w]
                                  rfl
                                refine pure_ (i := 12) (N := some 66) (v := ?_) (a' := ?_) #[true, true, true, true, true, true, true, true, true, true, true, true, true, false, false] rfl rfl (any_of HT_.out (by kernel_rfl)) (fun _ _ _ h => h) (Or.inl ⟨by rfl, ?_⟩) ?_ ?_
                                rotate_left
                                · intro w'
                                  go_simp
                                  with_reducible rfl
                                rotate_left
                                · simp only [Act.put, List.setIfInBounds_toArray, List.set_cons_zero, List.set_cons_succ, i64_w, i32_w]
                                  rfl
                                refine pure_ (i := 13) (N := some 67) (v := ?_) (a' := ?_) #[true, true, true, true, true, true, true, true, true, true, true, true, true, true, false] rfl rfl (any_of HT_.out (by kernel_rfl)) (fun _ _ _ h => h) (Or.inl ⟨by rfl, ?_⟩) ?_ ?_
                                rotate_left
                                · intro w'
                                  go_simp
                                  with_reducible rfl
                                rotate_left
                                · simp only [Act.put, List.setIfInBounds_toArray, List.set_cons_zero, List.set_cons_succ, i64_w, i32_w]
                                  rfl
                                refine one_ (i := 14) (N := none) #[true, true, true, true, true, true, true, true, true, true, true, true, true, true, true] rfl rfl (one_of HT_.out (by kernel_rfl)) (by decide) (fun K hK => ?_)
                                have hs66 : w63b.cell? ⟨gb228, 4, none⟩ = some (.int .i64 0) := (blk_cell BK228.out 4).trans rfl
                                have hfs66 := blk_frozen BK228.out 4
                                have hns66_0 := NB192_228.out
                                have hms66_0 := NB228_192.out
                                have hs67 : w63b.cell? ⟨gb228, 5, none⟩ = some (.int .u16 0) := (blk_cell BK228.out 5).trans rfl
                                have hfs67 := blk_frozen BK228.out 5
                                have hns67_0 := NB192_228.out
                                have hms67_0 := NB228_192.out
                                have hs68 : w63b.cell? ⟨gb228, 6, none⟩ = some (.int .u8 0) := (blk_cell BK228.out 6).trans rfl
                                have hfs68 := blk_frozen BK228.out 6
                                have hns68_0 := NB192_228.out
                                have hms68_0 := NB228_192.out
                                have hs69 : w63b.cell? ⟨gb228, 7, none⟩ = some (.int .u8 0) := (blk_cell BK228.out 7).trans rfl
                                have hfs69 := blk_frozen BK228.out 7
                                have hns69_0 := NB192_228.out
                                have hms69_0 := NB228_192.out
                                have hs70 : w63b.cell? ⟨gb228, 8, none⟩ = some (.int .u8 0) := (blk_cell BK228.out 8).trans rfl
                                have hfs70 := blk_frozen BK228.out 8
                                have hns70_0 := NB192_228.out
                                have hms70_0 := NB228_192.out
                                have hs71 : w63b.cell? ⟨gb228, 9, none⟩ = some (.int .u8 0) := (blk_cell BK228.out 9).trans rfl
                                have hfs71 := blk_frozen BK228.out 9
                                have hns71_0 := NB192_228.out
                                have hms71_0 := NB228_192.out
                                refine skip_ (w1 := ?_) (by rfl) rfl ?_ ?_
                                rotate_left
                                · go_simp
                                  rfl
                                have hne_ : ad193.block ≠ gb228 := apart_new (Kd.V_reads' hs0).2.2 rfl (of_decide_eq_true (by assumption)) GE228.out
                                refine hK.out _ _ (by obtain ⟨z0_, z1_, z2_, z3_, z4_⟩ := hHeld; refine ⟨?_, ?_, ?_, ?_, ?_⟩ <;> (with_reducible repeat (first | assumption | refine far_cells hne_ ?_ _ _ | refine far_cells2 hne_ ?_ _ _))) (fun hHeld => ?_)
                                clear hne_
                                clear hK K
                                refine done_ (done_of HT_.out (by kernel_rfl)) ?_
                                try go_wp2
                                have n0_ : Aside0 (Kd.V (Kd.int .u8) 5 ((((((w63b.setCell ⟨gb228, 4, none⟩ (.int .i64 (wrap64 (rd l0 6)))).setCell ⟨gb228, 5, none⟩ (.int .u16 (IntKind.u16.wrap (t235)))).setCell ⟨gb228, 6, none⟩ (.int .u8 (rd l0 9))).setCell ⟨gb228, 7, none⟩ (.int .u8 (rd l0 10))).setCell ⟨gb228, 8, none⟩ (.int .u8 (rd l0 11))).setCell ⟨gb228, 9, none⟩ (.int .u8 (rd l0 12))) w.heap.size (fun k_ => (P0_ k_ ∨ w.heap.size ≤ k_) ∧ some k_ ≠ (.slice Ao50 t225.length co50 : Value).ownBlock ∧ k_ ≠ gb192 ∧ k_ ≠ gb228) (.slice (some ad193) l0.length c0) l0) := ⟨by (with_reducible repeat (first | apply Kd.V_alloc | apply Kd.V_drewN | apply Kd.V_drew)); exact Kd.V_mono (Kd.V_far (p := ⟨gb228, 9, none⟩) (Kd.V_far (p := ⟨gb228, 8, none⟩) (Kd.V_far (p := ⟨gb228, 7, none⟩) (Kd.V_far (p := ⟨gb228, 6, none⟩) (Kd.V_far (p := ⟨gb228, 5, none⟩) (Kd.V_far (p := ⟨gb228, 4, none⟩) (Kd.V_mono HO0.out (fun k_ hk => (⟨hk, hk.2.2.2⟩ : _ ∧ k_ ≠ gb228))) (fun _ hk => hk.2) (.int .i64 (wrap64 (rd l0 6)))) (fun _ hk => hk.2) (.int .u16 (IntKind.u16.wrap (t235)))) (fun _ hk => hk.2) (.int .u8 (rd l0 9))) (fun _ hk => hk.2) (.int .u8 (rd l0 10))) (fun _ hk => hk.2) (.int .u8 (rd l0 11))) (fun _ hk => hk.2) (.int .u8 (rd l0 12))) (fun _ hk => ⟨hk.1.1, ⟨hk.1.2.1, ⟨hk.1.2.2.1, hk.1.2.2.2⟩⟩⟩)⟩
                                have n1_ : Aside0 (Kd.V (Kd.int .u8) 5 ((((((w63b.setCell ⟨gb228, 4, none⟩ (.int .i64 (wrap64 (rd l0 6)))).setCell ⟨gb228, 5, none⟩ (.int .u16 (IntKind.u16.wrap (t235)))).setCell ⟨gb228, 6, none⟩ (.int .u8 (rd l0 9))).setCell ⟨gb228, 7, none⟩ (.int .u8 (rd l0 10))).setCell ⟨gb228, 8, none⟩ (.int .u8 (rd l0 11))).setCell ⟨gb228, 9, none⟩ (.int .u8 (rd l0 12))) w.heap.size (fun k_ => (P0_ k_ ∨ w.heap.size ≤ k_) ∧ some k_ ≠ (.slice Ao50 t225.length co50 : Value).ownBlock ∧ k_ ≠ gb192 ∧ k_ ≠ gb228) (.slice A40 y195.length c40) y195) := ⟨by (with_reducible repeat (first | apply Kd.V_alloc | apply Kd.V_drewN | apply Kd.V_drew)); exact Kd.V_mono (Kd.V_far (p := ⟨gb228, 9, none⟩) (Kd.V_far (p := ⟨gb228, 8, none⟩) (Kd.V_far (p := ⟨gb228, 7, none⟩) (Kd.V_far (p := ⟨gb228, 6, none⟩) (Kd.V_far (p := ⟨gb228, 5, none⟩) (Kd.V_far (p := ⟨gb228, 4, none⟩) (Kd.V_mono HO199.out (fun k_ hk => (⟨hk, hk.2.2.2⟩ : _ ∧ k_ ≠ gb228))) (fun _ hk => hk.2) (.int .i64 (wrap64 (rd l0 6)))) (fun _ hk => hk.2) (.int .u16 (IntKind.u16.wrap (t235)))) (fun _ hk => hk.2) (.int .u8 (rd l0 9))) (fun _ hk => hk.2) (.int .u8 (rd l0 10))) (fun _ hk => hk.2) (.int .u8 (rd l0 11))) (fun _ hk => hk.2) (.int .u8 (rd l0 12))) (fun _ hk => ⟨hk.1.1, ⟨hk.1.2.1, ⟨hk.1.2.2.1, hk.1.2.2.2⟩⟩⟩)⟩
                                have n2_ : Aside0 (Kd.V (Kd.int .u8) 5 ((((((w63b.setCell ⟨gb228, 4, none⟩ (.int .i64 (wrap64 (rd l0 6)))).setCell ⟨gb228, 5, none⟩ (.int .u16 (IntKind.u16.wrap (t235)))).setCell ⟨gb228, 6, none⟩ (.int .u8 (rd l0 9))).setCell ⟨gb228, 7, none⟩ (.int .u8 (rd l0 10))).setCell ⟨gb228, 8, none⟩ (.int .u8 (rd l0 11))).setCell ⟨gb228, 9, none⟩ (.int .u8 (rd l0 12))) w.heap.size (fun k_ => (P0_ k_ ∨ w.heap.size ≤ k_) ∧ some k_ ≠ (.slice Ao50 t225.length co50 : Value).ownBlock ∧ k_ ≠ gb192 ∧ k_ ≠ gb228) (.slice A41 y201.length c41) y201) := ⟨by (with_reducible repeat (first | apply Kd.V_alloc | apply Kd.V_drewN | apply Kd.V_drew)); exact Kd.V_mono (Kd.V_far (p := ⟨gb228, 9, none⟩) (Kd.V_far (p := ⟨gb228, 8, none⟩) (Kd.V_far (p := ⟨gb228, 7, none⟩) (Kd.V_far (p := ⟨gb228, 6, none⟩) (Kd.V_far (p := ⟨gb228, 5, none⟩) (Kd.V_far (p := ⟨gb228, 4, none⟩) (Kd.V_mono HO205.out (fun k_ hk => (⟨hk, hk.2.2.2⟩ : _ ∧ k_ ≠ gb228))) (fun _ hk => hk.2) (.int .i64 (wrap64 (rd l0 6)))) (fun _ hk => hk.2) (.int .u16 (IntKind.u16.wrap (t235)))) (fun _ hk => hk.2) (.int .u8 (rd l0 9))) (fun _ hk => hk.2) (.int .u8 (rd l0 10))) (fun _ hk => hk.2) (.int .u8 (rd l0 11))) (fun _ hk => hk.2) (.int .u8 (rd l0 12))) (fun _ hk => ⟨hk.1.1, ⟨hk.1.2.1, ⟨hk.1.2.2.1, hk.1.2.2.2⟩⟩⟩)⟩
                                have n3_ : Aside0 (Kd.V (Kd.int .u8) 5 ((((((w63b.setCell ⟨gb228, 4, none⟩ (.int .i64 (wrap64 (rd l0 6)))).setCell ⟨gb228, 5, none⟩ (.int .u16 (IntKind.u16.wrap (t235)))).setCell ⟨gb228, 6, none⟩ (.int .u8 (rd l0 9))).setCell ⟨gb228, 7, none⟩ (.int .u8 (rd l0 10))).setCell ⟨gb228, 8, none⟩ (.int .u8 (rd l0 11))).setCell ⟨gb228, 9, none⟩ (.int .u8 (rd l0 12))) w.heap.size (fun k_ => (P0_ k_ ∨ w.heap.size ≤ k_) ∧ some k_ ≠ (.slice Ao50 t225.length co50 : Value).ownBlock ∧ k_ ≠ gb192 ∧ k_ ≠ gb228) (.slice A43 y207.length c43) y207) := ⟨by (with_reducible repeat (first | apply Kd.V_alloc | apply Kd.V_drewN | apply Kd.V_drew)); exact Kd.V_mono (Kd.V_far (p := ⟨gb228, 9, none⟩) (Kd.V_far (p := ⟨gb228, 8, none⟩) (Kd.V_far (p := ⟨gb228, 7, none⟩) (Kd.V_far (p := ⟨gb228, 6, none⟩) (Kd.V_far (p := ⟨gb228, 5, none⟩) (Kd.V_far (p := ⟨gb228, 4, none⟩) (Kd.V_mono HO211.out (fun k_ hk => (⟨hk, hk.2.2.2⟩ : _ ∧ k_ ≠ gb228))) (fun _ hk => hk.2) (.int .i64 (wrap64 (rd l0 6)))) (fun _ hk => hk.2) (.int .u16 (IntKind.u16.wrap (t235)))) (fun _ hk => hk.2) (.int .u8 (rd l0 9))) (fun _ hk => hk.2) (.int .u8 (rd l0 10))) (fun _ hk => hk.2) (.int .u8 (rd l0 11))) (fun _ hk => hk.2) (.int .u8 (rd l0 12))) (fun _ hk => ⟨hk.1.1, ⟨hk.1.2.1, ⟨hk.1.2.2.1, hk.1.2.2.2⟩⟩⟩)⟩
                                have n4_ : Aside0 (Kd.V (Kd.int .u8) 5 ((((((w63b.setCell ⟨gb228, 4, none⟩ (.int .i64 (wrap64 (rd l0 6)))).setCell ⟨gb228, 5, none⟩ (.int .u16 (IntKind.u16.wrap (t235)))).setCell ⟨gb228, 6, none⟩ (.int .u8 (rd l0 9))).setCell ⟨gb228, 7, none⟩ (.int .u8 (rd l0 10))).setCell ⟨gb228, 8, none⟩ (.int .u8 (rd l0 11))).setCell ⟨gb228, 9, none⟩ (.int .u8 (rd l0 12))) w.heap.size (fun k_ => (P0_ k_ ∨ w.heap.size ≤ k_) ∧ some k_ ≠ (.slice Ao50 t225.length co50 : Value).ownBlock ∧ k_ ≠ gb192 ∧ k_ ≠ gb228) (.slice A44 y213.length c44) y213) := ⟨by (with_reducible repeat (first | apply Kd.V_alloc | apply Kd.V_drewN | apply Kd.V_drew)); exact Kd.V_mono (Kd.V_far (p := ⟨gb228, 9, none⟩) (Kd.V_far (p := ⟨gb228, 8, none⟩) (Kd.V_far (p := ⟨gb228, 7, none⟩) (Kd.V_far (p := ⟨gb228, 6, none⟩) (Kd.V_far (p := ⟨gb228, 5, none⟩) (Kd.V_far (p := ⟨gb228, 4, none⟩) (Kd.V_mono HO217.out (fun k_ hk => (⟨hk, hk.2.2.2⟩ : _ ∧ k_ ≠ gb228))) (fun _ hk => hk.2) (.int .i64 (wrap64 (rd l0 6)))) (fun _ hk => hk.2) (.int .u16 (IntKind.u16.wrap (t235)))) (fun _ hk => hk.2) (.int .u8 (rd l0 9))) (fun _ hk => hk.2) (.int .u8 (rd l0 10))) (fun _ hk => hk.2) (.int .u8 (rd l0 11))) (fun _ hk => hk.2) (.int .u8 (rd l0 12))) (fun _ hk => ⟨hk.1.1, ⟨hk.1.2.1, ⟨hk.1.2.2.1, hk.1.2.2.2⟩⟩⟩)⟩
                                have n5_ : Aside0 (Kd.V (Kd.int .u8) 5 ((((((w63b.setCell ⟨gb228, 4, none⟩ (.int .i64 (wrap64 (rd l0 6)))).setCell ⟨gb228, 5, none⟩ (.int .u16 (IntKind.u16.wrap (t235)))).setCell ⟨gb228, 6, none⟩ (.int .u8 (rd l0 9))).setCell ⟨gb228, 7, none⟩ (.int .u8 (rd l0 10))).setCell ⟨gb228, 8, none⟩ (.int .u8 (rd l0 11))).setCell ⟨gb228, 9, none⟩ (.int .u8 (rd l0 12))) w.heap.size (fun k_ => (P0_ k_ ∨ w.heap.size ≤ k_) ∧ some k_ ≠ (.slice Ao50 t225.length co50 : Value).ownBlock ∧ k_ ≠ gb192 ∧ k_ ≠ gb228) (.slice A41 y220.length c41) y220) := ⟨by (with_reducible repeat (first | apply Kd.V_alloc | apply Kd.V_drewN | apply Kd.V_drew)); exact Kd.V_mono (Kd.V_far (p := ⟨gb228, 9, none⟩) (Kd.V_far (p := ⟨gb228, 8, none⟩) (Kd.V_far (p := ⟨gb228, 7, none⟩) (Kd.V_far (p := ⟨gb228, 6, none⟩) (Kd.V_far (p := ⟨gb228, 5, none⟩) (Kd.V_far (p := ⟨gb228, 4, none⟩) (Kd.V_mono HO224.out (fun k_ hk => (⟨hk, hk.2.2.2⟩ : _ ∧ k_ ≠ gb228))) (fun _ hk => hk.2) (.int .i64 (wrap64 (rd l0 6)))) (fun _ hk => hk.2) (.int .u16 (IntKind.u16.wrap (t235)))) (fun _ hk => hk.2) (.int .u8 (rd l0 9))) (fun _ hk => hk.2) (.int .u8 (rd l0 10))) (fun _ hk => hk.2) (.int .u8 (rd l0 11))) (fun _ hk => hk.2) (.int .u8 (rd l0 12))) (fun _ hk => ⟨hk.1.1, ⟨hk.1.2.1, ⟨hk.1.2.2.1, hk.1.2.2.2⟩⟩⟩)⟩
                                have n6_ : Aside0 (Kd.R (Kd.int .u8) 5 ((((((w63b.setCell ⟨gb228, 4, none⟩ (.int .i64 (wrap64 (rd l0 6)))).setCell ⟨gb228, 5, none⟩ (.int .u16 (IntKind.u16.wrap (t235)))).setCell ⟨gb228, 6, none⟩ (.int .u8 (rd l0 9))).setCell ⟨gb228, 7, none⟩ (.int .u8 (rd l0 10))).setCell ⟨gb228, 8, none⟩ (.int .u8 (rd l0 11))).setCell ⟨gb228, 9, none⟩ (.int .u8 (rd l0 12))) w.heap.size (fun k_ => (w.heap.size ≤ k_)) (.slice Ao50 t225.length co50) t225) := ⟨by (with_reducible repeat (first | apply Kd.R_alloc | apply Kd.R_drewN | apply Kd.R_drew)); exact Kd.R_mono (Kd.R_far (p := ⟨gb228, 9, none⟩) (Kd.R_far (p := ⟨gb228, 8, none⟩) (Kd.R_far (p := ⟨gb228, 7, none⟩) (Kd.R_far (p := ⟨gb228, 6, none⟩) (Kd.R_far (p := ⟨gb228, 5, none⟩) (Kd.R_far (p := ⟨gb228, 4, none⟩) (Kd.R_types HO227.out BK228.out (by decide)) (fun _ hk => hk.2) (.int .i64 (wrap64 (rd l0 6)))) (fun _ hk => hk.2) (.int .u16 (IntKind.u16.wrap (t235)))) (fun _ hk => hk.2) (.int .u8 (rd l0 9))) (fun _ hk => hk.2) (.int .u8 (rd l0 10))) (fun _ hk => hk.2) (.int .u8 (rd l0 11))) (fun _ hk => hk.2) (.int .u8 (rd l0 12))) (fun _ hk => hk.1)⟩
                                have n7_ : Aside0 (Kd.V (Kd.int .u8) 5 ((((((w63b.setCell ⟨gb228, 4, none⟩ (.int .i64 (wrap64 (rd l0 6)))).setCell ⟨gb228, 5, none⟩ (.int .u16 (IntKind.u16.wrap (t235)))).setCell ⟨gb228, 6, none⟩ (.int .u8 (rd l0 9))).setCell ⟨gb228, 7, none⟩ (.int .u8 (rd l0 10))).setCell ⟨gb228, 8, none⟩ (.int .u8 (rd l0 11))).setCell ⟨gb228, 9, none⟩ (.int .u8 (rd l0 12))) w.heap.size (fun k_ => (P0_ k_ ∨ w.heap.size ≤ k_) ∧ some k_ ≠ (.slice Ao50 t225.length co50 : Value).ownBlock ∧ k_ ≠ gb192 ∧ k_ ≠ gb228) (.slice A64 y230.length c64) y230) := ⟨by (with_reducible repeat (first | apply Kd.V_alloc | apply Kd.V_drewN | apply Kd.V_drew)); exact Kd.V_mono (Kd.V_far (p := ⟨gb228, 9, none⟩) (Kd.V_far (p := ⟨gb228, 8, none⟩) (Kd.V_far (p := ⟨gb228, 7, none⟩) (Kd.V_far (p := ⟨gb228, 6, none⟩) (Kd.V_far (p := ⟨gb228, 5, none⟩) (Kd.V_far (p := ⟨gb228, 4, none⟩) (Kd.V_mono HO234.out (fun k_ hk => (⟨hk, hk.2.2.2⟩ : _ ∧ k_ ≠ gb228))) (fun _ hk => hk.2) (.int .i64 (wrap64 (rd l0 6)))) (fun _ hk => hk.2) (.int .u16 (IntKind.u16.wrap (t235)))) (fun _ hk => hk.2) (.int .u8 (rd l0 9))) (fun _ hk => hk.2) (.int .u8 (rd l0 10))) (fun _ hk => hk.2) (.int .u8 (rd l0 11))) (fun _ hk => hk.2) (.int .u8 (rd l0 12))) (fun _ hk => ⟨hk.1.1, ⟨hk.1.2.1, ⟨hk.1.2.2.1, hk.1.2.2.2⟩⟩⟩)⟩
                                have n8_ : Aside0 (Kd.V (Kd.int .u8) 5 ((((((w63b.setCell ⟨gb228, 4, none⟩ (.int .i64 (wrap64 (rd l0 6)))).setCell ⟨gb228, 5, none⟩ (.int .u16 (IntKind.u16.wrap (t235)))).setCell ⟨gb228, 6, none⟩ (.int .u8 (rd l0 9))).setCell ⟨gb228, 7, none⟩ (.int .u8 (rd l0 10))).setCell ⟨gb228, 8, none⟩ (.int .u8 (rd l0 11))).setCell ⟨gb228, 9, none⟩ (.int .u8 (rd l0 12))) w.heap.size (fun k_ => (P0_ k_ ∨ w.heap.size ≤ k_) ∧ some k_ ≠ (.slice Ao50 t225.length co50 : Value).ownBlock ∧ k_ ≠ gb192 ∧ k_ ≠ gb228) (.slice A65 y236.length c65) y236) := ⟨by (with_reducible repeat (first | apply Kd.V_alloc | apply Kd.V_drewN | apply Kd.V_drew)); exact Kd.V_mono (Kd.V_far (p := ⟨gb228, 9, none⟩) (Kd.V_far (p := ⟨gb228, 8, none⟩) (Kd.V_far (p := ⟨gb228, 7, none⟩) (Kd.V_far (p := ⟨gb228, 6, none⟩) (Kd.V_far (p := ⟨gb228, 5, none⟩) (Kd.V_far (p := ⟨gb228, 4, none⟩) (Kd.V_mono HO240.out (fun k_ hk => (⟨hk, hk.2.2.2⟩ : _ ∧ k_ ≠ gb228))) (fun _ hk => hk.2) (.int .i64 (wrap64 (rd l0 6)))) (fun _ hk => hk.2) (.int .u16 (IntKind.u16.wrap (t235)))) (fun _ hk => hk.2) (.int .u8 (rd l0 9))) (fun _ hk => hk.2) (.int .u8 (rd l0 10))) (fun _ hk => hk.2) (.int .u8 (rd l0 11))) (fun _ hk => hk.2) (.int .u8 (rd l0 12))) (fun _ hk => ⟨hk.1.1, ⟨hk.1.2.1, ⟨hk.1.2.2.1, hk.1.2.2.2⟩⟩⟩)⟩
                                have n9_ : Aside0 (((((((w63b.setCell ⟨gb228, 4, none⟩ (.int .i64 (wrap64 (rd l0 6)))).setCell ⟨gb228, 5, none⟩ (.int .u16 (IntKind.u16.wrap (t235)))).setCell ⟨gb228, 6, none⟩ (.int .u8 (rd l0 9))).setCell ⟨gb228, 7, none⟩ (.int .u8 (rd l0 10))).setCell ⟨gb228, 8, none⟩ (.int .u8 (rd l0 11))).setCell ⟨gb228, 9, none⟩ (.int .u8 (rd l0 12))).heap[gb192]? = some (.cells #[.int .i64 0, .int .i64 0, .int .i64 0, .int .u8 0, .int .i64 0, .int .u16 0, .int .u8 0, .int .u8 0, .int .u8 0, .int .u8 0, .slice none 0 0] 44 (0, 0))) := ⟨by (with_reducible repeat (first | refine blk_drewN ?_ _ | refine blk_drew ?_ | refine blk_alloc ?_ _)); refine blk_far ?_ NB192_228.out _; (with_reducible repeat (first | refine blk_drewN ?_ _ | refine blk_drew ?_ | refine blk_alloc ?_ _)); refine blk_far ?_ NB192_228.out _; (with_reducible repeat (first | refine blk_drewN ?_ _ | refine blk_drew ?_ | refine blk_alloc ?_ _)); refine blk_far ?_ NB192_228.out _; (with_reducible repeat (first | refine blk_drewN ?_ _ | refine blk_drew ?_ | refine blk_alloc ?_ _)); refine blk_far ?_ NB192_228.out _; (with_reducible repeat (first | refine blk_drewN ?_ _ | refine blk_drew ?_ | refine blk_alloc ?_ _)); refine blk_far ?_ NB192_228.out _; (with_reducible repeat (first | refine blk_drewN ?_ _ | refine blk_drew ?_ | refine blk_alloc ?_ _)); refine blk_far ?_ NB192_228.out _; (with_reducible repeat (first | refine blk_drewN ?_ _ | refine blk_drew ?_ | refine blk_alloc ?_ _)); exact BK192.out⟩
                                have n10_ : Aside0 (((((((w63b.setCell ⟨gb228, 4, none⟩ (.int .i64 (wrap64 (rd l0 6)))).setCell ⟨gb228, 5, none⟩ (.int .u16 (IntKind.u16.wrap (t235)))).setCell ⟨gb228, 6, none⟩ (.int .u8 (rd l0 9))).setCell ⟨gb228, 7, none⟩ (.int .u8 (rd l0 10))).setCell ⟨gb228, 8, none⟩ (.int .u8 (rd l0 11))).setCell ⟨gb228, 9, none⟩ (.int .u8 (rd l0 12))).heap[gb228]? = some (.cells #[.int .i64 (wrap64 (rd l0 0)), .int .i64 t212, .int .i64 t218, .int .u8 (rd l0 5), .int .i64 (wrap64 (rd l0 6)), .int .u16 (IntKind.u16.wrap (t235)), .int .u8 (rd l0 9), .int .u8 (rd l0 10), .int .u8 (rd l0 11), .int .u8 (rd l0 12), .slice Ao50 t225.length co50] 44 (0, 0))) := ⟨by (with_reducible repeat (first | refine blk_drewN ?_ _ | refine blk_drew ?_ | refine blk_alloc ?_ _)); refine blk_put (cs := #[.int .i64 (wrap64 (rd l0 0)), .int .i64 t212, .int .i64 t218, .int .u8 (rd l0 5), .int .i64 (wrap64 (rd l0 6)), .int .u16 (IntKind.u16.wrap (t235)), .int .u8 (rd l0 9), .int .u8 (rd l0 10), .int .u8 (rd l0 11), .int .u8 0, .slice Ao50 t225.length co50]) ?_ 9 _ rfl; (with_reducible repeat (first | refine blk_drewN ?_ _ | refine blk_drew ?_ | refine blk_alloc ?_ _)); refine blk_put (cs := #[.int .i64 (wrap64 (rd l0 0)), .int .i64 t212, .int .i64 t218, .int .u8 (rd l0 5), .int .i64 (wrap64 (rd l0 6)), .int .u16 (IntKind.u16.wrap (t235)), .int .u8 (rd l0 9), .int .u8 (rd l0 10), .int .u8 0, .int .u8 0, .slice Ao50 t225.length co50]) ?_ 8 _ rfl; (with_reducible repeat (first | refine blk_drewN ?_ _ | refine blk_drew ?_ | refine blk_alloc ?_ _)); refine blk_put (cs := #[.int .i64 (wrap64 (rd l0 0)), .int .i64 t212, .int .i64 t218, .int .u8 (rd l0 5), .int .i64 (wrap64 (rd l0 6)), .int .u16 (IntKind.u16.wrap (t235)), .int .u8 (rd l0 9), .int .u8 0, .int .u8 0, .int .u8 0, .slice Ao50 t225.length co50]) ?_ 7 _ rfl; (with_reducible repeat (first | refine blk_drewN ?_ _ | refine blk_drew ?_ | refine blk_alloc ?_ _)); refine blk_put (cs := #[.int .i64 (wrap64 (rd l0 0)), .int .i64 t212, .int .i64 t218, .int .u8 (rd l0 5), .int .i64 (wrap64 (rd l0 6)), .int .u16 (IntKind.u16.wrap (t235)), .int .u8 0, .int .u8 0, .int .u8 0, .int .u8 0, .slice Ao50 t225.length co50]) ?_ 6 _ rfl; (with_reducible repeat (first | refine blk_drewN ?_ _ | refine blk_drew ?_ | refine blk_alloc ?_ _)); refine blk_put (cs := #[.int .i64 (wrap64 (rd l0 0)), .int .i64 t212, .int .i64 t218, .int .u8 (rd l0 5), .int .i64 (wrap64 (rd l0 6)), .int .u16 0, .int .u8 0, .int .u8 0, .int .u8 0, .int .u8 0, .slice Ao50 t225.length co50]) ?_ 5 _ rfl; (with_reducible repeat (first | refine blk_drewN ?_ _ | refine blk_drew ?_ | refine blk_alloc ?_ _)); refine blk_put (cs := #[.int .i64 (wrap64 (rd l0 0)), .int .i64 t212, .int .i64 t218, .int .u8 (rd l0 5), .int .i64 0, .int .u16 0, .int .u8 0, .int .u8 0, .int .u8 0, .int .u8 0, .slice Ao50 t225.length co50]) ?_ 4 _ rfl; (with_reducible repeat (first | refine blk_drewN ?_ _ | refine blk_drew ?_ | refine blk_alloc ?_ _)); exact BK228.out⟩
                                have n11_ : Aside0 (Below w.heap.size w ((((((w63b.setCell ⟨gb228, 4, none⟩ (.int .i64 (wrap64 (rd l0 6)))).setCell ⟨gb228, 5, none⟩ (.int .u16 (IntKind.u16.wrap (t235)))).setCell ⟨gb228, 6, none⟩ (.int .u8 (rd l0 9))).setCell ⟨gb228, 7, none⟩ (.int .u8 (rd l0 10))).setCell ⟨gb228, 8, none⟩ (.int .u8 (rd l0 11))).setCell ⟨gb228, 9, none⟩ (.int .u8 (rd l0 12)))) := ⟨by repeat (first | (with_reducible first | exact HB.out | apply below_alloc | apply pw_below_drewN | apply below_drew1 | refine below_set ?_ GE192.out | refine below_set ?_ GE228.out) | exact HB.out)⟩
                                (try clear HO0)
                                (try clear HO199)
                                (try clear HO205)
                                (try clear HO211)
                                (try clear HO217)
                                (try clear HO224)
                                (try clear HO227)
                                (try clear HO234)
                                (try clear HO240)
                                (try clear BK192)
                                (try clear BK228)
                                (try clear HB)
                                generalize ((((((w63b.setCell ⟨gb228, 4, none⟩ (.int .i64 (wrap64 (rd l0 6)))).setCell ⟨gb228, 5, none⟩ (.int .u16 (IntKind.u16.wrap (t235)))).setCell ⟨gb228, 6, none⟩ (.int .u8 (rd l0 9))).setCell ⟨gb228, 7, none⟩ (.int .u8 (rd l0 10))).setCell ⟨gb228, 8, none⟩ (.int .u8 (rd l0 11))).setCell ⟨gb228, 9, none⟩ (.int .u8 (rd l0 12))) = w72 at n0_ n1_ n2_ n3_ n4_ n5_ n6_ n7_ n8_ n9_ n10_ n11_ ⊢
                                have HO0 := n0_
                                have HO199 := n1_
                                have HO205 := n2_
                                have HO211 := n3_
                                have HO217 := n4_
                                have HO224 := n5_
                                have HO227 := n6_
                                have HO234 := n7_
                                have HO240 := n8_
                                have BK192 := n9_
                                have BK228 := n10_
                                have HB := n11_
                                clear n0_ n1_ n2_ n3_ n4_ n5_ n6_ n7_ n8_ n9_ n10_ n11_
                                (try (rw [drewN_self w72]; generalize hq_ : World.drewN w72 _ = w72; have n0_ : Aside0 (Kd.V (Kd.int .u8) 5 w72 w.heap.size (fun k_ => (P0_ k_ ∨ w.heap.size ≤ k_) ∧ some k_ ≠ (.slice Ao50 t225.length co50 : Value).ownBlock ∧ k_ ≠ gb192 ∧ k_ ≠ gb228) (.slice (some ad193) l0.length c0) l0) := ⟨by rw [← hq_]; exact (by (with_reducible repeat (first | apply Kd.V_alloc | apply Kd.V_drewN | apply Kd.V_drew)); exact HO0.out)⟩; have n1_ : Aside0 (Kd.V (Kd.int .u8) 5 w72 w.heap.size (fun k_ => (P0_ k_ ∨ w.heap.size ≤ k_) ∧ some k_ ≠ (.slice Ao50 t225.length co50 : Value).ownBlock ∧ k_ ≠ gb192 ∧ k_ ≠ gb228) (.slice A40 y195.length c40) y195) := ⟨by rw [← hq_]; exact (by (with_reducible repeat (first | apply Kd.V_alloc | apply Kd.V_drewN | apply Kd.V_drew)); exact HO199.out)⟩; have n2_ : Aside0 (Kd.V (Kd.int .u8) 5 w72 w.heap.size (fun k_ => (P0_ k_ ∨ w.heap.size ≤ k_) ∧ some k_ ≠ (.slice Ao50 t225.length co50 : Value).ownBlock ∧ k_ ≠ gb192 ∧ k_ ≠ gb228) (.slice A41 y201.length c41) y201) := ⟨by rw [← hq_]; exact (by (with_reducible repeat (first | apply Kd.V_alloc | apply Kd.V_drewN | apply Kd.V_drew)); exact HO205.out)⟩; have n3_ : Aside0 (Kd.V (Kd.int .u8) 5 w72 w.heap.size (fun k_ => (P0_ k_ ∨ w.heap.size ≤ k_) ∧ some k_ ≠ (.slice Ao50 t225.length co50 : Value).ownBlock ∧ k_ ≠ gb192 ∧ k_ ≠ gb228) (.slice A43 y207.length c43) y207) := ⟨by rw [← hq_]; exact (by (with_reducible repeat (first | apply Kd.V_alloc | apply Kd.V_drewN | apply Kd.V_drew)); exact HO211.out)⟩; have n4_ : Aside0 (Kd.V (Kd.int .u8) 5 w72 w.heap.size (fun k_ => (P0_ k_ ∨ w.heap.size ≤ k_) ∧ some k_ ≠ (.slice Ao50 t225.length co50 : Value).ownBlock ∧ k_ ≠ gb192 ∧ k_ ≠ gb228) (.slice A44 y213.length c44) y213) := ⟨by rw [← hq_]; exact (by (with_reducible repeat (first | apply Kd.V_alloc | apply Kd.V_drewN | apply Kd.V_drew)); exact HO217.out)⟩; have n5_ : Aside0 (Kd.V (Kd.int .u8) 5 w72 w.heap.size (fun k_ => (P0_ k_ ∨ w.heap.size ≤ k_) ∧ some k_ ≠ (.slice Ao50 t225.length co50 : Value).ownBlock ∧ k_ ≠ gb192 ∧ k_ ≠ gb228) (.slice A41 y220.length c41) y220) := ⟨by rw [← hq_]; exact (by (with_reducible repeat (first | apply Kd.V_alloc | apply Kd.V_drewN | apply Kd.V_drew)); exact HO224.out)⟩; have n6_ : Aside0 (Kd.R (Kd.int .u8) 5 w72 w.heap.size (fun k_ => (w.heap.size ≤ k_)) (.slice Ao50 t225.length co50) t225) := ⟨by rw [← hq_]; exact (by (with_reducible repeat (first | apply Kd.R_alloc | apply Kd.R_drewN | apply Kd.R_drew)); exact HO227.out)⟩; have n7_ : Aside0 (Kd.V (Kd.int .u8) 5 w72 w.heap.size (fun k_ => (P0_ k_ ∨ w.heap.size ≤ k_) ∧ some k_ ≠ (.slice Ao50 t225.length co50 : Value).ownBlock ∧ k_ ≠ gb192 ∧ k_ ≠ gb228) (.slice A64 y230.length c64) y230) := ⟨by rw [← hq_]; exact (by (with_reducible repeat (first | apply Kd.V_alloc | apply Kd.V_drewN | apply Kd.V_drew)); exact HO234.out)⟩; have n8_ : Aside0 (Kd.V (Kd.int .u8) 5 w72 w.heap.size (fun k_ => (P0_ k_ ∨ w.heap.size ≤ k_) ∧ some k_ ≠ (.slice Ao50 t225.length co50 : Value).ownBlock ∧ k_ ≠ gb192 ∧ k_ ≠ gb228) (.slice A65 y236.length c65) y236) := ⟨by rw [← hq_]; exact (by (with_reducible repeat (first | apply Kd.V_alloc | apply Kd.V_drewN | apply Kd.V_drew)); exact HO240.out)⟩; have n9_ : Aside0 (w72.heap[gb192]? = some (.cells #[.int .i64 0, .int .i64 0, .int .i64 0, .int .u8 0, .int .i64 0, .int .u16 0, .int .u8 0, .int .u8 0, .int .u8 0, .int .u8 0, .slice none 0 0] 44 (0, 0))) := ⟨by rw [← hq_]; exact (by (with_reducible repeat (first | refine blk_drewN ?_ _ | refine blk_drew ?_ | refine blk_alloc ?_ _)); exact BK192.out)⟩; have n10_ : Aside0 (w72.heap[gb228]? = some (.cells #[.int .i64 (wrap64 (rd l0 0)), .int .i64 t212, .int .i64 t218, .int .u8 (rd l0 5), .int .i64 (wrap64 (rd l0 6)), .int .u16 (IntKind.u16.wrap (t235)), .int .u8 (rd l0 9), .int .u8 (rd l0 10), .int .u8 (rd l0 11), .int .u8 (rd l0 12), .slice Ao50 t225.length co50] 44 (0, 0))) := ⟨by rw [← hq_]; exact (by (with_reducible repeat (first | refine blk_drewN ?_ _ | refine blk_drew ?_ | refine blk_alloc ?_ _)); exact BK228.out)⟩; have n11_ : Aside0 (Below w.heap.size w w72) := ⟨by rw [← hq_]; exact (by repeat (first | (with_reducible first | exact HB.out | apply below_alloc | apply pw_below_drewN | apply below_drew1 | refine below_set ?_ GE192.out | refine below_set ?_ GE228.out) | exact HB.out))⟩; clear HO0 HO199 HO205 HO211 HO217 HO224 HO227 HO234 HO240 BK192 BK228 HB hq_; have HO0 := n0_; have HO199 := n1_; have HO205 := n2_; have HO211 := n3_; have HO217 := n4_; have HO224 := n5_; have HO227 := n6_; have HO234 := n7_; have HO240 := n8_; have BK192 := n9_; have BK228 := n10_; have HB := n11_; clear n0_ n1_ n2_ n3_ n4_ n5_ n6_ n7_ n8_ n9_ n10_ n11_))
                                have n0_ := Aside0.mk (Kd.V_drew HO0.out)
                                have n1_ := Aside0.mk (Kd.V_drew HO199.out)
                                have n2_ := Aside0.mk (Kd.V_drew HO205.out)
                                have n3_ := Aside0.mk (Kd.V_drew HO211.out)
                                have n4_ := Aside0.mk (Kd.V_drew HO217.out)
                                have n5_ := Aside0.mk (Kd.V_drew HO224.out)
                                have n6_ := Aside0.mk (Kd.R_drew HO227.out)
                                have n7_ := Aside0.mk (Kd.V_drew HO234.out)
                                have n8_ := Aside0.mk (Kd.V_drew HO240.out)
                                have n9_ := Aside0.mk (blk_drew BK192.out)
                                have n10_ := Aside0.mk (blk_drew BK228.out)
                                have n11_ := Aside0.mk (below_drew1 HB.out)
                                clear HO0
                                clear HO199
                                clear HO205
                                clear HO211
                                clear HO217
                                clear HO224
                                clear HO227
                                clear HO234
                                clear HO240
                                clear BK192
                                clear BK228
                                clear HB
                                have HO0 := n0_
                                have HO199 := n1_
                                have HO205 := n2_
                                have HO211 := n3_
                                have HO217 := n4_
                                have HO224 := n5_
                                have HO227 := n6_
                                have HO234 := n7_
                                have HO240 := n8_
                                have BK192 := n9_
                                have BK228 := n10_
                                have HB := n11_
                                clear n0_ n1_ n2_ n3_ n4_ n5_ n6_ n7_ n8_ n9_ n10_ n11_
                                have q74 : (t200 : Int) ≤ ((y201.length : Int) : Int) := of_decide_eq_true (by first | (with_reducible assumption) | assumption)
                                obtain ⟨i074, hi074, _, hsz74, _⟩ := info_parts info5
                                have hroom74 : y201.length ≤ c41 := (Kd.V_reads' HO205.out).2.1
                                have hC74 : Kd.F (Kd.int .u8) _ _ A41 y201.length y201 := (Kd.V_at (base := w.heap.size) HO205.out).2.2
                                have q074 : (0 : Int) ≤ (t200 : Int) := of_decide_eq_true (by first | (with_reducible assumption) | assumption)
                                have hcut74 := cut_from (P := Try.prog) 23 5 .i64 Try.underlying23 hi074 1 hsz74 A41 y201.length c41 t200 q074 q74
                                have hr74 := Kd.F_cut (m := (t200 : Int).toNat) (c := c41) hC74 (by omega) hroom74
                                obtain ⟨A74, hA74⟩ : ∃ A1, A1 = (if c41 = (t200 : Int).toNat then A41 else (A41 : Option Addr).map (·.add ((t200 : Int).toNat * 1))) := ⟨_, rfl⟩
                                obtain ⟨c74, hc74⟩ : ∃ c1, c1 = c41 - (t200 : Int).toNat := ⟨_, rfl⟩
                                have hy74 : y241.length = y201.length - (t200 : Int).toNat := (by rw [Ny241.out, List.length_drop] <;> omega)
                                rw [show (y201).drop (t200 : Int).toNat = y241 from Ny241.out.symm] at hr74
                                replace hr74 : Kd.F (Kd.int .u8) _ _ A74 y241.length y241 := (by rw [hA74]; exact hr74)
                                rw [← hy74, ← hA74, ← hc74] at hcut74
                                have HO245 := Aside0.mk (show Kd.V (Kd.int .u8) 5 _ w.heap.size _ (.slice A74 y241.length c74) y241 from Kd.V_mk (by rw [hy74, hc74]; exact Nat.sub_le_sub_right hroom74 _) hr74)
                                have HC245 := Aside0.mk (show y241.length ≤ c74 from by rw [hy74, hc74]; exact Nat.sub_le_sub_right hroom74 _)
                                clear hr74 hC74 hroom74 hi074 hsz74 hc74
                                have KY74 := Aside0.mk hy74
                                have KA74 := Aside0.mk hA74
                                clear hy74 hA74
                                replace q74 := eq_true q74
                                refine start_ (n := 7) (S := fun w' => w'.cell? ⟨gb228, 0, none⟩ = some (.int .i64 (wrap64 (rd l0 0))) ∧ w'.cell? ⟨gb228, 1, none⟩ = some (.int .i64 t212) ∧ w'.cell? ⟨gb228, 2, none⟩ = some (.int .i64 t218) ∧ w'.cell? ⟨gb228, 3, none⟩ = some (.int .u8 (rd l0 5)) ∧ w'.cell? ⟨gb228, 4, none⟩ = some (.int .i64 (wrap64 (rd l0 6))) ∧ w'.cell? ⟨gb228, 5, none⟩ = some (.int .u16 (IntKind.u16.wrap (t235))) ∧ w'.cell? ⟨gb228, 6, none⟩ = some (.int .u8 (rd l0 9)) ∧ w'.cell? ⟨gb228, 7, none⟩ = some (.int .u8 (rd l0 10)) ∧ w'.cell? ⟨gb228, 8, none⟩ = some (.int .u8 (rd l0 11)) ∧ w'.cell? ⟨gb228, 9, none⟩ = some (.int .u8 (rd l0 12)) ∧ w'.cell? ⟨gb228, 10, none⟩ = some (.slice Ao50 t225.length co50)) (ds := []) #[false, false, false, false, false, false, false] (by kernel_rfl) rfl rfl ⟨(blk_cell BK228.out 0).trans rfl, (blk_cell BK228.out 1).trans rfl, (blk_cell BK228.out 2).trans rfl, (blk_cell BK228.out 3).trans rfl, (blk_cell BK228.out 4).trans rfl, (blk_cell BK228.out 5).trans rfl, (blk_cell BK228.out 6).trans rfl, (blk_cell BK228.out 7).trans rfl, (blk_cell BK228.out 8).trans rfl, (blk_cell BK228.out 9).trans rfl, (blk_cell BK228.out 10).trans rfl⟩ (fun hHeld => ?_)
                                generalize w72.drew = w73 at HO0 HO199 HO205 HO211 HO217 HO224 HO227 HO234 HO240 BK192 BK228 HB HO245 hHeld ⊢
                                refine pure_ (i := 1) (N := some 69) (v := ?_) (a' := ?_) #[false, true, false, false, false, false, false] rfl rfl (by kernel_rfl) (fun _ _ _ h => h) (Or.inl ⟨by rfl, ?_⟩) ?_ ?_
                                rotate_left
                                · intro w'
                                  go_simp
                                  with_reducible rfl
                                rotate_left
                                · simp only [Act.put, List.setIfInBounds_toArray, List.set_cons_zero, List.set_cons_succ, i64_w, i32_w]
                                  rfl
                                refine pure_ (i := 2) (N := some 70) (v := ?_) (a' := ?_) #[false, true, true, false, false, false, false] rfl rfl (by kernel_rfl) (fun _ _ _ h => h) (Or.inl ⟨by rfl, ?_⟩) ?_ ?_
                                rotate_left
                                · intro w'
                                  go_simp
                                  with_reducible rfl
                                rotate_left
                                · simp only [Act.put, List.setIfInBounds_toArray, List.set_cons_zero, List.set_cons_succ, i64_w, i32_w]
                                  rfl
                                refine pure_ (i := 3) (N := some 71) (v := ?_) (a' := ?_) #[false, true, true, true, false, false, false] rfl rfl (by kernel_rfl) (fun _ _ _ h => h) (Or.inl ⟨by rfl, ?_⟩) ?_ ?_
                                rotate_left
                                · intro w'
                                  go_simp
                                  with_reducible rfl
                                rotate_left
                                · simp only [Act.put, List.setIfInBounds_toArray, List.set_cons_zero, List.set_cons_succ, i64_w, i32_w]
                                  rfl
                                refine take_ (i := 0) (N := some 68) (v := ?_) (a' := ?_) #[true, true, true, true, false, false, false] rfl rfl (by kernel_rfl) (fun _ _ _ h => h) (Or.inl ⟨by rfl, ?_⟩) hHeld ?_ ?_
                                rotate_left
                                · rintro w' ⟨s0, s1, s2, s3, s4, s5, s6, s7, s8, s9, s10⟩
                                  go_simp
                                  with_reducible rfl
                                rotate_left
                                · simp only [Act.put, List.setIfInBounds_toArray, List.set_cons_zero, List.set_cons_succ, i64_w, i32_w]
                                  rfl
                                refine one_ (i := 4) (N := none) #[true, true, true, true, true, false, false] rfl rfl (by kernel_rfl) (by decide) (fun K hK => ?_)
                                have hs75 : w73.cell? ⟨gb192, 0, none⟩ = some (.int .i64 0) := (blk_cell BK192.out 0).trans rfl
                                have hfs75 := blk_frozen BK192.out 0
                                have hns75_1 := NB228_192.out
                                have hms75_1 := NB192_228.out
                                have hs76 : w73.cell? ⟨gb192, 1, none⟩ = some (.int .i64 0) := (blk_cell BK192.out 1).trans rfl
                                have hfs76 := blk_frozen BK192.out 1
                                have hns76_1 := NB228_192.out
                                have hms76_1 := NB192_228.out
                                have hs77 : w73.cell? ⟨gb192, 2, none⟩ = some (.int .i64 0) := (blk_cell BK192.out 2).trans rfl
                                have hfs77 := blk_frozen BK192.out 2
                                have hns77_1 := NB228_192.out
                                have hms77_1 := NB192_228.out
                                have hs78 : w73.cell? ⟨gb192, 3, none⟩ = some (.int .u8 0) := (blk_cell BK192.out 3).trans rfl
                                have hfs78 := blk_frozen BK192.out 3
                                have hns78_1 := NB228_192.out
                                have hms78_1 := NB192_228.out
                                have hs79 : w73.cell? ⟨gb192, 4, none⟩ = some (.int .i64 0) := (blk_cell BK192.out 4).trans rfl
                                have hfs79 := blk_frozen BK192.out 4
                                have hns79_1 := NB228_192.out
                                have hms79_1 := NB192_228.out
                                have hs80 : w73.cell? ⟨gb192, 5, none⟩ = some (.int .u16 0) := (blk_cell BK192.out 5).trans rfl
                                have hfs80 := blk_frozen BK192.out 5
                                have hns80_1 := NB228_192.out
                                have hms80_1 := NB192_228.out
                                have hs81 : w73.cell? ⟨gb192, 6, none⟩ = some (.int .u8 0) := (blk_cell BK192.out 6).trans rfl
                                have hfs81 := blk_frozen BK192.out 6
                                have hns81_1 := NB228_192.out
                                have hms81_1 := NB192_228.out
                                have hs82 : w73.cell? ⟨gb192, 7, none⟩ = some (.int .u8 0) := (blk_cell BK192.out 7).trans rfl
                                have hfs82 := blk_frozen BK192.out 7
                                have hns82_1 := NB228_192.out
                                have hms82_1 := NB192_228.out
                                have hs83 : w73.cell? ⟨gb192, 8, none⟩ = some (.int .u8 0) := (blk_cell BK192.out 8).trans rfl
                                have hfs83 := blk_frozen BK192.out 8
                                have hns83_1 := NB228_192.out
                                have hms83_1 := NB192_228.out
                                have hs84 : w73.cell? ⟨gb192, 9, none⟩ = some (.int .u8 0) := (blk_cell BK192.out 9).trans rfl
                                have hfs84 := blk_frozen BK192.out 9
                                have hns84_1 := NB228_192.out
                                have hms84_1 := NB192_228.out
                                have hs85 : w73.cell? ⟨gb192, 10, none⟩ = some (.slice none 0 0) := (blk_cell BK192.out 10).trans rfl
                                have hfs85 := blk_frozen BK192.out 10
                                have hns85_1 := NB228_192.out
                                have hms85_1 := NB192_228.out
                                refine skip_ (w1 := ?_) (by rfl) rfl ?_ ?_
                                rotate_left
                                · go_simp
                                  rfl
                                have hne_ : gb228 ≠ gb192 := NB228_192.out
                                refine hK.out _ _ (by obtain ⟨z0_, z1_, z2_, z3_, z4_, z5_, z6_, z7_, z8_, z9_, z10_⟩ := hHeld; refine ⟨?_, ?_, ?_, ?_, ?_, ?_, ?_, ?_, ?_, ?_, ?_⟩ <;> (with_reducible repeat (first | assumption | refine far_cells hne_ ?_ _ _ | refine far_cells2 hne_ ?_ _ _))) (fun hHeld => ?_)
                                clear hne_
                                clear hK K
                                refine pure_ (i := 5) (N := some 3) (v := ?_) (a' := ?_) #[true, true, true, true, true, true, false] rfl rfl (by kernel_rfl) (fun _ _ _ h => h) (Or.inl ⟨by rfl, ?_⟩) ?_ ?_
                                rotate_left
                                · intro w'
                                  go_simp
                                  with_reducible rfl
                                rotate_left
                                · simp only [Act.put, List.setIfInBounds_toArray, List.set_cons_zero, List.set_cons_succ, i64_w, i32_w]
                                  rfl
                                refine pure_ (i := 6) (N := some 4) (v := ?_) (a' := ?_) #[true, true, true, true, true, true, true] rfl rfl (by kernel_rfl) (fun _ _ _ h => h) (Or.inl ⟨by rfl, ?_⟩) ?_ ?_
                                rotate_left
                                · intro w'
                                  go_simp
                                  with_reducible rfl
                                rotate_left
                                · simp only [Act.put, List.setIfInBounds_toArray, List.set_cons_zero, List.set_cons_succ, i64_w, i32_w]
                                  rfl
                                refine done_ (by kernel_rfl) ?_
                                try go_wp2
                                refine bodyPost_ret (results_ctt rfl _ _ gb192 44 #[.int .i64 (wrap64 (rd l0 0)), .int .i64 t212, .int .i64 t218, .int .u8 (rd l0 5), .int .i64 (wrap64 (rd l0 6)), .int .u16 (IntKind.u16.wrap (t235)), .int .u8 (rd l0 9), .int .u8 (rd l0 10), .int .u8 (rd l0 11), .int .u8 (rd l0 12), .slice Ao50 t225.length co50] (0, 0) _ rfl (by (with_reducible repeat (first | refine blk_drewN ?_ _ | refine blk_drew ?_ | refine blk_alloc ?_ _)); refine blk_put (cs := #[.int .i64 (wrap64 (rd l0 0)), .int .i64 t212, .int .i64 t218, .int .u8 (rd l0 5), .int .i64 (wrap64 (rd l0 6)), .int .u16 (IntKind.u16.wrap (t235)), .int .u8 (rd l0 9), .int .u8 (rd l0 10), .int .u8 (rd l0 11), .int .u8 (rd l0 12), .slice none 0 0]) ?_ 10 _ rfl; (with_reducible repeat (first | refine blk_drewN ?_ _ | refine blk_drew ?_ | refine blk_alloc ?_ _)); refine blk_put (cs := #[.int .i64 (wrap64 (rd l0 0)), .int .i64 t212, .int .i64 t218, .int .u8 (rd l0 5), .int .i64 (wrap64 (rd l0 6)), .int .u16 (IntKind.u16.wrap (t235)), .int .u8 (rd l0 9), .int .u8 (rd l0 10), .int .u8 (rd l0 11), .int .u8 0, .slice none 0 0]) ?_ 9 _ rfl; (with_reducible repeat (first | refine blk_drewN ?_ _ | refine blk_drew ?_ | refine blk_alloc ?_ _)); refine blk_put (cs := #[.int .i64 (wrap64 (rd l0 0)), .int .i64 t212, .int .i64 t218, .int .u8 (rd l0 5), .int .i64 (wrap64 (rd l0 6)), .int .u16 (IntKind.u16.wrap (t235)), .int .u8 (rd l0 9), .int .u8 (rd l0 10), .int .u8 0, .int .u8 0, .slice none 0 0]) ?_ 8 _ rfl; (with_reducible repeat (first | refine blk_drewN ?_ _ | refine blk_drew ?_ | refine blk_alloc ?_ _)); refine blk_put (cs := #[.int .i64 (wrap64 (rd l0 0)), .int .i64 t212, .int .i64 t218, .int .u8 (rd l0 5), .int .i64 (wrap64 (rd l0 6)), .int .u16 (IntKind.u16.wrap (t235)), .int .u8 (rd l0 9), .int .u8 0, .int .u8 0, .int .u8 0, .slice none 0 0]) ?_ 7 _ rfl; (with_reducible repeat (first | refine blk_drewN ?_ _ | refine blk_drew ?_ | refine blk_alloc ?_ _)); refine blk_put (cs := #[.int .i64 (wrap64 (rd l0 0)), .int .i64 t212, .int .i64 t218, .int .u8 (rd l0 5), .int .i64 (wrap64 (rd l0 6)), .int .u16 (IntKind.u16.wrap (t235)), .int .u8 0, .int .u8 0, .int .u8 0, .int .u8 0, .slice none 0 0]) ?_ 6 _ rfl; (with_reducible repeat (first | refine blk_drewN ?_ _ | refine blk_drew ?_ | refine blk_alloc ?_ _)); refine blk_put (cs := #[.int .i64 (wrap64 (rd l0 0)), .int .i64 t212, .int .i64 t218, .int .u8 (rd l0 5), .int .i64 (wrap64 (rd l0 6)), .int .u16 0, .int .u8 0, .int .u8 0, .int .u8 0, .int .u8 0, .slice none 0 0]) ?_ 5 _ rfl; (with_reducible repeat (first | refine blk_drewN ?_ _ | refine blk_drew ?_ | refine blk_alloc ?_ _)); refine blk_put (cs := #[.int .i64 (wrap64 (rd l0 0)), .int .i64 t212, .int .i64 t218, .int .u8 (rd l0 5), .int .i64 0, .int .u16 0, .int .u8 0, .int .u8 0, .int .u8 0, .int .u8 0, .slice none 0 0]) ?_ 4 _ rfl; (with_reducible repeat (first | refine blk_drewN ?_ _ | refine blk_drew ?_ | refine blk_alloc ?_ _)); refine blk_put (cs := #[.int .i64 (wrap64 (rd l0 0)), .int .i64 t212, .int .i64 t218, .int .u8 0, .int .i64 0, .int .u16 0, .int .u8 0, .int .u8 0, .int .u8 0, .int .u8 0, .slice none 0 0]) ?_ 3 _ rfl; (with_reducible repeat (first | refine blk_drewN ?_ _ | refine blk_drew ?_ | refine blk_alloc ?_ _)); refine blk_put (cs := #[.int .i64 (wrap64 (rd l0 0)), .int .i64 t212, .int .i64 0, .int .u8 0, .int .i64 0, .int .u16 0, .int .u8 0, .int .u8 0, .int .u8 0, .int .u8 0, .slice none 0 0]) ?_ 2 _ rfl; (with_reducible repeat (first | refine blk_drewN ?_ _ | refine blk_drew ?_ | refine blk_alloc ?_ _)); refine blk_put (cs := #[.int .i64 (wrap64 (rd l0 0)), .int .i64 0, .int .i64 0, .int .u8 0, .int .i64 0, .int .u16 0, .int .u8 0, .int .u8 0, .int .u8 0, .int .u8 0, .slice none 0 0]) ?_ 1 _ rfl; (with_reducible repeat (first | refine blk_drewN ?_ _ | refine blk_drew ?_ | refine blk_alloc ?_ _)); refine blk_put (cs := #[.int .i64 0, .int .i64 0, .int .i64 0, .int .u8 0, .int .i64 0, .int .u16 0, .int .u8 0, .int .u8 0, .int .u8 0, .int .u8 0, .slice none 0 0]) ?_ 0 _ rfl; (with_reducible repeat (first | refine blk_drewN ?_ _ | refine blk_drew ?_ | refine blk_alloc ?_ _)); exact BK192.out) Try.underlying44 rfl (by kernel_rfl)) rfl ?_
                                exact ⟨_, _, by first | rfl | (simp [errW_none, errW_some] <;> rfl) | (simp [*, errW_none, errW_some] <;> rfl), by (with_reducible repeat (first | apply Kd.R_alloc | apply Kd.R_drewN | apply Kd.R_drew)); exact Kd.R_mono (Kd.R_far (p := ⟨gb192, 10, none⟩) (Kd.R_far (p := ⟨gb192, 9, none⟩) (Kd.R_far (p := ⟨gb192, 8, none⟩) (Kd.R_far (p := ⟨gb192, 7, none⟩) (Kd.R_far (p := ⟨gb192, 6, none⟩) (Kd.R_far (p := ⟨gb192, 5, none⟩) (Kd.R_far (p := ⟨gb192, 4, none⟩) (Kd.R_far (p := ⟨gb192, 3, none⟩) (Kd.R_far (p := ⟨gb192, 2, none⟩) (Kd.R_far (p := ⟨gb192, 1, none⟩) (Kd.R_far (p := ⟨gb192, 0, none⟩) (Kd.R_types HO227.out BK192.out (by decide)) (fun _ hk => hk.2) (.int .i64 (wrap64 (rd l0 0)))) (fun _ hk => hk.2) (.int .i64 t212)) (fun _ hk => hk.2) (.int .i64 t218)) (fun _ hk => hk.2) (.int .u8 (rd l0 5))) (fun _ hk => hk.2) (.int .i64 (wrap64 (rd l0 6)))) (fun _ hk => hk.2) (.int .u16 (IntKind.u16.wrap (t235)))) (fun _ hk => hk.2) (.int .u8 (rd l0 9))) (fun _ hk => hk.2) (.int .u8 (rd l0 10))) (fun _ hk => hk.2) (.int .u8 (rd l0 11))) (fun _ hk => hk.2) (.int .u8 (rd l0 12))) (fun _ hk => hk.2) (.slice Ao50 t225.length co50)) (fun _ hk => hk.1), by (with_reducible repeat (first | apply Kd.V_alloc | apply Kd.V_drewN | apply Kd.V_drew)); exact Kd.V_mono (Kd.V_far (p := ⟨gb192, 10, none⟩) (Kd.V_far (p := ⟨gb192, 9, none⟩) (Kd.V_far (p := ⟨gb192, 8, none⟩) (Kd.V_far (p := ⟨gb192, 7, none⟩) (Kd.V_far (p := ⟨gb192, 6, none⟩) (Kd.V_far (p := ⟨gb192, 5, none⟩) (Kd.V_far (p := ⟨gb192, 4, none⟩) (Kd.V_far (p := ⟨gb192, 3, none⟩) (Kd.V_far (p := ⟨gb192, 2, none⟩) (Kd.V_far (p := ⟨gb192, 1, none⟩) (Kd.V_far (p := ⟨gb192, 0, none⟩) (Kd.V_mono HO245.out (fun k_ hk => (⟨hk, hk.2.2.1⟩ : _ ∧ k_ ≠ gb192))) (fun _ hk => hk.2) (.int .i64 (wrap64 (rd l0 0)))) (fun _ hk => hk.2) (.int .i64 t212)) (fun _ hk => hk.2) (.int .i64 t218)) (fun _ hk => hk.2) (.int .u8 (rd l0 5))) (fun _ hk => hk.2) (.int .i64 (wrap64 (rd l0 6)))) (fun _ hk => hk.2) (.int .u16 (IntKind.u16.wrap (t235)))) (fun _ hk => hk.2) (.int .u8 (rd l0 9))) (fun _ hk => hk.2) (.int .u8 (rd l0 10))) (fun _ hk => hk.2) (.int .u8 (rd l0 11))) (fun _ hk => hk.2) (.int .u8 (rd l0 12))) (fun _ hk => hk.2) (.slice Ao50 t225.length co50)) (fun _ hk => ⟨hk.1.1, hk.1.2.1⟩), by repeat (first | (with_reducible first | exact HB.out | apply below_alloc | apply pw_below_drewN | apply below_drew1 | refine below_set ?_ GE192.out | refine below_set ?_ GE228.out) | exact HB.out)⟩
                              · rw [if_neg c34] at H
                                exact absurd H (by simp)
                            · rw [if_neg c32] at H
                              exact absurd H (by simp)
                          · rw [if_neg c31] at H
                            exact absurd H (by simp)
                        · rw [if_neg c29] at H
                          exact absurd H (by simp)
                      · rw [if_neg c28] at H
                        exact absurd H (by simp)
                    · rw [if_neg c27] at H
                      exact absurd H (by simp)
                  · rw [if_neg c25] at H
                    exact absurd H (by simp)
                · rw [if_neg c23] at H
                  exact absurd H (by simp)
          · rw [if_neg c10] at H
            exact absurd H (by simp)
        · rw [if_neg c8] at H
          exact absurd H (by simp)
    · replace c4 := Bool.eq_false_iff.mpr c4
      subst c4
      have H1 : (some (0, 0, 0, 0, 0, 0, 0, 0, 0, 0, ([] : List Int), ([] : List Int), 11)) = some (r1, r2, r3, r4, r5, r6, r7, r8, r9, r10, r11, r12, r13) := by rw [if_neg (show ¬ (false = true) by decide)] at H; exact H
      clear H
      have H := H1
      clear H1
      simp only [Option.some.injEq, Prod.mk.injEq] at H
      obtain ⟨rfl, rfl, rfl, rfl, rfl, rfl, rfl, rfl, rfl, rfl, rfl, rfl, rfl⟩ := H
      go_enter Try.func19, Try.ntmps19
      go_wp2_with (first | ((with_reducible refine gate_dst (N := 2) rfl ?_); refine box_event ?hg (N := 2) ?hd (cs := #[.int .i64 0, .int .i64 0, .int .i64 0, .int .u8 0, .int .i64 0, .int .u16 0, .int .u8 0, .int .u8 0, .int .u8 0, .int .u8 0, .slice none 0 0]) (t := 44) ?hr ?_; (case hd => rfl); (case hg => rfl); (case hr => first | (go_simp; done) | (go_simp; rfl)); intro gb192 hg w86 hbox hb; have n0_ := Aside0.mk (Kd.V_below (Kd.V_elderB (by (with_reducible repeat (first | apply Kd.V_alloc | apply Kd.V_drewN | apply Kd.V_drew)); exact HO0.out) gb192 (Nat.le_of_eq hg.symm)) hb); have n1_ := Aside0.mk (below_step (by repeat (first | (with_reducible first | exact HB.out | apply below_alloc | apply pw_below_drewN | apply below_drew1) | exact HB.out)) hb); have n2_ := Aside0.mk (hbox); have n3_ := Aside0.mk ((by rw [hg]; exact (below_size (by repeat (first | (with_reducible first | exact HB.out | apply below_alloc | apply pw_below_drewN | apply below_drew1) | exact HB.out))) : w.heap.size ≤ gb192)); have n4_ := Aside0.mk ((by rw [hg]; exact (below_size (by repeat (first | (with_reducible first | exact HB.out | apply below_alloc | apply pw_below_drewN | apply below_drew1) | exact HB.out))) : w.heap.size ≤ gb192)); clear HO0; clear HB; have HO0 := n0_; have HB := n1_; have BK192 := n2_; have GW192 := n3_; have GE192 := n4_; clear n0_ n1_ n2_ n3_ n4_; clear hb hbox hg; have p193 : 0 ≤ (0 : Int) := (by omega); have q193 : 0 < (l0.length : Int) := of_decide_eq_true (by first | (with_reducible assumption) | assumption); obtain ⟨ad193, e193, hx193_0⟩ := Kd.at_int (Kd.V_reads' HO0.out).2.2 0 p193 q193; cases e193; have qi193 : (0 < l0.length) = True := eq_true (by omega); (try rw [show ((0 : Int)).toNat = 0 from rfl] at hx193_0); (try rw [Addr.add_zero'] at hx193_0); replace p193 := eq_true p193; replace q193 := eq_true q193) | ((with_reducible refine gate_callee (f := 22) rfl ?_); refine goesL_ (some 13) rfl rfl Try.func22 (by kernel_rfl) rfl #[.int .i64 (wrap64 (rd l0 0)), .int .i64 1, .int .i64 8] rfl (by (try simp only [List.map_toArray, List.map_cons, List.map_nil]); first | done | rfl | (simp only [List.length_drop, List.length_take]; rfl)) ?_; (with_reducible refine (script_within.calls (wrap64 (rd l0 0)) 1 8 false _ A3.out).mono ?_); rintro e w' ⟨rfl, ⟨nd, rfl⟩⟩; refine ⟨_, rfl, ?_⟩; (try (rw [drewN_self w86]; generalize hq_ : World.drewN w86 _ = w86; have n0_ : Aside0 (Kd.V (Kd.int .u8) 5 w86 w.heap.size (fun k_ => (P0_ k_ ∨ w.heap.size ≤ k_) ∧ k_ ≠ gb192) (.slice (some ad193) l0.length c0) l0) := ⟨by rw [← hq_]; exact (by (with_reducible repeat (first | apply Kd.V_alloc | apply Kd.V_drewN | apply Kd.V_drew)); exact HO0.out)⟩; have n1_ : Aside0 (w86.heap[gb192]? = some (.cells #[.int .i64 0, .int .i64 0, .int .i64 0, .int .u8 0, .int .i64 0, .int .u16 0, .int .u8 0, .int .u8 0, .int .u8 0, .int .u8 0, .slice none 0 0] 44 (0, 0))) := ⟨by rw [← hq_]; exact (by (with_reducible repeat (first | refine blk_drewN ?_ _ | refine blk_drew ?_ | refine blk_alloc ?_ _)); exact BK192.out)⟩; have n2_ : Aside0 (Below w.heap.size w w86) := ⟨by rw [← hq_]; exact (by repeat (first | (with_reducible first | exact HB.out | apply below_alloc | apply pw_below_drewN | apply below_drew1 | refine below_set ?_ GE192.out) | exact HB.out))⟩; clear HO0 BK192 HB hq_; have HO0 := n0_; have BK192 := n1_; have HB := n2_; clear n0_ n1_ n2_)); have hcz87_0 : w86.cell? ⟨gb192, 0, none⟩ = some (.int .i64 0) := (blk_cell BK192.out 0).trans rfl; have hcz87_1 : w86.cell? ⟨gb192, 1, none⟩ = some (.int .i64 0) := (blk_cell BK192.out 1).trans rfl; have hcz87_2 : w86.cell? ⟨gb192, 2, none⟩ = some (.int .i64 0) := (blk_cell BK192.out 2).trans rfl; have hcz87_3 : w86.cell? ⟨gb192, 3, none⟩ = some (.int .u8 0) := (blk_cell BK192.out 3).trans rfl; have hcz87_4 : w86.cell? ⟨gb192, 4, none⟩ = some (.int .i64 0) := (blk_cell BK192.out 4).trans rfl; have hcz87_5 : w86.cell? ⟨gb192, 5, none⟩ = some (.int .u16 0) := (blk_cell BK192.out 5).trans rfl; have hcz87_6 : w86.cell? ⟨gb192, 6, none⟩ = some (.int .u8 0) := (blk_cell BK192.out 6).trans rfl; have hcz87_7 : w86.cell? ⟨gb192, 7, none⟩ = some (.int .u8 0) := (blk_cell BK192.out 7).trans rfl; have hcz87_8 : w86.cell? ⟨gb192, 8, none⟩ = some (.int .u8 0) := (blk_cell BK192.out 8).trans rfl; have hcz87_9 : w86.cell? ⟨gb192, 9, none⟩ = some (.int .u8 0) := (blk_cell BK192.out 9).trans rfl; have hcz87_10 : w86.cell? ⟨gb192, 10, none⟩ = some (.slice none 0 0) := (blk_cell BK192.out 10).trans rfl; have hfz87_0 := blk_frozen BK192.out 0; have hfz87_1 := blk_frozen BK192.out 1; have hfz87_2 := blk_frozen BK192.out 2; have hfz87_3 := blk_frozen BK192.out 3; have hfz87_4 := blk_frozen BK192.out 4; have hfz87_5 := blk_frozen BK192.out 5; have hfz87_6 := blk_frozen BK192.out 6; have hfz87_7 := blk_frozen BK192.out 7; have hfz87_8 := blk_frozen BK192.out 8; have hfz87_9 := blk_frozen BK192.out 9; have hfz87_10 := blk_frozen BK192.out 10))
      refine bodyPost_ret (results_ctt rfl _ _ gb192 44 #[.int .i64 0, .int .i64 0, .int .i64 0, .int .u8 0, .int .i64 0, .int .u16 0, .int .u8 0, .int .u8 0, .int .u8 0, .int .u8 0, .slice none 0 0] (0, 0) _ rfl (by (with_reducible repeat (first | refine blk_drewN ?_ _ | refine blk_drew ?_ | refine blk_alloc ?_ _)); refine blk_put (cs := #[.int .i64 0, .int .i64 0, .int .i64 0, .int .u8 0, .int .i64 0, .int .u16 0, .int .u8 0, .int .u8 0, .int .u8 0, .int .u8 0, .slice none 0 0]) ?_ 10 _ rfl; (with_reducible repeat (first | refine blk_drewN ?_ _ | refine blk_drew ?_ | refine blk_alloc ?_ _)); refine blk_put (cs := #[.int .i64 0, .int .i64 0, .int .i64 0, .int .u8 0, .int .i64 0, .int .u16 0, .int .u8 0, .int .u8 0, .int .u8 0, .int .u8 0, .slice none 0 0]) ?_ 9 _ rfl; (with_reducible repeat (first | refine blk_drewN ?_ _ | refine blk_drew ?_ | refine blk_alloc ?_ _)); refine blk_put (cs := #[.int .i64 0, .int .i64 0, .int .i64 0, .int .u8 0, .int .i64 0, .int .u16 0, .int .u8 0, .int .u8 0, .int .u8 0, .int .u8 0, .slice none 0 0]) ?_ 8 _ rfl; (with_reducible repeat (first | refine blk_drewN ?_ _ | refine blk_drew ?_ | refine blk_alloc ?_ _)); refine blk_put (cs := #[.int .i64 0, .int .i64 0, .int .i64 0, .int .u8 0, .int .i64 0, .int .u16 0, .int .u8 0, .int .u8 0, .int .u8 0, .int .u8 0, .slice none 0 0]) ?_ 7 _ rfl; (with_reducible repeat (first | refine blk_drewN ?_ _ | refine blk_drew ?_ | refine blk_alloc ?_ _)); refine blk_put (cs := #[.int .i64 0, .int .i64 0, .int .i64 0, .int .u8 0, .int .i64 0, .int .u16 0, .int .u8 0, .int .u8 0, .int .u8 0, .int .u8 0, .slice none 0 0]) ?_ 6 _ rfl; (with_reducible repeat (first | refine blk_drewN ?_ _ | refine blk_drew ?_ | refine blk_alloc ?_ _)); refine blk_put (cs := #[.int .i64 0, .int .i64 0, .int .i64 0, .int .u8 0, .int .i64 0, .int .u16 0, .int .u8 0, .int .u8 0, .int .u8 0, .int .u8 0, .slice none 0 0]) ?_ 5 _ rfl; (with_reducible repeat (first | refine blk_drewN ?_ _ | refine blk_drew ?_ | refine blk_alloc ?_ _)); refine blk_put (cs := #[.int .i64 0, .int .i64 0, .int .i64 0, .int .u8 0, .int .i64 0, .int .u16 0, .int .u8 0, .int .u8 0, .int .u8 0, .int .u8 0, .slice none 0 0]) ?_ 4 _ rfl; (with_reducible repeat (first | refine blk_drewN ?_ _ | refine blk_drew ?_ | refine blk_alloc ?_ _)); refine blk_put (cs := #[.int .i64 0, .int .i64 0, .int .i64 0, .int .u8 0, .int .i64 0, .int .u16 0, .int .u8 0, .int .u8 0, .int .u8 0, .int .u8 0, .slice none 0 0]) ?_ 3 _ rfl; (with_reducible repeat (first | refine blk_drewN ?_ _ | refine blk_drew ?_ | refine blk_alloc ?_ _)); refine blk_put (cs := #[.int .i64 0, .int .i64 0, .int .i64 0, .int .u8 0, .int .i64 0, .int .u16 0, .int .u8 0, .int .u8 0, .int .u8 0, .int .u8 0, .slice none 0 0]) ?_ 2 _ rfl; (with_reducible repeat (first | refine blk_drewN ?_ _ | refine blk_drew ?_ | refine blk_alloc ?_ _)); refine blk_put (cs := #[.int .i64 0, .int .i64 0, .int .i64 0, .int .u8 0, .int .i64 0, .int .u16 0, .int .u8 0, .int .u8 0, .int .u8 0, .int .u8 0, .slice none 0 0]) ?_ 1 _ rfl; (with_reducible repeat (first | refine blk_drewN ?_ _ | refine blk_drew ?_ | refine blk_alloc ?_ _)); refine blk_put (cs := #[.int .i64 0, .int .i64 0, .int .i64 0, .int .u8 0, .int .i64 0, .int .u16 0, .int .u8 0, .int .u8 0, .int .u8 0, .int .u8 0, .slice none 0 0]) ?_ 0 _ rfl; (with_reducible repeat (first | refine blk_drewN ?_ _ | refine blk_drew ?_ | refine blk_alloc ?_ _)); exact BK192.out) Try.underlying44 rfl (by kernel_rfl)) rfl ?_
      exact ⟨_, _, by first | rfl | (simp [errW_none, errW_some] <;> rfl) | (simp [*, errW_none, errW_some] <;> rfl), by first | exact Kd.R_nil _ _ _ _ _ | exact Kd.N_nil _ _ _ _ _ | exact Kd.V_nil _ _ _ _ _ | exact Kd.Q_nil _ _ _ _ _ | exact Kd.S_nil _ _ _ _ _, by first | exact Kd.V_nil _ _ _ _ _ | exact Kd.V_mono (Kd.R_V (by first | exact Kd.R_nil _ _ _ _ _ | exact Kd.N_nil _ _ _ _ _ | exact Kd.V_nil _ _ _ _ _ | exact Kd.Q_nil _ _ _ _ _ | exact Kd.S_nil _ _ _ _ _)) (fun k_ hk => by first | exact ⟨(.inr (hk.1)), hk.2⟩ | exact (.inr (hk))), by repeat (first | (with_reducible first | exact HB.out | apply below_alloc | apply pw_below_drewN | apply below_drew1 | refine below_set ?_ GE192.out) | exact HB.out)⟩
  · rw [if_neg c2] at H
    exact absurd H (by simp)

end Go.Proofs.Ytgjckdkpkgmbkaa.P
