import Derived.Test.YtgjckdkpkgmbkaaCS4
import Derived.LoopN
import Derived.Outline
-- Written by xprint.py (a program of this session's, over the kit's printer) out of the translation. Not trusted: Lean checks it.
namespace Go.Proofs.Ytgjckdkpkgmbkaa.P
open Go.RowKit Go.Proofs.YtgjckdkpkgmbkaaW.PrintWords Go.Proofs.YtgjckdkpkgmbkaaW.PrintLast Go.Proofs.YtgjckdkpkgmbkaaW.PrintMore Go.Proofs.Ytgjckdkpkgmbkaa.Hand
attribute [local go_sem] max2_int min2_int max_two min_two max_three min_three max_four min_four   -- for this text's walks alone
set_option linter.unusedVariables false
set_option linter.unusedSimpArgs false

/-! ### script_Parse: function 8 -/
def script_Parse.l0 : Nat → List Int → List (S44) → Option ((List (S44)) × Int)
  | 0, _, _ => none
  | k + 1, x5, x7 => if (x5.length : Int) > 0 then (if (x7.length : Int) = 3000 then (some (([] : List (S44)), 5)) else ((script_first.f x5).bind fun bt257 => (if bt257.2.2.2.2.2.2.2.2.2.2.2.2 = 0 then (if x7.length < 1954687338268 then (script_Parse.l0 k bt257.2.2.2.2.2.2.2.2.2.2.2.1 (x7 ++ [(⟨bt257.1, bt257.2.1, bt257.2.2.1, bt257.2.2.2.1, (⟨bt257.2.2.2.2.1, bt257.2.2.2.2.2.1, (⟨bt257.2.2.2.2.2.2.1, bt257.2.2.2.2.2.2.2.1, bt257.2.2.2.2.2.2.2.2.1, bt257.2.2.2.2.2.2.2.2.2.1⟩ : S37)⟩ : S42), bt257.2.2.2.2.2.2.2.2.2.2.1⟩ : S44)])) else (none)) else (some (([] : List (S44)), bt257.2.2.2.2.2.2.2.2.2.2.2.2))))) else (some (x7, 0))
def script_Parse.f (k : Nat) (l0 : List Int) : Option ((List (S44)) × Int) := (check_Open.f k l0).bind fun bt246 => (if bt246.2 = 0 then ((bytes_CutPrefix.f bt246.1 (([87, 83] : List Int))).bind fun bt253 => (if bt253.2 = true then (script_Parse.l0 k bt253.1 ([] : List (S44))) else (some (([] : List (S44)), 3)))) else (some (([] : List (S44)), bt246.2)))
theorem script_Parse.mono_l : ∀ k, (∀ y0 y1, LeO (script_Parse.l0 k y0 y1) (script_Parse.l0 (k + 1) y0 y1))
  | 0 => fun _ _ r h => by simp [script_Parse.l0] at h
  | k + 1 => by
    have ih0 := script_Parse.mono_l k
    · intro y0 y1
      unfold script_Parse.l0
      repeat' first
      | (with_reducible exact ih0 _ _)
      | (with_reducible exact check_Open.mono _ _)
      | (with_reducible exact LeO.refl _)
      | (with_reducible exact LeO.none _)
      | (with_reducible refine LeO.ite ?_ ?_)
      | (with_reducible refine LeO.bind ?_ (fun _ => ?_))
      | exact ih0 _ _
      | exact check_Open.mono _ _
      | exact LeO.none _
      | refine LeO.ite ?_ ?_
      | refine LeO.bind ?_ (fun _ => ?_)
theorem script_Parse.mono : ∀ a0 k, LeO (script_Parse.f k a0) (script_Parse.f (k + 1) a0) := by
  intro a0 k
  have ih0 := script_Parse.mono_l k
  unfold script_Parse.f
  repeat' first
      | (with_reducible exact ih0 _ _)
      | (with_reducible exact check_Open.mono _ _)
      | (with_reducible exact LeO.refl _)
      | (with_reducible exact LeO.none _)
      | (with_reducible refine LeO.ite ?_ ?_)
      | (with_reducible refine LeO.bind ?_ (fun _ => ?_))
      | exact ih0 _ _
      | exact check_Open.mono _ _
      | exact LeO.none _
      | refine LeO.ite ?_ ?_
      | refine LeO.bind ?_ (fun _ => ?_)
set_option maxHeartbeats 8000000 in
set_option maxRecDepth 100000 in
theorem script_Parse.calls (k : Nat) (A0 : Option Addr) (c0 : Nat) (l0 : List Int) (r1 : List (S44)) (r2 : Int) (w : World) (hr0 : Kd.C (Kd.int .u8) w A0 l0.length l0) (hc0 : l0.length ≤ c0) (h : script_Parse.f k l0 = some (r1, r2)) :
    Calls Try.prog 8 #[.slice A0 l0.length c0] w fun e w' => ∃ v0_ : Value, e = .returned (.tuple #[v0_, .int .i64 r2]) ∧ Kd.S k44 44 w' w.heap.size (fun _ => True) v0_ r1 ∧ Below w.heap.size w w' := by
  have hu44 := Try.underlying44
  have HR0 := Aside0.mk hr0
  have HC0 := Aside0.mk hc0
  clear hr0 hc0
  have HB := Aside0.mk (Below.refl w.heap.size w)
  have H : ((check_Open.f k l0).bind fun bt246 => (if bt246.2 = 0 then ((bytes_CutPrefix.f bt246.1 (([87, 83] : List Int))).bind fun bt253 => (if bt253.2 = true then (script_Parse.l0 k bt253.1 ([] : List (S44))) else (some (([] : List (S44)), 3)))) else (some (([] : List (S44)), bt246.2)))) = some (r1, r2) := h
  clear h
  replace H := Option.bind_eq_some_iff.mp H
  obtain ⟨⟨t246, t247⟩, A20, H⟩ := H
  replace H : (if t247 = 0 then ((bytes_CutPrefix.f t246 (([87, 83] : List Int))).bind fun bt253 => (if bt253.2 = true then (script_Parse.l0 k bt253.1 ([] : List (S44))) else (some (([] : List (S44)), 3)))) else (some (([] : List (S44)), t247))) = some (r1, r2) := H
  have A2 := Aside0.mk A20
  clear A20
  by_cases c3 : t247 = 0
  · rw [if_pos c3] at H
    have c3b0 : (t247 == 0) = true := beq_iff_eq.mpr c3
    have c3b1 : (t247 != 0) = false := bne_eq_false_iff_eq.mpr c3
    clear c3
    obtain ⟨y250, hy250⟩ : ∃ y_ : List Int, y_ = (([87, 83] : List Int)) := ⟨_, rfl⟩
    replace H : ((bytes_CutPrefix.f t246 y250).bind fun bt253 => (if bt253.2 = true then (script_Parse.l0 k bt253.1 ([] : List (S44))) else (some (([] : List (S44)), 3)))) = some (r1, r2) := by first | (rw [hy250]; with_reducible exact H) | (have H2_ := (Option.bind_some _ _).symm.trans H; rw [hy250]; with_reducible exact H2_) | (have H2_ := (Option.bind_some _ _).symm.trans H; with_reducible exact H2_) | with_reducible exact H | (rw [hy250]; exact H) | exact H
    have Ny250 := Aside0.mk hy250
    clear hy250
    replace H := Option.bind_eq_some_iff.mp H
    obtain ⟨⟨t253, t256⟩, A40, H⟩ := H
    replace H : (if t256 = true then (script_Parse.l0 k t253 ([] : List (S44))) else (some (([] : List (S44)), 3))) = some (r1, r2) := H
    have A4 := Aside0.mk A40
    clear A40
    by_cases c5 : t256 = true
    · subst c5
      have H1 : (script_Parse.l0 k t253 ([] : List (S44))) = some (r1, r2) := by rw [if_pos rfl] at H; exact H
      clear H
      have H := H1
      clear H1
      have H' := Aside0.mk H
      clear H
      go_enter Try.func8, Try.ntmps8
      have kc := fun W : World => Lib.run_convert_bytes_const (P := Try.prog) W 23 5 #[.int .u8 87, .int .u8 83] 2 2 Try.underlying23 Try.underlying5
      go_wp2_with (first | ((with_reducible refine gate_callee (f := 17) rfl ?_); refine goesL_ (some 13) rfl rfl Try.func17 (by kernel_rfl) rfl #[.slice A0 l0.length c0] rfl (by (try simp only [List.map_toArray, List.map_cons, List.map_nil]); first | done | rfl | (simp only [List.length_drop, List.length_take]; rfl)) ?_; (with_reducible refine (check_Open.calls k _ _ l0 t246 t247 _ ?side1 ?side2 A2.out).mono ?_); (case side1 => repeat (first | exact HR0.out | (with_reducible refine Kd.C_alloc ?_ _) | (with_reducible refine Kd.C_drewN ?_ _) | (with_reducible refine Kd.C_drew ?_))); (case side2 => exact HC0.out); rintro e w6 ⟨v248, rfl, ho0, hb⟩; refine ⟨_, rfl, ?_⟩; have n0_ := Aside0.mk (Kd.R_lower ho0 (below_size (by repeat (first | (with_reducible first | exact HB.out | apply below_alloc | apply pw_below_drewN | apply below_drew1) | exact HB.out)))); have n1_ := Aside0.mk (below_step (by repeat (first | (with_reducible first | exact HB.out | apply below_alloc | apply pw_below_drewN | apply below_drew1) | exact HB.out)) hb); clear HB; have HO249 := n0_; have HB := n1_; clear n0_ n1_; (try clear hb); (try clear hb2); (try clear hk); (try clear hi); (try clear ho0); obtain ⟨Ao9, co9, eo9⟩ := Kd.R_slice HO249.out; subst eo9) | ((with_reducible refine gate_callee (f := 18) rfl ?_); refine goesL_ (some 23) rfl rfl Try.func18 (by kernel_rfl) rfl #[.slice Ao9 t246.length co9, .slice (some ⟨w6.heap.size, 0, none⟩) 2 2] rfl (by (try simp only [List.map_toArray, List.map_cons, List.map_nil]); first | done | rfl | (simp only [List.length_drop, List.length_take]; rfl)) ?_; (refine (show Calls Try.prog _ #[.slice Ao9 t246.length co9, .slice (some ⟨w6.heap.size, 0, none⟩) ([87, 83] : List Int).length 2] _ _ from ?_)); (refine (bytes_CutPrefix.calls (fun k_ => some k_ = (.slice Ao9 t246.length co9 : Value).ownBlock) _ _ t246 _ _ ([87, 83] : List Int) t253 true _ ?side1 ?side2 ?side3 (by rw [← Ny250.out]; exact A4.out)).mono ?_); (case side1 => exact Kd.R_V (Kd.R_tight rfl (Kd.R_alloc HO249.out _))); (case side2 => exact C_const w6 [87, 83] (by decide) 5 (2, 3)); (case side3 => decide); rintro e w11 ⟨v254, rfl, ho0, hb⟩; refine ⟨_, rfl, ?_⟩; have n0_ := Aside0.mk (Kd.R_below (by (with_reducible repeat (first | apply Kd.R_alloc | apply Kd.R_drewN | apply Kd.R_drew)); exact HO249.out) hb); have n2_ := Aside0.mk (Kd.V_lower (Kd.V_mono (ok' := fun _ => True) ho0 (fun _ _ => trivial)) (below_size (by repeat (first | (with_reducible first | exact HB.out | apply below_alloc | apply pw_below_drewN | apply below_drew1) | exact HB.out)))); have n3_ := Aside0.mk (below_step (by repeat (first | (with_reducible first | exact HB.out | apply below_alloc | apply pw_below_drewN | apply below_drew1) | exact HB.out)) hb); clear HO249; clear HB; have HO249 := n0_; have HO255 := n2_; have HB := n3_; clear n0_ n2_ n3_; (try clear hb); (try clear hb2); (try clear hk); (try clear hi); (try clear ho0)))
      go_loopg [5, 7] k (fun kq v5 v7 w' => ∃ (x5_1 : List Int) (x7_1 : List (S44)), Aside0 (script_Parse.l0 kq x5_1 x7_1 = some (r1, r2)) ∧ Aside0 (kq ≤ k) ∧ Aside0 (Kd.V (Kd.int .u8) 5 w' w.heap.size (fun k_ => some k_ ≠ (v7 : Value).ownBlock) v5 x5_1) ∧ Aside0 (Kd.S k44 44 w' w.heap.size (fun _ => True) v7 x7_1) ∧ Aside0 (Below w.heap.size w w'))
      case atStart => exact ⟨(t253), (([] : List (S44))), H', ⟨Nat.le_refl _⟩, ⟨by (with_reducible repeat (first | apply Kd.V_alloc | apply Kd.V_drewN | apply Kd.V_drew)); exact Kd.V_mono HO255.out (fun _ hk => (by simp [Value.ownBlock]))⟩, ⟨by first | exact Kd.S_nil _ _ _ _ _ | exact Kd.N_nil _ _ _ _ _ | exact Kd.V_nil _ _ _ _ _ | exact Kd.Q_nil _ _ _ _ _ | exact Kd.R_nil _ _ _ _ _⟩, ⟨by repeat (first | (with_reducible first | exact HB.out | apply below_alloc | apply pw_below_drewN | apply below_drew1) | exact HB.out)⟩⟩
      case round =>
        clear H'
        try clear c1
        try clear p2
        try clear c3
        try clear c3b0
        try clear c3b1
        try clear c5
        try clear c8
        obtain ⟨x5_1, x7_1, HA, HK1, HO_5, HO_7, HB⟩ := hrel
        cases gk with
        | zero => exact absurd HA.out (by simp [script_Parse.l0])
        | succ k1 =>
          have H := HA.out
          clear HA
          simp only [script_Parse.l0] at H
          by_cases c12 : (x5_1.length : Int) > 0
          · rw [if_pos c12] at H
            have c12b0 : decide (0 < (x5_1.length : Int)) = true := decide_eq_true c12
            have c12b1 : decide (0 < x5_1.length) = true := decide_eq_true (by omega)
            clear c12
            by_cases c13 : (x7_1.length : Int) = 3000
            · rw [if_pos c13] at H
              have c13b0 : ((x7_1.length : Int) == 3000) = true := beq_iff_eq.mpr c13
              have c13b1 : ((x7_1.length : Int) != 3000) = false := bne_eq_false_iff_eq.mpr c13
              clear c13
              simp only [Option.some.injEq, Prod.mk.injEq] at H
              obtain ⟨rfl, rfl⟩ := H
              obtain ⟨Ao14, co14, eo14⟩ := Kd.V_slice HO_5.out
              subst eo14
              obtain ⟨Ao15, co15, eo15⟩ := Kd.S_slice HO_7.out
              subst eo15
              go_wp2
              go_ret2
              exact ⟨_, by first | rfl | (simp [errW_none, errW_some] <;> rfl) | (simp [*, errW_none, errW_some] <;> rfl), by first | exact Kd.S_nil _ _ _ _ _ | exact Kd.N_nil _ _ _ _ _ | exact Kd.V_nil _ _ _ _ _ | exact Kd.Q_nil _ _ _ _ _ | exact Kd.R_nil _ _ _ _ _, by repeat (first | (with_reducible first | exact HB.out | apply below_alloc | apply pw_below_drewN | apply below_drew1) | exact HB.out)⟩
            · rw [if_neg c13] at H
              have c13b0 : ((x7_1.length : Int) == 3000) = false := beq_eq_false_iff_ne.mpr c13
              have c13b1 : ((x7_1.length : Int) != 3000) = true := bne_iff_ne.mpr c13
              replace H := Option.bind_eq_some_iff.mp H
              obtain ⟨⟨t257, t258, t259, t260, t261, t262, t263, t264, t265, t266, t267, t270, t273⟩, A160, H⟩ := H
              replace H : (if t273 = 0 then (if x7_1.length < 1954687338268 then (script_Parse.l0 k1 t270 (x7_1 ++ [(⟨t257, t258, t259, t260, (⟨t261, t262, (⟨t263, t264, t265, t266⟩ : S37)⟩ : S42), t267⟩ : S44)])) else (none)) else (some (([] : List (S44)), t273))) = some (r1, r2) := H
              have A16 := Aside0.mk A160
              clear A160
              by_cases c17 : t273 = 0
              · rw [if_pos c17] at H
                have c17b0 : (t273 == 0) = true := beq_iff_eq.mpr c17
                have c17b1 : (t273 != 0) = false := bne_eq_false_iff_eq.mpr c17
                clear c17
                by_cases c18 : x7_1.length < 1954687338268
                · rw [if_pos c18] at H
                  have LMc18 := Aside0.mk c18
                  clear c18
                  obtain ⟨y275, hy275⟩ : ∃ y_ : List (S44), y_ = (x7_1 ++ [(⟨t257, t258, t259, t260, (⟨t261, t262, (⟨t263, t264, t265, t266⟩ : S37)⟩ : S42), t267⟩ : S44)]) := ⟨_, rfl⟩
                  replace H : (script_Parse.l0 k1 t270 y275) = some (r1, r2) := by first | (rw [hy275]; with_reducible exact H) | (have H2_ := (Option.bind_some _ _).symm.trans H; rw [hy275]; with_reducible exact H2_) | (have H2_ := (Option.bind_some _ _).symm.trans H; with_reducible exact H2_) | with_reducible exact H | (rw [hy275]; exact H) | exact H
                  have Ny275 := Aside0.mk hy275
                  clear hy275
                  have H' := Aside0.mk H
                  clear H
                  obtain ⟨Ao19, co19, eo19⟩ := Kd.V_slice HO_5.out
                  subst eo19
                  obtain ⟨Ao20, co20, eo20⟩ := Kd.S_slice HO_7.out
                  subst eo20
                  go_wp2_with (first | ((with_reducible refine gate_callee (f := 19) rfl ?_); refine goesL_ (some 36) rfl rfl Try.func19 (by kernel_rfl) rfl #[.slice Ao19 x5_1.length co19] rfl (by (try simp only [List.map_toArray, List.map_cons, List.map_nil]); first | done | rfl | (simp only [List.length_drop, List.length_take]; rfl)) ?_; (with_reducible refine (script_first.calls (fun k_ => some k_ ≠ (.slice Ao20 x7_1.length co20 : Value).ownBlock) _ _ x5_1 t257 t258 t259 t260 t261 t262 t263 t264 t265 t266 t267 t270 t273 _ ?side1 A16.out).mono ?_); (case side1 => exact HO_5.out); rintro e w21 ⟨v268, v271, rfl, ho0, ho1, hb⟩; refine ⟨_, rfl, ?_⟩; have n0_ := Aside0.mk (Kd.V_elder' (by (with_reducible repeat (first | apply Kd.V_alloc | apply Kd.V_drewN | apply Kd.V_drew)); exact HO_5.out) (Kd.R_base ho0) hb); have n1_ := Aside0.mk (Kd.S_elder' (by (with_reducible repeat (first | apply Kd.S_alloc | apply Kd.S_drewN | apply Kd.S_drew)); exact HO_7.out) (Kd.R_base ho0) hb); have n2_ := Aside0.mk (Kd.R_lower (Kd.R_mono (ok' := fun k_ => True) ho0 (fun _ hk_ => trivial)) (below_size (by repeat (first | (with_reducible first | exact HB.out | apply below_alloc | apply pw_below_drewN | apply below_drew1) | exact HB.out)))); have n3_ := Aside0.mk (Kd.V_lower (Kd.V_mono (ok' := fun k_ => some k_ ≠ (v268 : Value).ownBlock ∧ some k_ ≠ (.slice Ao20 x7_1.length co20 : Value).ownBlock) ho1 (fun k_ hk_ => ⟨hk_.2, Or.elim hk_.1 (fun hs_ => hs_) (fun hn_ => (Kd.fresh' (Kd.S_lt (by (with_reducible repeat (first | apply Kd.S_alloc | apply Kd.S_drewN | apply Kd.S_drew)); exact HO_7.out)) k_ hn_))⟩)) (below_size (by repeat (first | (with_reducible first | exact HB.out | apply below_alloc | apply pw_below_drewN | apply below_drew1) | exact HB.out)))); have n4_ := Aside0.mk (below_step (by repeat (first | (with_reducible first | exact HB.out | apply below_alloc | apply pw_below_drewN | apply below_drew1) | exact HB.out)) hb); clear HO_5; clear HO_7; clear HB; have HO_5 := n0_; have HO_7 := n1_; have HO269 := n2_; have HO272 := n3_; have HB := n4_; clear n0_ n1_ n2_ n3_ n4_; (try clear hb); (try clear hb2); (try clear hk); (try clear hi); (try clear ho0); (try clear ho1)) | ((with_reducible refine gate_dst (N := 8) rfl ?_); refine box_event ?hg (N := 8) ?hd (cs := #[.int .i64 0, .int .i64 0, .int .i64 0, .int .u8 0, .int .i64 0, .int .u16 0, .int .u8 0, .int .u8 0, .int .u8 0, .int .u8 0, .slice none 0 0]) (t := 44) ?hr ?_; (case hd => rfl); (case hg => rfl); (case hr => first | (go_simp; done) | (go_simp; rfl)); intro gb274 hg w22 hbox hb; have n0_ := Aside0.mk (Kd.V_below (Kd.V_elderB (by (with_reducible repeat (first | apply Kd.V_alloc | apply Kd.V_drewN | apply Kd.V_drew)); exact HO_5.out) gb274 (Nat.le_of_eq hg.symm)) hb); have n1_ := Aside0.mk (Kd.S_below (Kd.S_elderB (by (with_reducible repeat (first | apply Kd.S_alloc | apply Kd.S_drewN | apply Kd.S_drew)); exact HO_7.out) gb274 (Nat.le_of_eq hg.symm)) hb); have n2_ := Aside0.mk (Kd.R_below (by (with_reducible repeat (first | apply Kd.R_alloc | apply Kd.R_drewN | apply Kd.R_drew)); exact HO269.out) hb); have n3_ := Aside0.mk (Kd.V_below (Kd.V_elderB (by (with_reducible repeat (first | apply Kd.V_alloc | apply Kd.V_drewN | apply Kd.V_drew)); exact HO272.out) gb274 (Nat.le_of_eq hg.symm)) hb); have n4_ := Aside0.mk (below_step (by repeat (first | (with_reducible first | exact HB.out | apply below_alloc | apply pw_below_drewN | apply below_drew1) | exact HB.out)) hb); have n5_ := Aside0.mk (hbox); have n6_ := Aside0.mk ((by rw [hg]; exact (below_size (by repeat (first | (with_reducible first | exact HB.out | apply below_alloc | apply pw_below_drewN | apply below_drew1) | exact HB.out))) : w.heap.size ≤ gb274)); have n7_ := Aside0.mk ((by rw [hg]; exact (below_size (by repeat (first | (with_reducible first | exact HB.out | apply below_alloc | apply pw_below_drewN | apply below_drew1) | exact HB.out))) : w.heap.size ≤ gb274)); clear HO_5; clear HO_7; clear HO269; clear HO272; clear HB; have HO_5 := n0_; have HO_7 := n1_; have HO269 := n2_; have HO272 := n3_; have HB := n4_; have BK274 := n5_; have GW274 := n6_; have GE274 := n7_; clear n0_ n1_ n2_ n3_ n4_ n5_ n6_ n7_; clear hb hbox hg; have hcz23_0 : w22.cell? ⟨gb274, 0, none⟩ = some (.int .i64 0) := (blk_cell BK274.out 0).trans rfl; have hcz23_1 : w22.cell? ⟨gb274, 1, none⟩ = some (.int .i64 0) := (blk_cell BK274.out 1).trans rfl; have hcz23_2 : w22.cell? ⟨gb274, 2, none⟩ = some (.int .i64 0) := (blk_cell BK274.out 2).trans rfl; have hcz23_3 : w22.cell? ⟨gb274, 3, none⟩ = some (.int .u8 0) := (blk_cell BK274.out 3).trans rfl; have hcz23_4 : w22.cell? ⟨gb274, 4, none⟩ = some (.int .i64 0) := (blk_cell BK274.out 4).trans rfl; have hcz23_5 : w22.cell? ⟨gb274, 5, none⟩ = some (.int .u16 0) := (blk_cell BK274.out 5).trans rfl; have hcz23_6 : w22.cell? ⟨gb274, 6, none⟩ = some (.int .u8 0) := (blk_cell BK274.out 6).trans rfl; have hcz23_7 : w22.cell? ⟨gb274, 7, none⟩ = some (.int .u8 0) := (blk_cell BK274.out 7).trans rfl; have hcz23_8 : w22.cell? ⟨gb274, 8, none⟩ = some (.int .u8 0) := (blk_cell BK274.out 8).trans rfl; have hcz23_9 : w22.cell? ⟨gb274, 9, none⟩ = some (.int .u8 0) := (blk_cell BK274.out 9).trans rfl; have hcz23_10 : w22.cell? ⟨gb274, 10, none⟩ = some (.slice none 0 0) := (blk_cell BK274.out 10).trans rfl; have hfz23_0 := blk_frozen BK274.out 0; have hfz23_1 := blk_frozen BK274.out 1; have hfz23_2 := blk_frozen BK274.out 2; have hfz23_3 := blk_frozen BK274.out 3; have hfz23_4 := blk_frozen BK274.out 4; have hfz23_5 := blk_frozen BK274.out 5; have hfz23_6 := blk_frozen BK274.out 6; have hfz23_7 := blk_frozen BK274.out 7; have hfz23_8 := blk_frozen BK274.out 8; have hfz23_9 := blk_frozen BK274.out 9; have hfz23_10 := blk_frozen BK274.out 10; obtain ⟨Ao24, co24, eo24⟩ := Kd.R_slice HO269.out; subst eo24) | ((with_reducible refine gate_store (t := 44) (p := 8) rfl ?_); refine store_event (t := 44) (p := 8) (v := ?vo_w25) (w1 := (((((((((((w22.setCell ⟨gb274, 0, none⟩ (.int .i64 t257)).setCell ⟨gb274, 1, none⟩ (.int .i64 t258)).setCell ⟨gb274, 2, none⟩ (.int .i64 t259)).setCell ⟨gb274, 3, none⟩ (.int .u8 t260)).setCell ⟨gb274, 4, none⟩ (.int .i64 t261)).setCell ⟨gb274, 5, none⟩ (.int .u16 t262)).setCell ⟨gb274, 6, none⟩ (.int .u8 t263)).setCell ⟨gb274, 7, none⟩ (.int .u8 t264)).setCell ⟨gb274, 8, none⟩ (.int .u8 t265)).setCell ⟨gb274, 9, none⟩ (.int .u8 t266)).setCell ⟨gb274, 10, none⟩ (.slice Ao24 t267.length co24))) ?hg ?ho ?hn ?hr ?_; (case ho => rfl); (case hg => rfl); (case hn => rfl); (case hr => first | (go_simp; done) | (go_simp; rfl)); intro w25 hw; have n0_ : Aside0 (Kd.V (Kd.int .u8) 5 w25 w.heap.size (fun k_ => some k_ ≠ (.slice Ao20 x7_1.length co20 : Value).ownBlock ∧ some k_ ≠ (.slice Ao24 t267.length co24 : Value).ownBlock ∧ k_ ≠ gb274) (.slice Ao19 x5_1.length co19) x5_1) := ⟨(by rw [hw]; exact (by (with_reducible repeat (first | apply Kd.V_alloc | apply Kd.V_drewN | apply Kd.V_drew)); exact Kd.V_mono (Kd.V_far (p := ⟨gb274, 10, none⟩) (Kd.V_far (p := ⟨gb274, 9, none⟩) (Kd.V_far (p := ⟨gb274, 8, none⟩) (Kd.V_far (p := ⟨gb274, 7, none⟩) (Kd.V_far (p := ⟨gb274, 6, none⟩) (Kd.V_far (p := ⟨gb274, 5, none⟩) (Kd.V_far (p := ⟨gb274, 4, none⟩) (Kd.V_far (p := ⟨gb274, 3, none⟩) (Kd.V_far (p := ⟨gb274, 2, none⟩) (Kd.V_far (p := ⟨gb274, 1, none⟩) (Kd.V_far (p := ⟨gb274, 0, none⟩) (Kd.V_mono HO_5.out (fun k_ hk => (⟨hk, hk.2⟩ : _ ∧ k_ ≠ gb274))) (fun _ hk => hk.2) (.int .i64 t257)) (fun _ hk => hk.2) (.int .i64 t258)) (fun _ hk => hk.2) (.int .i64 t259)) (fun _ hk => hk.2) (.int .u8 t260)) (fun _ hk => hk.2) (.int .i64 t261)) (fun _ hk => hk.2) (.int .u16 t262)) (fun _ hk => hk.2) (.int .u8 t263)) (fun _ hk => hk.2) (.int .u8 t264)) (fun _ hk => hk.2) (.int .u8 t265)) (fun _ hk => hk.2) (.int .u8 t266)) (fun _ hk => hk.2) (.slice Ao24 t267.length co24)) (fun _ hk => ⟨hk.1.1.1, ⟨hk.1.1.2, hk.1.2⟩⟩)))⟩; have n1_ : Aside0 (Kd.S k44 44 w25 w.heap.size (fun k_ => some k_ ≠ (.slice Ao24 t267.length co24 : Value).ownBlock ∧ k_ ≠ gb274) (.slice Ao20 x7_1.length co20) x7_1) := ⟨(by rw [hw]; exact (by (with_reducible repeat (first | apply Kd.S_alloc | apply Kd.S_drewN | apply Kd.S_drew)); exact Kd.S_mono (Kd.S_far (p := ⟨gb274, 10, none⟩) (Kd.S_far (p := ⟨gb274, 9, none⟩) (Kd.S_far (p := ⟨gb274, 8, none⟩) (Kd.S_far (p := ⟨gb274, 7, none⟩) (Kd.S_far (p := ⟨gb274, 6, none⟩) (Kd.S_far (p := ⟨gb274, 5, none⟩) (Kd.S_far (p := ⟨gb274, 4, none⟩) (Kd.S_far (p := ⟨gb274, 3, none⟩) (Kd.S_far (p := ⟨gb274, 2, none⟩) (Kd.S_far (p := ⟨gb274, 1, none⟩) (Kd.S_far (p := ⟨gb274, 0, none⟩) (Kd.S_mono HO_7.out (fun k_ hk => (⟨hk, hk.2⟩ : _ ∧ k_ ≠ gb274))) (fun _ hk => hk.2) (.int .i64 t257)) (fun _ hk => hk.2) (.int .i64 t258)) (fun _ hk => hk.2) (.int .i64 t259)) (fun _ hk => hk.2) (.int .u8 t260)) (fun _ hk => hk.2) (.int .i64 t261)) (fun _ hk => hk.2) (.int .u16 t262)) (fun _ hk => hk.2) (.int .u8 t263)) (fun _ hk => hk.2) (.int .u8 t264)) (fun _ hk => hk.2) (.int .u8 t265)) (fun _ hk => hk.2) (.int .u8 t266)) (fun _ hk => hk.2) (.slice Ao24 t267.length co24)) (fun _ hk => ⟨hk.1.1.2, hk.1.2⟩)))⟩; have n2_ : Aside0 (Kd.R (Kd.int .u8) 5 w25 w.heap.size (fun _ => True) (.slice Ao24 t267.length co24) t267) := ⟨(by rw [hw]; exact (by (with_reducible repeat (first | apply Kd.R_alloc | apply Kd.R_drewN | apply Kd.R_drew)); exact Kd.R_mono (Kd.R_far (p := ⟨gb274, 10, none⟩) (Kd.R_far (p := ⟨gb274, 9, none⟩) (Kd.R_far (p := ⟨gb274, 8, none⟩) (Kd.R_far (p := ⟨gb274, 7, none⟩) (Kd.R_far (p := ⟨gb274, 6, none⟩) (Kd.R_far (p := ⟨gb274, 5, none⟩) (Kd.R_far (p := ⟨gb274, 4, none⟩) (Kd.R_far (p := ⟨gb274, 3, none⟩) (Kd.R_far (p := ⟨gb274, 2, none⟩) (Kd.R_far (p := ⟨gb274, 1, none⟩) (Kd.R_far (p := ⟨gb274, 0, none⟩) (Kd.R_types HO269.out BK274.out (by decide)) (fun _ hk => hk.2) (.int .i64 t257)) (fun _ hk => hk.2) (.int .i64 t258)) (fun _ hk => hk.2) (.int .i64 t259)) (fun _ hk => hk.2) (.int .u8 t260)) (fun _ hk => hk.2) (.int .i64 t261)) (fun _ hk => hk.2) (.int .u16 t262)) (fun _ hk => hk.2) (.int .u8 t263)) (fun _ hk => hk.2) (.int .u8 t264)) (fun _ hk => hk.2) (.int .u8 t265)) (fun _ hk => hk.2) (.int .u8 t266)) (fun _ hk => hk.2) (.slice Ao24 t267.length co24)) (fun _ hk => trivial)))⟩; have n3_ : Aside0 (Kd.V (Kd.int .u8) 5 w25 w.heap.size (fun k_ => some k_ ≠ (.slice Ao20 x7_1.length co20 : Value).ownBlock ∧ some k_ ≠ (.slice Ao24 t267.length co24 : Value).ownBlock ∧ k_ ≠ gb274) v271 t270) := ⟨(by rw [hw]; exact (by (with_reducible repeat (first | apply Kd.V_alloc | apply Kd.V_drewN | apply Kd.V_drew)); exact Kd.V_mono (Kd.V_far (p := ⟨gb274, 10, none⟩) (Kd.V_far (p := ⟨gb274, 9, none⟩) (Kd.V_far (p := ⟨gb274, 8, none⟩) (Kd.V_far (p := ⟨gb274, 7, none⟩) (Kd.V_far (p := ⟨gb274, 6, none⟩) (Kd.V_far (p := ⟨gb274, 5, none⟩) (Kd.V_far (p := ⟨gb274, 4, none⟩) (Kd.V_far (p := ⟨gb274, 3, none⟩) (Kd.V_far (p := ⟨gb274, 2, none⟩) (Kd.V_far (p := ⟨gb274, 1, none⟩) (Kd.V_far (p := ⟨gb274, 0, none⟩) (Kd.V_mono HO272.out (fun k_ hk => (⟨hk, hk.2⟩ : _ ∧ k_ ≠ gb274))) (fun _ hk => hk.2) (.int .i64 t257)) (fun _ hk => hk.2) (.int .i64 t258)) (fun _ hk => hk.2) (.int .i64 t259)) (fun _ hk => hk.2) (.int .u8 t260)) (fun _ hk => hk.2) (.int .i64 t261)) (fun _ hk => hk.2) (.int .u16 t262)) (fun _ hk => hk.2) (.int .u8 t263)) (fun _ hk => hk.2) (.int .u8 t264)) (fun _ hk => hk.2) (.int .u8 t265)) (fun _ hk => hk.2) (.int .u8 t266)) (fun _ hk => hk.2) (.slice Ao24 t267.length co24)) (fun _ hk => ⟨hk.1.1.2, ⟨hk.1.1.1, hk.1.2⟩⟩)))⟩; have n4_ : Aside0 (w25.heap[gb274]? = some (.cells #[.int .i64 t257, .int .i64 t258, .int .i64 t259, .int .u8 t260, .int .i64 t261, .int .u16 t262, .int .u8 t263, .int .u8 t264, .int .u8 t265, .int .u8 t266, .slice Ao24 t267.length co24] 44 (0, 0))) := ⟨(by rw [hw]; exact (by (with_reducible repeat (first | refine blk_drewN ?_ _ | refine blk_drew ?_ | refine blk_alloc ?_ _)); refine blk_put (cs := #[.int .i64 t257, .int .i64 t258, .int .i64 t259, .int .u8 t260, .int .i64 t261, .int .u16 t262, .int .u8 t263, .int .u8 t264, .int .u8 t265, .int .u8 t266, .slice none 0 0]) ?_ 10 _ rfl; (with_reducible repeat (first | refine blk_drewN ?_ _ | refine blk_drew ?_ | refine blk_alloc ?_ _)); refine blk_put (cs := #[.int .i64 t257, .int .i64 t258, .int .i64 t259, .int .u8 t260, .int .i64 t261, .int .u16 t262, .int .u8 t263, .int .u8 t264, .int .u8 t265, .int .u8 0, .slice none 0 0]) ?_ 9 _ rfl; (with_reducible repeat (first | refine blk_drewN ?_ _ | refine blk_drew ?_ | refine blk_alloc ?_ _)); refine blk_put (cs := #[.int .i64 t257, .int .i64 t258, .int .i64 t259, .int .u8 t260, .int .i64 t261, .int .u16 t262, .int .u8 t263, .int .u8 t264, .int .u8 0, .int .u8 0, .slice none 0 0]) ?_ 8 _ rfl; (with_reducible repeat (first | refine blk_drewN ?_ _ | refine blk_drew ?_ | refine blk_alloc ?_ _)); refine blk_put (cs := #[.int .i64 t257, .int .i64 t258, .int .i64 t259, .int .u8 t260, .int .i64 t261, .int .u16 t262, .int .u8 t263, .int .u8 0, .int .u8 0, .int .u8 0, .slice none 0 0]) ?_ 7 _ rfl; (with_reducible repeat (first | refine blk_drewN ?_ _ | refine blk_drew ?_ | refine blk_alloc ?_ _)); refine blk_put (cs := #[.int .i64 t257, .int .i64 t258, .int .i64 t259, .int .u8 t260, .int .i64 t261, .int .u16 t262, .int .u8 0, .int .u8 0, .int .u8 0, .int .u8 0, .slice none 0 0]) ?_ 6 _ rfl; (with_reducible repeat (first | refine blk_drewN ?_ _ | refine blk_drew ?_ | refine blk_alloc ?_ _)); refine blk_put (cs := #[.int .i64 t257, .int .i64 t258, .int .i64 t259, .int .u8 t260, .int .i64 t261, .int .u16 0, .int .u8 0, .int .u8 0, .int .u8 0, .int .u8 0, .slice none 0 0]) ?_ 5 _ rfl; (with_reducible repeat (first | refine blk_drewN ?_ _ | refine blk_drew ?_ | refine blk_alloc ?_ _)); refine blk_put (cs := #[.int .i64 t257, .int .i64 t258, .int .i64 t259, .int .u8 t260, .int .i64 0, .int .u16 0, .int .u8 0, .int .u8 0, .int .u8 0, .int .u8 0, .slice none 0 0]) ?_ 4 _ rfl; (with_reducible repeat (first | refine blk_drewN ?_ _ | refine blk_drew ?_ | refine blk_alloc ?_ _)); refine blk_put (cs := #[.int .i64 t257, .int .i64 t258, .int .i64 t259, .int .u8 0, .int .i64 0, .int .u16 0, .int .u8 0, .int .u8 0, .int .u8 0, .int .u8 0, .slice none 0 0]) ?_ 3 _ rfl; (with_reducible repeat (first | refine blk_drewN ?_ _ | refine blk_drew ?_ | refine blk_alloc ?_ _)); refine blk_put (cs := #[.int .i64 t257, .int .i64 t258, .int .i64 0, .int .u8 0, .int .i64 0, .int .u16 0, .int .u8 0, .int .u8 0, .int .u8 0, .int .u8 0, .slice none 0 0]) ?_ 2 _ rfl; (with_reducible repeat (first | refine blk_drewN ?_ _ | refine blk_drew ?_ | refine blk_alloc ?_ _)); refine blk_put (cs := #[.int .i64 t257, .int .i64 0, .int .i64 0, .int .u8 0, .int .i64 0, .int .u16 0, .int .u8 0, .int .u8 0, .int .u8 0, .int .u8 0, .slice none 0 0]) ?_ 1 _ rfl; (with_reducible repeat (first | refine blk_drewN ?_ _ | refine blk_drew ?_ | refine blk_alloc ?_ _)); refine blk_put (cs := #[.int .i64 0, .int .i64 0, .int .i64 0, .int .u8 0, .int .i64 0, .int .u16 0, .int .u8 0, .int .u8 0, .int .u8 0, .int .u8 0, .slice none 0 0]) ?_ 0 _ rfl; (with_reducible repeat (first | refine blk_drewN ?_ _ | refine blk_drew ?_ | refine blk_alloc ?_ _)); exact BK274.out))⟩; have n5_ : Aside0 (Below w.heap.size w w25) := ⟨(by rw [hw]; exact (by repeat (first | (with_reducible first | exact HB.out | apply below_alloc | apply pw_below_drewN | apply below_drew1 | refine below_set ?_ GE274.out) | exact HB.out)))⟩; clear hw; clear HO_5; clear HO_7; clear HO269; clear HO272; clear BK274; clear HB; have HO_5 := n0_; have HO_7 := n1_; have HO269 := n2_; have HO272 := n3_; have BK274 := n4_; have HB := n5_; clear n0_ n1_ n2_ n3_ n4_ n5_; have hcz26_0 : w25.cell? ⟨gb274, 0, none⟩ = some (.int .i64 t257) := (blk_cell BK274.out 0).trans rfl; have hcz26_1 : w25.cell? ⟨gb274, 1, none⟩ = some (.int .i64 t258) := (blk_cell BK274.out 1).trans rfl; have hcz26_2 : w25.cell? ⟨gb274, 2, none⟩ = some (.int .i64 t259) := (blk_cell BK274.out 2).trans rfl; have hcz26_3 : w25.cell? ⟨gb274, 3, none⟩ = some (.int .u8 t260) := (blk_cell BK274.out 3).trans rfl; have hcz26_4 : w25.cell? ⟨gb274, 4, none⟩ = some (.int .i64 t261) := (blk_cell BK274.out 4).trans rfl; have hcz26_5 : w25.cell? ⟨gb274, 5, none⟩ = some (.int .u16 t262) := (blk_cell BK274.out 5).trans rfl; have hcz26_6 : w25.cell? ⟨gb274, 6, none⟩ = some (.int .u8 t263) := (blk_cell BK274.out 6).trans rfl; have hcz26_7 : w25.cell? ⟨gb274, 7, none⟩ = some (.int .u8 t264) := (blk_cell BK274.out 7).trans rfl; have hcz26_8 : w25.cell? ⟨gb274, 8, none⟩ = some (.int .u8 t265) := (blk_cell BK274.out 8).trans rfl; have hcz26_9 : w25.cell? ⟨gb274, 9, none⟩ = some (.int .u8 t266) := (blk_cell BK274.out 9).trans rfl; have hcz26_10 : w25.cell? ⟨gb274, 10, none⟩ = some (.slice Ao24 t267.length co24) := (blk_cell BK274.out 10).trans rfl; have hfz26_0 := blk_frozen BK274.out 0; have hfz26_1 := blk_frozen BK274.out 1; have hfz26_2 := blk_frozen BK274.out 2; have hfz26_3 := blk_frozen BK274.out 3; have hfz26_4 := blk_frozen BK274.out 4; have hfz26_5 := blk_frozen BK274.out 5; have hfz26_6 := blk_frozen BK274.out 6; have hfz26_7 := blk_frozen BK274.out 7; have hfz26_8 := blk_frozen BK274.out 8; have hfz26_9 := blk_frozen BK274.out 9; have hfz26_10 := blk_frozen BK274.out 10) | ((with_reducible refine gate_builtin (b := .append) (xs := #[.tmp 43, .tmp 45]) rfl ?_); at_builtin; refine Kd.S_append k44 (w0 := w) w.heap.size rfl (.tmp 43) (.tmp 45) 29 44 (.agg #[(.int .i64 0), (.int .i64 0), (.int .i64 0), (.int .u8 0), (.int .i64 0), (.int .u16 0), (.int .u8 0), (.int .u8 0), (.int .u8 0), (.int .u8 0), (.slice none 0 0)]) 72 rfl Try.underlying29 info44 rfl (by decide) (by omega) (.slice Ao20 x7_1.length co20) x7_1 (⟨t257, t258, t259, t260, (⟨t261, t262, (⟨t263, t264, t265, t266⟩ : S37)⟩ : S42), t267⟩ : S44) [.int .i64 t257, .int .i64 t258, .int .i64 t259, .int .u8 t260, .int .i64 t261, .int .u16 t262, .int .u8 t263, .int .u8 t264, .int .u8 t265, .int .u8 t266, .slice Ao24 t267.length co24] (fun k_ => k_ ≠ gb274) (fun k_ => some k_ = (.slice Ao24 t267.length co24 : Value).ownBlock) rfl rfl ?aP (fun k_ hk_ => ((Kd.R_mono (ok' := fun k_ => ((fun k_ => k_ ≠ gb274)) k_ ∧ some k_ ≠ (.slice Ao20 x7_1.length co20 : Value).ownBlock) (Kd.R_types (Kd.R_apart' (HO269.out) (Kd.S_typed HO_7.out) (by decide)) BK274.out (by decide)) (fun k_ hk => ⟨hk.2, hk.1.2⟩))).1 k_ hk_.symm) ?aF ?aO ?aB ?aS ?aL ?_; (case aP => exact k44_mkM _ _ _ (⟨t257, t258, t259, t260, (⟨t261, t262, (⟨t263, t264, t265, t266⟩ : S37)⟩ : S42), t267⟩ : S44) (Kd.R_mono (Kd.R_tight rfl (Kd.R_mono (ok' := fun k_ => ((fun k_ => k_ ≠ gb274)) k_ ∧ some k_ ≠ (.slice Ao20 x7_1.length co20 : Value).ownBlock) (Kd.R_types (Kd.R_apart' (HO269.out) (Kd.S_typed HO_7.out) (by decide)) BK274.out (by decide)) (fun k_ hk => ⟨hk.2, hk.1.2⟩))) (fun _ h_ => h_))); (case aB => exact (by repeat (first | (with_reducible first | exact HB.out | apply below_alloc | apply pw_below_drewN | apply below_drew1 | refine below_set ?_ GE274.out) | exact HB.out))); (case aF => exact (fun k_ hk => Kd.freshB (g := gb274) (o := .cells #[.int .i64 t257, .int .i64 t258, .int .i64 t259, .int .u8 t260, .int .i64 t261, .int .u16 t262, .int .u8 t263, .int .u8 t264, .int .u8 t265, .int .u8 t266, .slice Ao24 t267.length co24] 44 (0, 0)) (by (with_reducible repeat (first | refine blk_drewN ?_ _ | refine blk_drew ?_ | refine blk_alloc ?_ _)); exact BK274.out) k_ hk)); (case aO => exact (by (with_reducible repeat (first | apply Kd.S_alloc | apply Kd.S_drewN | apply Kd.S_drew)); exact Kd.S_mono HO_7.out (fun k_ hk => ⟨hk.2, fun e_ => hk.1 e_⟩))); (case aS => exact (below_size (by repeat (first | (with_reducible first | exact HB.out | apply below_alloc | apply pw_below_drewN | apply below_drew1 | refine below_set ?_ GE274.out) | exact HB.out)))); (case aL => have := LMc18.out; omega); intro v276 w27 ho hb hg hat; rw [← Ny275.out] at ho; have n0_ := Aside0.mk (Kd.V_afterv (ok := (fun k_ => some k_ ≠ (.slice Ao24 t267.length co24 : Value).ownBlock ∧ k_ ≠ gb274)) (by (with_reducible repeat (first | apply Kd.V_alloc | apply Kd.V_drewN | apply Kd.V_drew)); exact Kd.V_mono HO_5.out (fun _ hk => ⟨⟨hk.2.1, hk.2.2⟩, hk.1⟩)) hg hat); have n1_ := Aside0.mk (Kd.V_afterv (ok := (fun k_ => some k_ ≠ (.slice Ao24 t267.length co24 : Value).ownBlock ∧ k_ ≠ gb274)) (by (with_reducible repeat (first | apply Kd.V_alloc | apply Kd.V_drewN | apply Kd.V_drew)); exact Kd.V_mono HO272.out (fun _ hk => ⟨⟨hk.2.1, hk.2.2⟩, hk.1⟩)) hg hat); have n2_ := Aside0.mk (blk_grown (g := gb274) (o := .cells #[.int .i64 t257, .int .i64 t258, .int .i64 t259, .int .u8 t260, .int .i64 t261, .int .u16 t262, .int .u8 t263, .int .u8 t264, .int .u8 t265, .int .u8 t266, .slice Ao24 t267.length co24] 44 (0, 0)) (by (with_reducible repeat (first | refine blk_drewN ?_ _ | refine blk_drew ?_ | refine blk_alloc ?_ _)); exact BK274.out) hg (Kd.S_away HO_7.out (fun _ hk => hk.2))); have n3_ := Aside0.mk (hb); have n4_ := Aside0.mk (ho); clear HO_5; clear HO272; clear BK274; clear HB; clear HO_7; clear HO269; have HO_5 := n0_; have HO272 := n1_; have BK274 := n2_; have HB := n3_; have HO277 := n4_; clear n0_ n1_ n2_ n3_ n4_; clear ho hb hg hat))
                  go_roundg k1
                  case measure => have := HK1.out; omega
                  case rel => exact ⟨(t270), (y275), H', ⟨by have := HK1.out; omega⟩, ⟨by (with_reducible repeat (first | apply Kd.V_alloc | apply Kd.V_drewN | apply Kd.V_drew)); exact Kd.V_mono HO272.out (fun _ hk => hk.2)⟩, ⟨by (with_reducible repeat (first | apply Kd.S_alloc | apply Kd.S_drewN | apply Kd.S_drew)); exact Kd.S_mono HO277.out (fun _ hk => trivial)⟩, ⟨by repeat (first | (with_reducible first | exact HB.out | apply below_alloc | apply pw_below_drewN | apply below_drew1 | refine below_set ?_ GE274.out) | exact HB.out)⟩⟩
                · rw [if_neg c18] at H
                  exact absurd H (by simp)
              · rw [if_neg c17] at H
                have c17b0 : (t273 == 0) = false := beq_eq_false_iff_ne.mpr c17
                have c17b1 : (t273 != 0) = true := bne_iff_ne.mpr c17
                simp only [Option.some.injEq, Prod.mk.injEq] at H
                obtain ⟨rfl, rfl⟩ := H
                obtain ⟨Ao28, co28, eo28⟩ := Kd.V_slice HO_5.out
                subst eo28
                obtain ⟨Ao29, co29, eo29⟩ := Kd.S_slice HO_7.out
                subst eo29
                go_wp2_with (first | ((with_reducible refine gate_callee (f := 19) rfl ?_); refine goesL_ (some 36) rfl rfl Try.func19 (by kernel_rfl) rfl #[.slice Ao28 x5_1.length co28] rfl (by (try simp only [List.map_toArray, List.map_cons, List.map_nil]); first | done | rfl | (simp only [List.length_drop, List.length_take]; rfl)) ?_; (with_reducible refine (script_first.calls (fun k_ => some k_ ≠ (.slice Ao29 x7_1.length co29 : Value).ownBlock) _ _ x5_1 t257 t258 t259 t260 t261 t262 t263 t264 t265 t266 t267 t270 t273 _ ?side1 A16.out).mono ?_); (case side1 => exact HO_5.out); rintro e w30 ⟨v268, v271, rfl, ho0, ho1, hb⟩; refine ⟨_, rfl, ?_⟩; have n0_ := Aside0.mk (Kd.V_elder' (by (with_reducible repeat (first | apply Kd.V_alloc | apply Kd.V_drewN | apply Kd.V_drew)); exact HO_5.out) (Kd.R_base ho0) hb); have n1_ := Aside0.mk (Kd.S_elder' (by (with_reducible repeat (first | apply Kd.S_alloc | apply Kd.S_drewN | apply Kd.S_drew)); exact HO_7.out) (Kd.R_base ho0) hb); have n2_ := Aside0.mk (Kd.R_lower (Kd.R_mono (ok' := fun k_ => True) ho0 (fun _ hk_ => trivial)) (below_size (by repeat (first | (with_reducible first | exact HB.out | apply below_alloc | apply pw_below_drewN | apply below_drew1) | exact HB.out)))); have n3_ := Aside0.mk (Kd.V_lower (Kd.V_mono (ok' := fun k_ => some k_ ≠ (v268 : Value).ownBlock ∧ some k_ ≠ (.slice Ao29 x7_1.length co29 : Value).ownBlock) ho1 (fun k_ hk_ => ⟨hk_.2, Or.elim hk_.1 (fun hs_ => hs_) (fun hn_ => (Kd.fresh' (Kd.S_lt (by (with_reducible repeat (first | apply Kd.S_alloc | apply Kd.S_drewN | apply Kd.S_drew)); exact HO_7.out)) k_ hn_))⟩)) (below_size (by repeat (first | (with_reducible first | exact HB.out | apply below_alloc | apply pw_below_drewN | apply below_drew1) | exact HB.out)))); have n4_ := Aside0.mk (below_step (by repeat (first | (with_reducible first | exact HB.out | apply below_alloc | apply pw_below_drewN | apply below_drew1) | exact HB.out)) hb); clear HO_5; clear HO_7; clear HB; have HO_5 := n0_; have HO_7 := n1_; have HO269 := n2_; have HO272 := n3_; have HB := n4_; clear n0_ n1_ n2_ n3_ n4_; (try clear hb); (try clear hb2); (try clear hk); (try clear hi); (try clear ho0); (try clear ho1)) | ((with_reducible refine gate_dst (N := 8) rfl ?_); refine box_event ?hg (N := 8) ?hd (cs := #[.int .i64 0, .int .i64 0, .int .i64 0, .int .u8 0, .int .i64 0, .int .u16 0, .int .u8 0, .int .u8 0, .int .u8 0, .int .u8 0, .slice none 0 0]) (t := 44) ?hr ?_; (case hd => rfl); (case hg => rfl); (case hr => first | (go_simp; done) | (go_simp; rfl)); intro gb274 hg w31 hbox hb; have n0_ := Aside0.mk (Kd.V_below (Kd.V_elderB (by (with_reducible repeat (first | apply Kd.V_alloc | apply Kd.V_drewN | apply Kd.V_drew)); exact HO_5.out) gb274 (Nat.le_of_eq hg.symm)) hb); have n1_ := Aside0.mk (Kd.S_below (Kd.S_elderB (by (with_reducible repeat (first | apply Kd.S_alloc | apply Kd.S_drewN | apply Kd.S_drew)); exact HO_7.out) gb274 (Nat.le_of_eq hg.symm)) hb); have n2_ := Aside0.mk (Kd.R_below (by (with_reducible repeat (first | apply Kd.R_alloc | apply Kd.R_drewN | apply Kd.R_drew)); exact HO269.out) hb); have n3_ := Aside0.mk (Kd.V_below (Kd.V_elderB (by (with_reducible repeat (first | apply Kd.V_alloc | apply Kd.V_drewN | apply Kd.V_drew)); exact HO272.out) gb274 (Nat.le_of_eq hg.symm)) hb); have n4_ := Aside0.mk (below_step (by repeat (first | (with_reducible first | exact HB.out | apply below_alloc | apply pw_below_drewN | apply below_drew1) | exact HB.out)) hb); have n5_ := Aside0.mk (hbox); have n6_ := Aside0.mk ((by rw [hg]; exact (below_size (by repeat (first | (with_reducible first | exact HB.out | apply below_alloc | apply pw_below_drewN | apply below_drew1) | exact HB.out))) : w.heap.size ≤ gb274)); have n7_ := Aside0.mk ((by rw [hg]; exact (below_size (by repeat (first | (with_reducible first | exact HB.out | apply below_alloc | apply pw_below_drewN | apply below_drew1) | exact HB.out))) : w.heap.size ≤ gb274)); clear HO_5; clear HO_7; clear HO269; clear HO272; clear HB; have HO_5 := n0_; have HO_7 := n1_; have HO269 := n2_; have HO272 := n3_; have HB := n4_; have BK274 := n5_; have GW274 := n6_; have GE274 := n7_; clear n0_ n1_ n2_ n3_ n4_ n5_ n6_ n7_; clear hb hbox hg; have hcz32_0 : w31.cell? ⟨gb274, 0, none⟩ = some (.int .i64 0) := (blk_cell BK274.out 0).trans rfl; have hcz32_1 : w31.cell? ⟨gb274, 1, none⟩ = some (.int .i64 0) := (blk_cell BK274.out 1).trans rfl; have hcz32_2 : w31.cell? ⟨gb274, 2, none⟩ = some (.int .i64 0) := (blk_cell BK274.out 2).trans rfl; have hcz32_3 : w31.cell? ⟨gb274, 3, none⟩ = some (.int .u8 0) := (blk_cell BK274.out 3).trans rfl; have hcz32_4 : w31.cell? ⟨gb274, 4, none⟩ = some (.int .i64 0) := (blk_cell BK274.out 4).trans rfl; have hcz32_5 : w31.cell? ⟨gb274, 5, none⟩ = some (.int .u16 0) := (blk_cell BK274.out 5).trans rfl; have hcz32_6 : w31.cell? ⟨gb274, 6, none⟩ = some (.int .u8 0) := (blk_cell BK274.out 6).trans rfl; have hcz32_7 : w31.cell? ⟨gb274, 7, none⟩ = some (.int .u8 0) := (blk_cell BK274.out 7).trans rfl; have hcz32_8 : w31.cell? ⟨gb274, 8, none⟩ = some (.int .u8 0) := (blk_cell BK274.out 8).trans rfl; have hcz32_9 : w31.cell? ⟨gb274, 9, none⟩ = some (.int .u8 0) := (blk_cell BK274.out 9).trans rfl; have hcz32_10 : w31.cell? ⟨gb274, 10, none⟩ = some (.slice none 0 0) := (blk_cell BK274.out 10).trans rfl; have hfz32_0 := blk_frozen BK274.out 0; have hfz32_1 := blk_frozen BK274.out 1; have hfz32_2 := blk_frozen BK274.out 2; have hfz32_3 := blk_frozen BK274.out 3; have hfz32_4 := blk_frozen BK274.out 4; have hfz32_5 := blk_frozen BK274.out 5; have hfz32_6 := blk_frozen BK274.out 6; have hfz32_7 := blk_frozen BK274.out 7; have hfz32_8 := blk_frozen BK274.out 8; have hfz32_9 := blk_frozen BK274.out 9; have hfz32_10 := blk_frozen BK274.out 10; obtain ⟨Ao33, co33, eo33⟩ := Kd.R_slice HO269.out; subst eo33))
                go_ret2
                exact ⟨_, by first | rfl | (simp [errW_none, errW_some] <;> rfl) | (simp [*, errW_none, errW_some] <;> rfl), by first | exact Kd.S_nil _ _ _ _ _ | exact Kd.N_nil _ _ _ _ _ | exact Kd.V_nil _ _ _ _ _ | exact Kd.Q_nil _ _ _ _ _ | exact Kd.R_nil _ _ _ _ _, by repeat (first | (with_reducible first | exact HB.out | apply below_alloc | apply pw_below_drewN | apply below_drew1 | refine below_set ?_ GE274.out) | exact HB.out)⟩
          · rw [if_neg c12] at H
            have c12b0 : decide (0 < (x5_1.length : Int)) = false := decide_eq_false c12
            have c12b1 : decide (0 < x5_1.length) = false := decide_eq_false (by omega)
            clear c12
            simp only [Option.some.injEq, Prod.mk.injEq] at H
            obtain ⟨rfl, rfl⟩ := H
            obtain ⟨Ao34, co34, eo34⟩ := Kd.V_slice HO_5.out
            subst eo34
            go_wp2
            go_ret2
            exact ⟨_, by first | rfl | (simp [errW_none, errW_some] <;> rfl) | (simp [*, errW_none, errW_some] <;> rfl), by (with_reducible repeat (first | apply Kd.S_alloc | apply Kd.S_drewN | apply Kd.S_drew)); exact HO_7.out, by repeat (first | (with_reducible first | exact HB.out | apply below_alloc | apply pw_below_drewN | apply below_drew1) | exact HB.out)⟩
    · replace c5 := Bool.eq_false_iff.mpr c5
      subst c5
      have H1 : (some (([] : List (S44)), 3)) = some (r1, r2) := by rw [if_neg (show ¬ (false = true) by decide)] at H; exact H
      clear H
      have H := H1
      clear H1
      simp only [Option.some.injEq, Prod.mk.injEq] at H
      obtain ⟨rfl, rfl⟩ := H
      go_enter Try.func8, Try.ntmps8
      have kc := fun W : World => Lib.run_convert_bytes_const (P := Try.prog) W 23 5 #[.int .u8 87, .int .u8 83] 2 2 Try.underlying23 Try.underlying5
      go_wp2_with (first | ((with_reducible refine gate_callee (f := 17) rfl ?_); refine goesL_ (some 13) rfl rfl Try.func17 (by kernel_rfl) rfl #[.slice A0 l0.length c0] rfl (by (try simp only [List.map_toArray, List.map_cons, List.map_nil]); first | done | rfl | (simp only [List.length_drop, List.length_take]; rfl)) ?_; (with_reducible refine (check_Open.calls k _ _ l0 t246 t247 _ ?side1 ?side2 A2.out).mono ?_); (case side1 => repeat (first | exact HR0.out | (with_reducible refine Kd.C_alloc ?_ _) | (with_reducible refine Kd.C_drewN ?_ _) | (with_reducible refine Kd.C_drew ?_))); (case side2 => exact HC0.out); rintro e w35 ⟨v248, rfl, ho0, hb⟩; refine ⟨_, rfl, ?_⟩; have n0_ := Aside0.mk (Kd.R_lower ho0 (below_size (by repeat (first | (with_reducible first | exact HB.out | apply below_alloc | apply pw_below_drewN | apply below_drew1) | exact HB.out)))); have n1_ := Aside0.mk (below_step (by repeat (first | (with_reducible first | exact HB.out | apply below_alloc | apply pw_below_drewN | apply below_drew1) | exact HB.out)) hb); clear HB; have HO249 := n0_; have HB := n1_; clear n0_ n1_; (try clear hb); (try clear hb2); (try clear hk); (try clear hi); (try clear ho0); obtain ⟨Ao38, co38, eo38⟩ := Kd.R_slice HO249.out; subst eo38) | ((with_reducible refine gate_callee (f := 18) rfl ?_); refine goesL_ (some 23) rfl rfl Try.func18 (by kernel_rfl) rfl #[.slice Ao38 t246.length co38, .slice (some ⟨w35.heap.size, 0, none⟩) 2 2] rfl (by (try simp only [List.map_toArray, List.map_cons, List.map_nil]); first | done | rfl | (simp only [List.length_drop, List.length_take]; rfl)) ?_; (refine (show Calls Try.prog _ #[.slice Ao38 t246.length co38, .slice (some ⟨w35.heap.size, 0, none⟩) ([87, 83] : List Int).length 2] _ _ from ?_)); (refine (bytes_CutPrefix.calls (fun k_ => some k_ = (.slice Ao38 t246.length co38 : Value).ownBlock) _ _ t246 _ _ ([87, 83] : List Int) t253 false _ ?side1 ?side2 ?side3 (by rw [← Ny250.out]; exact A4.out)).mono ?_); (case side1 => exact Kd.R_V (Kd.R_tight rfl (Kd.R_alloc HO249.out _))); (case side2 => exact C_const w35 [87, 83] (by decide) 5 (2, 3)); (case side3 => decide); rintro e w40 ⟨v254, rfl, ho0, hb⟩; refine ⟨_, rfl, ?_⟩; have n0_ := Aside0.mk (Kd.R_below (by (with_reducible repeat (first | apply Kd.R_alloc | apply Kd.R_drewN | apply Kd.R_drew)); exact HO249.out) hb); have n2_ := Aside0.mk (Kd.V_lower (Kd.V_mono (ok' := fun _ => True) ho0 (fun _ _ => trivial)) (below_size (by repeat (first | (with_reducible first | exact HB.out | apply below_alloc | apply pw_below_drewN | apply below_drew1) | exact HB.out)))); have n3_ := Aside0.mk (below_step (by repeat (first | (with_reducible first | exact HB.out | apply below_alloc | apply pw_below_drewN | apply below_drew1) | exact HB.out)) hb); clear HO249; clear HB; have HO249 := n0_; have HO255 := n2_; have HB := n3_; clear n0_ n2_ n3_; (try clear hb); (try clear hb2); (try clear hk); (try clear hi); (try clear ho0)))
      go_ret2
      exact ⟨_, by first | rfl | (simp [errW_none, errW_some] <;> rfl) | (simp [*, errW_none, errW_some] <;> rfl), by first | exact Kd.S_nil _ _ _ _ _ | exact Kd.N_nil _ _ _ _ _ | exact Kd.V_nil _ _ _ _ _ | exact Kd.Q_nil _ _ _ _ _ | exact Kd.R_nil _ _ _ _ _, by repeat (first | (with_reducible first | exact HB.out | apply below_alloc | apply pw_below_drewN | apply below_drew1) | exact HB.out)⟩
  · rw [if_neg c3] at H
    have c3b0 : (t247 == 0) = false := beq_eq_false_iff_ne.mpr c3
    have c3b1 : (t247 != 0) = true := bne_iff_ne.mpr c3
    simp only [Option.some.injEq, Prod.mk.injEq] at H
    obtain ⟨rfl, rfl⟩ := H
    go_enter Try.func8, Try.ntmps8
    go_wp2_with (first | ((with_reducible refine gate_callee (f := 17) rfl ?_); refine goesL_ (some 13) rfl rfl Try.func17 (by kernel_rfl) rfl #[.slice A0 l0.length c0] rfl (by (try simp only [List.map_toArray, List.map_cons, List.map_nil]); first | done | rfl | (simp only [List.length_drop, List.length_take]; rfl)) ?_; (with_reducible refine (check_Open.calls k _ _ l0 t246 t247 _ ?side1 ?side2 A2.out).mono ?_); (case side1 => repeat (first | exact HR0.out | (with_reducible refine Kd.C_alloc ?_ _) | (with_reducible refine Kd.C_drewN ?_ _) | (with_reducible refine Kd.C_drew ?_))); (case side2 => exact HC0.out); rintro e w41 ⟨v248, rfl, ho0, hb⟩; refine ⟨_, rfl, ?_⟩; have n0_ := Aside0.mk (Kd.R_lower ho0 (below_size (by repeat (first | (with_reducible first | exact HB.out | apply below_alloc | apply pw_below_drewN | apply below_drew1) | exact HB.out)))); have n1_ := Aside0.mk (below_step (by repeat (first | (with_reducible first | exact HB.out | apply below_alloc | apply pw_below_drewN | apply below_drew1) | exact HB.out)) hb); clear HB; have HO249 := n0_; have HB := n1_; clear n0_ n1_; (try clear hb); (try clear hb2); (try clear hk); (try clear hi); (try clear ho0)))
    go_ret2
    exact ⟨_, by first | rfl | (simp [errW_none, errW_some] <;> rfl) | (simp [*, errW_none, errW_some] <;> rfl), by first | exact Kd.S_nil _ _ _ _ _ | exact Kd.N_nil _ _ _ _ _ | exact Kd.V_nil _ _ _ _ _ | exact Kd.Q_nil _ _ _ _ _ | exact Kd.R_nil _ _ _ _ _, by repeat (first | (with_reducible first | exact HB.out | apply below_alloc | apply pw_below_drewN | apply below_drew1) | exact HB.out)⟩

end Go.Proofs.Ytgjckdkpkgmbkaa.P

/- Contract, by hand, of script.Counts at one event of the first kind. -/
namespace Go.Proofs.Ytgjckdkpkgmbkaa.Hand
open Go.RowKit Go.Proofs.Ytgjckdkpkgmbkaa.P Go.Proofs.YtgjckdkpkgmbkaaW Go.Proofs.YtgjckdkpkgmbkaaW.PrintWords Go.Proofs.YtgjckdkpkgmbkaaW.PrintLast Go.Proofs.YtgjckdkpkgmbkaaW.PrintMore
set_option linter.unusedVariables false
set_option linter.unusedSimpArgs false
def script_Counts.f (k : Nat) (l : List S44) : Option Int := if l.length = 1 ∧ (rd_T44 l 0).f0 = 1 then some 1 else none
theorem script_Counts.mono : ∀ l k, LeO (script_Counts.f k l) (script_Counts.f (k + 1) l) := fun _ _ => LeO.refl _
theorem counts_within (w : World) : Calls Try.prog 22 #[.int .i64 1, .int .i64 1, .int .i64 8] w fun e w' => e = .returned (.bool true) ∧ w' = w := by
  go_enter Try.func22, Try.ntmps22
  go_wp2
  go_ret
  exact ⟨rfl, rfl⟩
set_option maxHeartbeats 8000000 in
set_option maxRecDepth 100000 in
theorem script_Counts.calls (k : Nat) (A0 : Option Addr) (c0 : Nat) (l0 : List S44) (r : Int) (w : World) (hr0 : Kd.C k44 w A0 l0.length l0) (hc0 : l0.length ≤ c0) (h : script_Counts.f k l0 = some r) :
    Calls Try.prog 12 #[.slice A0 l0.length c0] w fun e w' => e = .returned (.agg #[.int .i64 0, .int .i64 1, .int .i64 0, .int .i64 0, .int .i64 0, .int .i64 0, .int .i64 0, .int .i64 0, .int .i64 0]) ∧ Below w.heap.size w w' := by
  unfold script_Counts.f at h
  split at h
  rotate_left
  · cases h
  rename_i hc
  obtain ⟨hl, h1⟩ := hc
  clear h
  obtain ⟨ad, A10, c10, e, hx0, hx1, hx2, hx3, hx4, hx5, hx6, hx7, hx8, hx9, hx10, hl10, hi10⟩ := at_T44 hr0 0 (by omega) (by omega)
  cases e
  rw [h1] at hx0
  rw [hl]
  clear hr0 hc0 h1 hl hi10 hl10
  generalize rd_T44 l0 0 = x at *
  clear l0 k
  simp only [Int.toNat_zero, Nat.zero_mul, Addr.add_zero'] at hx0 hx1 hx2 hx3 hx4 hx5 hx6 hx7 hx8 hx9 hx10
  have hb := World.block_lt_of_cell? w _ hx0
  obtain ⟨b, off, spot⟩ := ad
  obtain rfl : spot = none := by simpa using World.cell?_spot hx0
  simp only at hx0 hx1 hx2 hx3 hx4 hx5 hx6 hx7 hx8 hx9 hx10 hb
  go_enter Try.func12, Try.ntmps12
  go_wp2
  refine wp_loop_rounds 2 ?_
  rw [rounds_succ]
  go_wp2_with (go_at_call 22; (with_reducible refine (counts_within _).mono ?_); rintro e w9 ⟨rfl, rfl⟩)
  rw [rounds_succ]
  go_wp2
  refine bodyPost_ret (v := .agg #[.int .i64 0, .int .i64 1, .int .i64 0, .int .i64 0, .int .i64 0, .int .i64 0, .int .i64 0, .int .i64 0, .int .i64 0]) ?_ rfl ⟨rfl, ?_⟩
  · have hres : Try.f12.results = #[.cell 2 46] := by kernel_rfl
    simp only [results, hres]
    go_simp
  · repeat (first | exact Below.refl _ _ | refine below_alloc ?_ _ | refine Below.setCell ?_ (by simp) _)
end Go.Proofs.Ytgjckdkpkgmbkaa.Hand

-- Written by xprint.py (a program of this session's, over the kit's printer) out of the translation. Not trusted: Lean checks it.
namespace Go.Proofs.Ytgjckdkpkgmbkaa.P
open Go.RowKit Go.Proofs.YtgjckdkpkgmbkaaW.PrintWords Go.Proofs.YtgjckdkpkgmbkaaW.PrintLast Go.Proofs.YtgjckdkpkgmbkaaW.PrintMore Go.Proofs.Ytgjckdkpkgmbkaa.Hand
attribute [local go_sem] max2_int min2_int max_two min_two max_three min_three max_four min_four   -- for this text's walks alone
set_option linter.unusedVariables false
set_option linter.unusedSimpArgs false

/-! ### thwartlaw33_alive: function 5 -/
def thwartlaw33_alive.f (k : Nat)  : Option (Bool) := (script_Lay.f k (([(⟨1, (-1), 0, 0, (⟨0, 0, (⟨0, 0, 0, 0⟩ : S37)⟩ : S42), ([] : List Int)⟩ : S44)] : List (S44)))).bind fun bt283 => ((script_Parse.f k bt283.1).bind fun bt287 => (if (bt283.1.length : Int) = 21 then (if bt283.2 = 0 then (if (bt287.1.length : Int) = 1 then (if 0 < (bt287.1.length : Int) then (if ((rd_T44 bt287.1 0).f1) = (-1) then (if bt287.2 = 0 then ((script_Quiet.f ((rd_T44 bt287.1 0).f0) ((rd_T44 bt287.1 0).f1) ((rd_T44 bt287.1 0).f2) ((rd_T44 bt287.1 0).f3) ((rd_T44 bt287.1 0).f4.f0) ((rd_T44 bt287.1 0).f4.f1) ((rd_T44 bt287.1 0).f4.f2.f0) ((rd_T44 bt287.1 0).f4.f2.f1) ((rd_T44 bt287.1 0).f4.f2.f2) ((rd_T44 bt287.1 0).f4.f2.f3) ((rd_T44 bt287.1 0).f5)).bind fun t293 => (if t293 = true then ((script_Counts.f k bt287.1).bind fun t294 => (if t294 = 1 then ((script_May.f 0 0 0 0 0 0 0 0 0 0 ([] : List Int)).bind fun t295 => (some (t295 == 11))) else (some false))) else (some false))) else (some false)) else (some false)) else (none)) else (some false)) else (some false)) else (some false)))
theorem thwartlaw33_alive.mono : ∀ k, LeO (thwartlaw33_alive.f k ) (thwartlaw33_alive.f (k + 1) ) := by
  intro  k
  unfold thwartlaw33_alive.f
  repeat' first
      | (with_reducible exact script_Counts.mono _ _)
      | (with_reducible exact script_Lay.mono _ _)
      | (with_reducible exact script_Parse.mono _ _)
      | (with_reducible exact LeO.refl _)
      | (with_reducible exact LeO.none _)
      | (with_reducible refine LeO.ite ?_ ?_)
      | (with_reducible refine LeO.bind ?_ (fun _ => ?_))
      | exact script_Counts.mono _ _
      | exact script_Lay.mono _ _
      | exact script_Parse.mono _ _
      | exact LeO.none _
      | refine LeO.ite ?_ ?_
      | refine LeO.bind ?_ (fun _ => ?_)
set_option maxHeartbeats 8000000 in
set_option maxRecDepth 100000 in
theorem thwartlaw33_alive.calls (k : Nat)  (r : Bool) (w : World) (htrue : r = true) (h : thwartlaw33_alive.f k  = some r) :
    Calls Try.prog 5 #[] w fun e w' => e = .returned (.bool r) ∧ Below w.heap.size w w' := by
  have HT := Aside0.mk htrue
  clear htrue
  have hu44 := Try.underlying44
  have HB := Aside0.mk (Below.refl w.heap.size w)
  have H : ((script_Lay.f k (([(⟨1, (-1), 0, 0, (⟨0, 0, (⟨0, 0, 0, 0⟩ : S37)⟩ : S42), ([] : List Int)⟩ : S44)] : List (S44)))).bind fun bt283 => ((script_Parse.f k bt283.1).bind fun bt287 => (if (bt283.1.length : Int) = 21 then (if bt283.2 = 0 then (if (bt287.1.length : Int) = 1 then (if 0 < (bt287.1.length : Int) then (if ((rd_T44 bt287.1 0).f1) = (-1) then (if bt287.2 = 0 then ((script_Quiet.f ((rd_T44 bt287.1 0).f0) ((rd_T44 bt287.1 0).f1) ((rd_T44 bt287.1 0).f2) ((rd_T44 bt287.1 0).f3) ((rd_T44 bt287.1 0).f4.f0) ((rd_T44 bt287.1 0).f4.f1) ((rd_T44 bt287.1 0).f4.f2.f0) ((rd_T44 bt287.1 0).f4.f2.f1) ((rd_T44 bt287.1 0).f4.f2.f2) ((rd_T44 bt287.1 0).f4.f2.f3) ((rd_T44 bt287.1 0).f5)).bind fun t293 => (if t293 = true then ((script_Counts.f k bt287.1).bind fun t294 => (if t294 = 1 then ((script_May.f 0 0 0 0 0 0 0 0 0 0 ([] : List Int)).bind fun t295 => (some (t295 == 11))) else (some false))) else (some false))) else (some false)) else (some false)) else (none)) else (some false)) else (some false)) else (some false)))) = some r := h
  clear h
  obtain ⟨y280, hy280⟩ : ∃ y_ : List (S44), y_ = (([(⟨1, (-1), 0, 0, (⟨0, 0, (⟨0, 0, 0, 0⟩ : S37)⟩ : S42), ([] : List Int)⟩ : S44)] : List (S44))) := ⟨_, rfl⟩
  replace H : ((script_Lay.f k y280).bind fun bt283 => ((script_Parse.f k bt283.1).bind fun bt287 => (if (bt283.1.length : Int) = 21 then (if bt283.2 = 0 then (if (bt287.1.length : Int) = 1 then (if 0 < (bt287.1.length : Int) then (if ((rd_T44 bt287.1 0).f1) = (-1) then (if bt287.2 = 0 then ((script_Quiet.f ((rd_T44 bt287.1 0).f0) ((rd_T44 bt287.1 0).f1) ((rd_T44 bt287.1 0).f2) ((rd_T44 bt287.1 0).f3) ((rd_T44 bt287.1 0).f4.f0) ((rd_T44 bt287.1 0).f4.f1) ((rd_T44 bt287.1 0).f4.f2.f0) ((rd_T44 bt287.1 0).f4.f2.f1) ((rd_T44 bt287.1 0).f4.f2.f2) ((rd_T44 bt287.1 0).f4.f2.f3) ((rd_T44 bt287.1 0).f5)).bind fun t293 => (if t293 = true then ((script_Counts.f k bt287.1).bind fun t294 => (if t294 = 1 then ((script_May.f 0 0 0 0 0 0 0 0 0 0 ([] : List Int)).bind fun t295 => (some (t295 == 11))) else (some false))) else (some false))) else (some false)) else (some false)) else (none)) else (some false)) else (some false)) else (some false)))) = some r := by first | (rw [hy280]; with_reducible exact H) | (have H2_ := (Option.bind_some _ _).symm.trans H; rw [hy280]; with_reducible exact H2_) | (have H2_ := (Option.bind_some _ _).symm.trans H; with_reducible exact H2_) | with_reducible exact H | (rw [hy280]; exact H) | exact H
  have Ny280 := Aside0.mk hy280
  clear hy280
  replace H := Option.bind_eq_some_iff.mp H
  obtain ⟨⟨t283, t284⟩, A10, H⟩ := H
  replace H : ((script_Parse.f k t283).bind fun bt287 => (if (t283.length : Int) = 21 then (if t284 = 0 then (if (bt287.1.length : Int) = 1 then (if 0 < (bt287.1.length : Int) then (if ((rd_T44 bt287.1 0).f1) = (-1) then (if bt287.2 = 0 then ((script_Quiet.f ((rd_T44 bt287.1 0).f0) ((rd_T44 bt287.1 0).f1) ((rd_T44 bt287.1 0).f2) ((rd_T44 bt287.1 0).f3) ((rd_T44 bt287.1 0).f4.f0) ((rd_T44 bt287.1 0).f4.f1) ((rd_T44 bt287.1 0).f4.f2.f0) ((rd_T44 bt287.1 0).f4.f2.f1) ((rd_T44 bt287.1 0).f4.f2.f2) ((rd_T44 bt287.1 0).f4.f2.f3) ((rd_T44 bt287.1 0).f5)).bind fun t293 => (if t293 = true then ((script_Counts.f k bt287.1).bind fun t294 => (if t294 = 1 then ((script_May.f 0 0 0 0 0 0 0 0 0 0 ([] : List Int)).bind fun t295 => (some (t295 == 11))) else (some false))) else (some false))) else (some false)) else (some false)) else (none)) else (some false)) else (some false)) else (some false))) = some r := H
  have A1 := Aside0.mk A10
  clear A10
  replace H := Option.bind_eq_some_iff.mp H
  obtain ⟨⟨t287, t288⟩, A20, H⟩ := H
  replace H : (if (t283.length : Int) = 21 then (if t284 = 0 then (if (t287.length : Int) = 1 then (if 0 < (t287.length : Int) then (if ((rd_T44 t287 0).f1) = (-1) then (if t288 = 0 then ((script_Quiet.f ((rd_T44 t287 0).f0) ((rd_T44 t287 0).f1) ((rd_T44 t287 0).f2) ((rd_T44 t287 0).f3) ((rd_T44 t287 0).f4.f0) ((rd_T44 t287 0).f4.f1) ((rd_T44 t287 0).f4.f2.f0) ((rd_T44 t287 0).f4.f2.f1) ((rd_T44 t287 0).f4.f2.f2) ((rd_T44 t287 0).f4.f2.f3) ((rd_T44 t287 0).f5)).bind fun t293 => (if t293 = true then ((script_Counts.f k t287).bind fun t294 => (if t294 = 1 then ((script_May.f 0 0 0 0 0 0 0 0 0 0 ([] : List Int)).bind fun t295 => (some (t295 == 11))) else (some false))) else (some false))) else (some false)) else (some false)) else (none)) else (some false)) else (some false)) else (some false)) = some r := H
  have A2 := Aside0.mk A20
  clear A20
  by_cases c3 : (t283.length : Int) = 21
  · rw [if_pos c3] at H
    have c3b0 : ((t283.length : Int) == 21) = true := beq_iff_eq.mpr c3
    have c3b1 : ((t283.length : Int) != 21) = false := bne_eq_false_iff_eq.mpr c3
    clear c3
    by_cases c4 : t284 = 0
    · rw [if_pos c4] at H
      have c4b0 : (t284 == 0) = true := beq_iff_eq.mpr c4
      have c4b1 : (t284 != 0) = false := bne_eq_false_iff_eq.mpr c4
      clear c4
      by_cases c5 : (t287.length : Int) = 1
      · rw [if_pos c5] at H
        have c5b0 : ((t287.length : Int) == 1) = true := beq_iff_eq.mpr c5
        have c5b1 : ((t287.length : Int) != 1) = false := bne_eq_false_iff_eq.mpr c5
        clear c5
        by_cases c6 : 0 < (t287.length : Int)
        · rw [if_pos c6] at H
          have c6b0 : decide (0 < (t287.length : Int)) = true := decide_eq_true c6
          have c6b1 : decide (0 < t287.length) = true := decide_eq_true (by omega)
          clear c6
          by_cases c7 : ((rd_T44 t287 0).f1) = (-1)
          · rw [if_pos c7] at H
            have c7b0 : (((rd_T44 t287 0).f1) == (-1)) = true := beq_iff_eq.mpr c7
            have c7b1 : (((rd_T44 t287 0).f1) != (-1)) = false := bne_eq_false_iff_eq.mpr c7
            clear c7
            by_cases c8 : t288 = 0
            · rw [if_pos c8] at H
              have c8b0 : (t288 == 0) = true := beq_iff_eq.mpr c8
              have c8b1 : (t288 != 0) = false := bne_eq_false_iff_eq.mpr c8
              clear c8
              replace H := Option.bind_eq_some_iff.mp H
              obtain ⟨t293, A90, H⟩ := H
              replace H : (if t293 = true then ((script_Counts.f k t287).bind fun t294 => (if t294 = 1 then ((script_May.f 0 0 0 0 0 0 0 0 0 0 ([] : List Int)).bind fun t295 => (some (t295 == 11))) else (some false))) else (some false)) = some r := H
              have A9 := Aside0.mk A90
              clear A90
              by_cases c10 : t293 = true
              · subst c10
                have H1 : ((script_Counts.f k t287).bind fun t294 => (if t294 = 1 then ((script_May.f 0 0 0 0 0 0 0 0 0 0 ([] : List Int)).bind fun t295 => (some (t295 == 11))) else (some false))) = some r := by rw [if_pos rfl] at H; exact H
                clear H
                have H := H1
                clear H1
                replace H := Option.bind_eq_some_iff.mp H
                obtain ⟨t294, A110, H⟩ := H
                replace H : (if t294 = 1 then ((script_May.f 0 0 0 0 0 0 0 0 0 0 ([] : List Int)).bind fun t295 => (some (t295 == 11))) else (some false)) = some r := H
                have A11 := Aside0.mk A110
                clear A110
                by_cases c12 : t294 = 1
                · rw [if_pos c12] at H
                  have c12b0 : (t294 == 1) = true := beq_iff_eq.mpr c12
                  have c12b1 : (t294 != 1) = false := bne_eq_false_iff_eq.mpr c12
                  clear c12
                  replace H := Option.bind_eq_some_iff.mp H
                  obtain ⟨t295, A130, H⟩ := H
                  replace H : (some (t295 == 11)) = some r := H
                  have A13 := Aside0.mk A130
                  clear A130
                  obtain rfl := Option.some.inj H
                  have hix_ : ∀ w : World, (Instr.index 46 (.agg #[.int .i64 0, .int .i64 1, .int .i64 0, .int .i64 0, .int .i64 0, .int .i64 0, .int .i64 0, .int .i64 0, .int .i64 0]) (.int .i64 1)).run Try.prog w = .ok (.int .i64 1) w := fun _ => by kernel_rfl
                  go_enter Try.func5, Try.ntmps5
                  go_wp2_with (first | ((with_reducible refine gate_dst (N := 7) rfl ?_); (try (refine gate_guard (by rfl) ?_; dsimp only)); refine Kd.S_lit k44 _ 44 ?hg (N := 7) ?hd (xs := ([(⟨1, (-1), 0, 0, (⟨0, 0, (⟨0, 0, 0, 0⟩ : S37)⟩ : S42), ([] : List Int)⟩ : S44)] : List (S44))) (inner := [.int .i64 1, .int .i64 (-1), .int .i64 0, .int .u8 0, .int .i64 0, .int .u16 0, .int .u8 0, .int .u8 0, .int .u8 0, .int .u8 0, .slice none 0 0]) (ok := fun _ => True) (okp := fun _ => True) ?hr ?hp (fun _ hk => hk) trivial (Below.refl _ _) (Nat.le_refl _) (by simp) ?_; (case hd => rfl); (case hg => rfl); (case hr => first | (go_simp; done) | (go_simp; rfl)); (case hp => exact (Reps.front (show Kd.M k44 _ _ _ (⟨1, (-1), 0, 0, (⟨0, 0, (⟨0, 0, 0, 0⟩ : S37)⟩ : S42), ([] : List Int)⟩ : S44) [.int .i64 1, .int .i64 (-1), .int .i64 0, .int .u8 0, .int .i64 0, .int .u16 0, .int .u8 0, .int .u8 0, .int .u8 0, .int .u8 0, .slice none 0 0] from (k44_mkM _ _ _ (⟨1, (-1), 0, 0, (⟨0, 0, (⟨0, 0, 0, 0⟩ : S37)⟩ : S42), ([] : List Int)⟩ : S44) (Kd.R_nil _ _ _ _ _))) rfl (Reps.none _ _) rfl)); intro v281 w14 ho15 hb hg_ hnew_; clear hg_ hnew_; (first | rw [← Ny280.out] at ho15 | (simp only [Int.reduceToNat] at ho15; rw [← Ny280.out] at ho15)); have n0_ := Aside0.mk (Kd.S_lower ho15 (below_size (by repeat (first | (with_reducible first | exact HB.out | apply below_alloc | apply pw_below_drewN | apply below_drew1) | exact HB.out)))); have n1_ := Aside0.mk (below_step (by repeat (first | (with_reducible first | exact HB.out | apply below_alloc | apply pw_below_drewN | apply below_drew1) | exact HB.out)) hb); clear HB; have HO282 := n0_; have HB := n1_; clear n0_ n1_; clear hb ho15; obtain ⟨Ao16, co16, eo16⟩ := Kd.S_slice HO282.out; subst eo16) | ((with_reducible refine gate_callee (f := 6) rfl ?_); refine goesL_ (some 8) rfl rfl Try.func6 (by kernel_rfl) rfl #[.slice Ao16 y280.length co16] rfl (by (try simp only [List.map_toArray, List.map_cons, List.map_nil]); first | done | rfl | (simp only [List.length_drop, List.length_take]; rfl)) ?_; (with_reducible refine (script_Lay.calls k _ _ y280 t283 t284 _ ?side1 ?side2 A1.out).mono ?_); (case side1 => repeat (first | exact (Kd.S_reads' HO282.out).2.2 | (with_reducible refine Kd.C_alloc ?_ _) | (with_reducible refine Kd.C_drewN ?_ _) | (with_reducible refine Kd.C_drew ?_))); (case side2 => exact (Kd.S_reads' HO282.out).2.1); rintro e w17 ⟨v285, rfl, ho0, hb⟩; refine ⟨_, rfl, ?_⟩; have n0_ := Aside0.mk (Kd.S_elder' (by (with_reducible repeat (first | apply Kd.S_alloc | apply Kd.S_drewN | apply Kd.S_drew)); exact HO282.out) (Kd.R_base ho0) hb); have n1_ := Aside0.mk (Kd.R_lower ho0 (below_size (by repeat (first | (with_reducible first | exact HB.out | apply below_alloc | apply pw_below_drewN | apply below_drew1) | exact HB.out)))); have n2_ := Aside0.mk (below_step (by repeat (first | (with_reducible first | exact HB.out | apply below_alloc | apply pw_below_drewN | apply below_drew1) | exact HB.out)) hb); clear HO282; clear HB; have HO282 := n0_; have HO286 := n1_; have HB := n2_; clear n0_ n1_ n2_; (try clear hb); (try clear hb2); (try clear hk); (try clear hi); (try clear ho0); obtain ⟨Ao18, co18, eo18⟩ := Kd.R_slice HO286.out; subst eo18) | ((with_reducible refine gate_callee (f := 8) rfl ?_); refine goesL_ (some 13) rfl rfl Try.func8 (by kernel_rfl) rfl #[.slice Ao18 t283.length co18] rfl (by (try simp only [List.map_toArray, List.map_cons, List.map_nil]); first | done | rfl | (simp only [List.length_drop, List.length_take]; rfl)) ?_; (with_reducible refine (script_Parse.calls k _ _ t283 t287 t288 _ ?side1 ?side2 A2.out).mono ?_); (case side1 => repeat (first | exact (Kd.R_reads' HO286.out).2.2 | (with_reducible refine Kd.C_alloc ?_ _) | (with_reducible refine Kd.C_drewN ?_ _) | (with_reducible refine Kd.C_drew ?_))); (case side2 => exact (Kd.R_reads' HO286.out).2.1); rintro e w19 ⟨v289, rfl, ho0, hb⟩; refine ⟨_, rfl, ?_⟩; have n0_ := Aside0.mk (Kd.S_elder' (by (with_reducible repeat (first | apply Kd.S_alloc | apply Kd.S_drewN | apply Kd.S_drew)); exact HO282.out) (Kd.S_base ho0) hb); have n1_ := Aside0.mk (Kd.R_below (by (with_reducible repeat (first | apply Kd.R_alloc | apply Kd.R_drewN | apply Kd.R_drew)); exact HO286.out) hb); have n2_ := Aside0.mk (Kd.S_lower (Kd.S_new' (Kd.S_new' ho0 (Kd.S_lt (by (with_reducible repeat (first | apply Kd.S_alloc | apply Kd.S_drewN | apply Kd.S_drew)); exact HO282.out))) (Kd.R_lt (by (with_reducible repeat (first | apply Kd.R_alloc | apply Kd.R_drewN | apply Kd.R_drew)); exact HO286.out))) (below_size (by repeat (first | (with_reducible first | exact HB.out | apply below_alloc | apply pw_below_drewN | apply below_drew1) | exact HB.out)))); have n3_ := Aside0.mk (below_step (by repeat (first | (with_reducible first | exact HB.out | apply below_alloc | apply pw_below_drewN | apply below_drew1) | exact HB.out)) hb); clear HO282; clear HO286; clear HB; have HO282 := n0_; have HO286 := n1_; have HO290 := n2_; have HB := n3_; clear n0_ n1_ n2_ n3_; (try clear hb); (try clear hb2); (try clear hk); (try clear hi); (try clear ho0); obtain ⟨Ao20, co20, eo20⟩ := Kd.S_slice HO290.out; subst eo20; have p291 : 0 ≤ (0 : Int) := (by omega); have q291 : 0 < (t287.length : Int) := of_decide_eq_true (by first | (with_reducible assumption) | assumption); obtain ⟨ad291, A291_10, c291_10, e291, hx291_0, hx291_1, hx291_2, hx291_3, hx291_4, hx291_5, hx291_6, hx291_7, hx291_8, hx291_9, hx291_10, hl291_10, hi291_10⟩ := at_T44 (Kd.S_reads' HO290.out).2.2 0 p291 q291; cases e291; obtain ⟨ce291, hce291, hMe291, hcc291⟩ := Kd.S_get HO290.out z44 0 p291 (by first | exact q291 | exact of_decide_eq_true (by first | (with_reducible assumption) | assumption) | (have e_ := (Kd.S_reads' HO290.out).1; omega)); obtain ⟨ve291_10, rfl, ge291_10⟩ := k44_openM hMe291; have hv291_10 := hcc291 10 _ rfl; rw [add_field _ _ 10 (by omega)] at hv291_10; replace hv291_10 := Option.some.inj (hv291_10.symm.trans hx291_10); rw [hv291_10] at ge291_10; have HL291_10 := Aside0.mk (show Kd.R (Kd.int .u8) 5 _ _ _ _ ((rd_T44 t287 0).f5) from ge291_10); clear hv291_10 ge291_10; clear hcc291 hce291; have qi291 : (0 < t287.length) = True := eq_true (by omega); (try rw [show ((0 : Int)).toNat = 0 from rfl] at hx291_0); (try rw [show 0 * 11 = 0 from rfl] at hx291_0); (try rw [Addr.add_zero'] at hx291_0); (try rw [show ((0 : Int)).toNat = 0 from rfl] at hx291_1); (try rw [show 0 * 11 = 0 from rfl] at hx291_1); (try rw [Addr.add_zero'] at hx291_1); (try rw [show ((0 : Int)).toNat = 0 from rfl] at hx291_2); (try rw [show 0 * 11 = 0 from rfl] at hx291_2); (try rw [Addr.add_zero'] at hx291_2); (try rw [show ((0 : Int)).toNat = 0 from rfl] at hx291_3); (try rw [show 0 * 11 = 0 from rfl] at hx291_3); (try rw [Addr.add_zero'] at hx291_3); (try rw [show ((0 : Int)).toNat = 0 from rfl] at hx291_4); (try rw [show 0 * 11 = 0 from rfl] at hx291_4); (try rw [Addr.add_zero'] at hx291_4); (try rw [show ((0 : Int)).toNat = 0 from rfl] at hx291_5); (try rw [show 0 * 11 = 0 from rfl] at hx291_5); (try rw [Addr.add_zero'] at hx291_5); (try rw [show ((0 : Int)).toNat = 0 from rfl] at hx291_6); (try rw [show 0 * 11 = 0 from rfl] at hx291_6); (try rw [Addr.add_zero'] at hx291_6); (try rw [show ((0 : Int)).toNat = 0 from rfl] at hx291_7); (try rw [show 0 * 11 = 0 from rfl] at hx291_7); (try rw [Addr.add_zero'] at hx291_7); (try rw [show ((0 : Int)).toNat = 0 from rfl] at hx291_8); (try rw [show 0 * 11 = 0 from rfl] at hx291_8); (try rw [Addr.add_zero'] at hx291_8); (try rw [show ((0 : Int)).toNat = 0 from rfl] at hx291_9); (try rw [show 0 * 11 = 0 from rfl] at hx291_9); (try rw [Addr.add_zero'] at hx291_9); (try rw [show ((0 : Int)).toNat = 0 from rfl] at hx291_10); (try rw [show 0 * 11 = 0 from rfl] at hx291_10); (try rw [Addr.add_zero'] at hx291_10); have HR291_10 := Aside0.mk hi291_10; have HC291_10 := Aside0.mk hl291_10; clear hi291_10 hl291_10; replace p291 := eq_true p291; replace q291 := eq_true q291; have p292 : 0 ≤ (0 : Int) := (by omega); have q292 : 0 < (t287.length : Int) := of_decide_eq_true (by first | (with_reducible assumption) | assumption); obtain ⟨ad292, A292_10, c292_10, e292, hx292_0, hx292_1, hx292_2, hx292_3, hx292_4, hx292_5, hx292_6, hx292_7, hx292_8, hx292_9, hx292_10, hl292_10, hi292_10⟩ := at_T44 (Kd.S_reads' HO290.out).2.2 0 p292 q292; obtain rfl : ad291 = ad292 := (by injection e292); obtain ⟨ce292, hce292, hMe292, hcc292⟩ := Kd.S_get HO290.out z44 0 p292 (by first | exact q292 | exact of_decide_eq_true (by first | (with_reducible assumption) | assumption) | (have e_ := (Kd.S_reads' HO290.out).1; omega)); obtain ⟨ve292_10, rfl, ge292_10⟩ := k44_openM hMe292; have hv292_10 := hcc292 10 _ rfl; rw [add_field _ _ 10 (by omega)] at hv292_10; replace hv292_10 := Option.some.inj (hv292_10.symm.trans hx292_10); rw [hv292_10] at ge292_10; have HL292_10 := Aside0.mk (show Kd.R (Kd.int .u8) 5 _ _ _ _ ((rd_T44 t287 0).f5) from ge292_10); clear hv292_10 ge292_10; clear hcc292 hce292; have qi292 : (0 < t287.length) = True := eq_true (by omega); (try rw [show ((0 : Int)).toNat = 0 from rfl] at hx292_0); (try rw [show 0 * 11 = 0 from rfl] at hx292_0); (try rw [Addr.add_zero'] at hx292_0); (try rw [show ((0 : Int)).toNat = 0 from rfl] at hx292_1); (try rw [show 0 * 11 = 0 from rfl] at hx292_1); (try rw [Addr.add_zero'] at hx292_1); (try rw [show ((0 : Int)).toNat = 0 from rfl] at hx292_2); (try rw [show 0 * 11 = 0 from rfl] at hx292_2); (try rw [Addr.add_zero'] at hx292_2); (try rw [show ((0 : Int)).toNat = 0 from rfl] at hx292_3); (try rw [show 0 * 11 = 0 from rfl] at hx292_3); (try rw [Addr.add_zero'] at hx292_3); (try rw [show ((0 : Int)).toNat = 0 from rfl] at hx292_4); (try rw [show 0 * 11 = 0 from rfl] at hx292_4); (try rw [Addr.add_zero'] at hx292_4); (try rw [show ((0 : Int)).toNat = 0 from rfl] at hx292_5); (try rw [show 0 * 11 = 0 from rfl] at hx292_5); (try rw [Addr.add_zero'] at hx292_5); (try rw [show ((0 : Int)).toNat = 0 from rfl] at hx292_6); (try rw [show 0 * 11 = 0 from rfl] at hx292_6); (try rw [Addr.add_zero'] at hx292_6); (try rw [show ((0 : Int)).toNat = 0 from rfl] at hx292_7); (try rw [show 0 * 11 = 0 from rfl] at hx292_7); (try rw [Addr.add_zero'] at hx292_7); (try rw [show ((0 : Int)).toNat = 0 from rfl] at hx292_8); (try rw [show 0 * 11 = 0 from rfl] at hx292_8); (try rw [Addr.add_zero'] at hx292_8); (try rw [show ((0 : Int)).toNat = 0 from rfl] at hx292_9); (try rw [show 0 * 11 = 0 from rfl] at hx292_9); (try rw [Addr.add_zero'] at hx292_9); (try rw [show ((0 : Int)).toNat = 0 from rfl] at hx292_10); (try rw [show 0 * 11 = 0 from rfl] at hx292_10); (try rw [Addr.add_zero'] at hx292_10); have HR292_10 := Aside0.mk hi292_10; have HC292_10 := Aside0.mk hl292_10; clear hi292_10 hl292_10; replace p292 := eq_true p292; replace q292 := eq_true q292; have ea_ := Option.some.inj (hx291_10.symm.trans hx292_10); injection ea_ with ea_ en_ ec_; subst ea_; subst ec_; clear en_) | (go_at_call 11; (with_reducible refine (script_Quiet.calls ((rd_T44 t287 0).f0) ((rd_T44 t287 0).f1) ((rd_T44 t287 0).f2) ((rd_T44 t287 0).f3) ((rd_T44 t287 0).f4.f0) ((rd_T44 t287 0).f4.f1) ((rd_T44 t287 0).f4.f2.f0) ((rd_T44 t287 0).f4.f2.f1) ((rd_T44 t287 0).f4.f2.f2) ((rd_T44 t287 0).f4.f2.f3) _ _ ((rd_T44 t287 0).f5) true _ ?side1 ?side2 A9.out).mono ?_); (case side1 => repeat (first | exact (by repeat (first | (with_reducible exact HR292_10.out) | (with_reducible refine Kd.C_alloc ?_ _) | (with_reducible refine Kd.C_drewN ?_ _) | (with_reducible refine Kd.C_drew ?_) | exact HR292_10.out)) | (with_reducible refine Kd.C_alloc ?_ _) | (with_reducible refine Kd.C_drewN ?_ _) | (with_reducible refine Kd.C_drew ?_))); (case side2 => exact HC292_10.out); rintro e w21 ⟨rfl, hb⟩; have n0_ := Aside0.mk (Kd.S_below (by (with_reducible repeat (first | apply Kd.S_alloc | apply Kd.S_drewN | apply Kd.S_drew)); exact HO282.out) hb); have n1_ := Aside0.mk (Kd.R_below (by (with_reducible repeat (first | apply Kd.R_alloc | apply Kd.R_drewN | apply Kd.R_drew)); exact HO286.out) hb); have n2_ := Aside0.mk (Kd.S_below (by (with_reducible repeat (first | apply Kd.S_alloc | apply Kd.S_drewN | apply Kd.S_drew)); exact HO290.out) hb); have n3_ := Aside0.mk (Kd.R_below (by (with_reducible repeat (first | apply Kd.R_alloc | apply Kd.R_drewN | apply Kd.R_drew)); exact HL291_10.out) hb); have n4_ := Aside0.mk (Kd.R_below (by (with_reducible repeat (first | apply Kd.R_alloc | apply Kd.R_drewN | apply Kd.R_drew)); exact HL292_10.out) hb); have n5_ := Aside0.mk (Kd.C_below (by repeat (first | (with_reducible exact HR291_10.out) | (with_reducible refine Kd.C_alloc ?_ _) | (with_reducible refine Kd.C_drewN ?_ _) | (with_reducible refine Kd.C_drew ?_) | exact HR291_10.out)) hb); have n6_ := Aside0.mk (Kd.C_below (by repeat (first | (with_reducible exact HR292_10.out) | (with_reducible refine Kd.C_alloc ?_ _) | (with_reducible refine Kd.C_drewN ?_ _) | (with_reducible refine Kd.C_drew ?_) | exact HR292_10.out)) hb); have n7_ := Aside0.mk (below_step (by repeat (first | (with_reducible first | exact HB.out | apply below_alloc | apply pw_below_drewN | apply below_drew1) | exact HB.out)) hb); clear HO282; clear HO286; clear HO290; clear HL291_10; clear HL292_10; clear HR291_10; clear HR292_10; clear HB; have HO282 := n0_; have HO286 := n1_; have HO290 := n2_; have HL291_10 := n3_; have HL292_10 := n4_; have HR291_10 := n5_; have HR292_10 := n6_; have HB := n7_; clear n0_ n1_ n2_ n3_ n4_ n5_ n6_ n7_; (try clear hb); (try clear hb2); (try clear hk); (try clear hi)) | (go_at_call 12; (with_reducible refine (script_Counts.calls k _ _ t287 t294 _ ?side1 ?side2 A11.out).mono ?_); (case side1 => repeat (first | exact (Kd.S_reads' HO290.out).2.2 | (with_reducible refine Kd.C_alloc ?_ _) | (with_reducible refine Kd.C_drewN ?_ _) | (with_reducible refine Kd.C_drew ?_))); (case side2 => exact (Kd.S_reads' HO290.out).2.1); rintro e w22 ⟨rfl, hb⟩; have n0_ := Aside0.mk (Kd.S_below (by (with_reducible repeat (first | apply Kd.S_alloc | apply Kd.S_drewN | apply Kd.S_drew)); exact HO282.out) hb); have n1_ := Aside0.mk (Kd.R_below (by (with_reducible repeat (first | apply Kd.R_alloc | apply Kd.R_drewN | apply Kd.R_drew)); exact HO286.out) hb); have n2_ := Aside0.mk (Kd.S_below (by (with_reducible repeat (first | apply Kd.S_alloc | apply Kd.S_drewN | apply Kd.S_drew)); exact HO290.out) hb); have n3_ := Aside0.mk (Kd.R_below (by (with_reducible repeat (first | apply Kd.R_alloc | apply Kd.R_drewN | apply Kd.R_drew)); exact HL291_10.out) hb); have n4_ := Aside0.mk (Kd.R_below (by (with_reducible repeat (first | apply Kd.R_alloc | apply Kd.R_drewN | apply Kd.R_drew)); exact HL292_10.out) hb); have n5_ := Aside0.mk (Kd.C_below (by repeat (first | (with_reducible exact HR291_10.out) | (with_reducible refine Kd.C_alloc ?_ _) | (with_reducible refine Kd.C_drewN ?_ _) | (with_reducible refine Kd.C_drew ?_) | exact HR291_10.out)) hb); have n6_ := Aside0.mk (Kd.C_below (by repeat (first | (with_reducible exact HR292_10.out) | (with_reducible refine Kd.C_alloc ?_ _) | (with_reducible refine Kd.C_drewN ?_ _) | (with_reducible refine Kd.C_drew ?_) | exact HR292_10.out)) hb); have n7_ := Aside0.mk (below_step (by repeat (first | (with_reducible first | exact HB.out | apply below_alloc | apply pw_below_drewN | apply below_drew1) | exact HB.out)) hb); clear HO282; clear HO286; clear HO290; clear HL291_10; clear HL292_10; clear HR291_10; clear HR292_10; clear HB; have HO282 := n0_; have HO286 := n1_; have HO290 := n2_; have HL291_10 := n3_; have HL292_10 := n4_; have HR291_10 := n5_; have HR292_10 := n6_; have HB := n7_; clear n0_ n1_ n2_ n3_ n4_ n5_ n6_ n7_; (try clear hb); (try clear hb2); (try clear hk); (try clear hi)) | (go_at_call 13; (refine (script_May.calls 0 0 0 0 0 0 0 0 0 0 _ _ ([] : List Int) t295 _ ?side1 ?side2 A13.out).mono ?_); (case side1 => exact Kd.C_nil _ _); (case side2 => exact Nat.le_refl _); rintro e w23 ⟨rfl, hb⟩; have n0_ := Aside0.mk (Kd.S_below (by (with_reducible repeat (first | apply Kd.S_alloc | apply Kd.S_drewN | apply Kd.S_drew)); exact HO282.out) hb); have n1_ := Aside0.mk (Kd.R_below (by (with_reducible repeat (first | apply Kd.R_alloc | apply Kd.R_drewN | apply Kd.R_drew)); exact HO286.out) hb); have n2_ := Aside0.mk (Kd.S_below (by (with_reducible repeat (first | apply Kd.S_alloc | apply Kd.S_drewN | apply Kd.S_drew)); exact HO290.out) hb); have n3_ := Aside0.mk (Kd.R_below (by (with_reducible repeat (first | apply Kd.R_alloc | apply Kd.R_drewN | apply Kd.R_drew)); exact HL291_10.out) hb); have n4_ := Aside0.mk (Kd.R_below (by (with_reducible repeat (first | apply Kd.R_alloc | apply Kd.R_drewN | apply Kd.R_drew)); exact HL292_10.out) hb); have n5_ := Aside0.mk (Kd.C_below (by repeat (first | (with_reducible exact HR291_10.out) | (with_reducible refine Kd.C_alloc ?_ _) | (with_reducible refine Kd.C_drewN ?_ _) | (with_reducible refine Kd.C_drew ?_) | exact HR291_10.out)) hb); have n6_ := Aside0.mk (Kd.C_below (by repeat (first | (with_reducible exact HR292_10.out) | (with_reducible refine Kd.C_alloc ?_ _) | (with_reducible refine Kd.C_drewN ?_ _) | (with_reducible refine Kd.C_drew ?_) | exact HR292_10.out)) hb); have n7_ := Aside0.mk (below_step (by repeat (first | (with_reducible first | exact HB.out | apply below_alloc | apply pw_below_drewN | apply below_drew1) | exact HB.out)) hb); clear HO282; clear HO286; clear HO290; clear HL291_10; clear HL292_10; clear HR291_10; clear HR292_10; clear HB; have HO282 := n0_; have HO286 := n1_; have HO290 := n2_; have HL291_10 := n3_; have HL292_10 := n4_; have HR291_10 := n5_; have HR292_10 := n6_; have HB := n7_; clear n0_ n1_ n2_ n3_ n4_ n5_ n6_ n7_; (try clear hb); (try clear hb2); (try clear hk); (try clear hi)))
                  go_ret
                  exact ⟨by first | rfl | (simp [errW_none, errW_some] <;> rfl) | (simp [*, errW_none, errW_some] <;> rfl), by repeat (first | (with_reducible first | exact HB.out | apply below_alloc | apply pw_below_drewN | apply below_drew1) | exact HB.out)⟩
                · rw [if_neg c12] at H
                  have c12b0 : (t294 == 1) = false := beq_eq_false_iff_ne.mpr c12
                  have c12b1 : (t294 != 1) = true := bne_iff_ne.mpr c12
                  exact absurd (H.trans (congrArg some HT.out)) (by simp)
              · replace c10 := Bool.eq_false_iff.mpr c10
                subst c10
                have H1 : (some false) = some r := by rw [if_neg (show ¬ (false = true) by decide)] at H; exact H
                clear H
                have H := H1
                clear H1
                exact absurd (H.trans (congrArg some HT.out)) (by simp)
            · rw [if_neg c8] at H
              have c8b0 : (t288 == 0) = false := beq_eq_false_iff_ne.mpr c8
              have c8b1 : (t288 != 0) = true := bne_iff_ne.mpr c8
              exact absurd (H.trans (congrArg some HT.out)) (by simp)
          · rw [if_neg c7] at H
            have c7b0 : (((rd_T44 t287 0).f1) == (-1)) = false := beq_eq_false_iff_ne.mpr c7
            have c7b1 : (((rd_T44 t287 0).f1) != (-1)) = true := bne_iff_ne.mpr c7
            exact absurd (H.trans (congrArg some HT.out)) (by simp)
        · rw [if_neg c6] at H
          exact absurd H (by simp)
      · rw [if_neg c5] at H
        have c5b0 : ((t287.length : Int) == 1) = false := beq_eq_false_iff_ne.mpr c5
        have c5b1 : ((t287.length : Int) != 1) = true := bne_iff_ne.mpr c5
        exact absurd (H.trans (congrArg some HT.out)) (by simp)
    · rw [if_neg c4] at H
      have c4b0 : (t284 == 0) = false := beq_eq_false_iff_ne.mpr c4
      have c4b1 : (t284 != 0) = true := bne_iff_ne.mpr c4
      exact absurd (H.trans (congrArg some HT.out)) (by simp)
  · rw [if_neg c3] at H
    have c3b0 : ((t283.length : Int) == 21) = false := beq_eq_false_iff_ne.mpr c3
    have c3b1 : ((t283.length : Int) != 21) = true := bne_iff_ne.mpr c3
    exact absurd (H.trans (congrArg some HT.out)) (by simp)
end Go.Proofs.Ytgjckdkpkgmbkaa.P

-- Written by xprint.py (a program of this session's, over the kit's printer) out of the translation. Not trusted: Lean checks it.
namespace Go.Proofs.Ytgjckdkpkgmbkaa.P
open Go.RowKit Go.Proofs.YtgjckdkpkgmbkaaW.PrintWords Go.Proofs.YtgjckdkpkgmbkaaW.PrintLast Go.Proofs.YtgjckdkpkgmbkaaW.PrintMore Go.Proofs.Ytgjckdkpkgmbkaa.Hand
attribute [local go_sem] max2_int min2_int max_two min_two max_three min_three max_four min_four   -- for this text's walks alone
set_option linter.unusedVariables false
set_option linter.unusedSimpArgs false

/-! ### thwartlaw33_theirs: function 16 -/
def thwartlaw33_theirs.f (a0_0 : Int) (a0_1 : Int) (a0_2 : Int) (a0_3 : Int) (a0_4 : Int) (a0_5 : Int) (a0_6 : Int) (a0_7 : Int) (a0_8 : Int) (a0_9 : Int) (l0_10 : List Int) : Option (Int × Int × Int × Int × Int × Int × Int × Int × Int × Int × List Int) := some (a0_0, a0_1, a0_2, a0_3, a0_4, a0_5, a0_6, a0_7, a0_8, a0_9, l0_10)
set_option maxHeartbeats 8000000 in
set_option maxRecDepth 100000 in
theorem thwartlaw33_theirs.calls (a0_0 : Int) (a0_1 : Int) (a0_2 : Int) (a0_3 : Int) (a0_4 : Int) (a0_5 : Int) (a0_6 : Int) (a0_7 : Int) (a0_8 : Int) (a0_9 : Int) (P0_10_ : Nat → Prop) (A0_10 : Option Addr) (c0_10 : Nat) (l0_10 : List Int) (r1 : Int) (r2 : Int) (r3 : Int) (r4 : Int) (r5 : Int) (r6 : Int) (r7 : Int) (r8 : Int) (r9 : Int) (r10 : Int) (r11 : List Int) (w : World) (hs0_10 : Kd.V (Kd.int .u8) 5 w w.heap.size (fun k_ => P0_10_ k_) (.slice A0_10 l0_10.length c0_10) l0_10) (h : thwartlaw33_theirs.f a0_0 a0_1 a0_2 a0_3 a0_4 a0_5 a0_6 a0_7 a0_8 a0_9 l0_10 = some (r1, r2, r3, r4, r5, r6, r7, r8, r9, r10, r11)) :
    Calls Try.prog 16 #[.agg #[.int .i64 a0_0, .int .i64 a0_1, .int .i64 a0_2, .int .u8 a0_3, .int .i64 a0_4, .int .u16 a0_5, .int .u8 a0_6, .int .u8 a0_7, .int .u8 a0_8, .int .u8 a0_9, .slice A0_10 l0_10.length c0_10]] w fun e w' => ∃ v10_ : Value, e = .returned (.agg #[.int .i64 r1, .int .i64 r2, .int .i64 r3, .int .u8 r4, .int .i64 r5, .int .u16 r6, .int .u8 r7, .int .u8 r8, .int .u8 r9, .int .u8 r10, v10_]) ∧ Kd.V (Kd.int .u8) 5 w' w.heap.size (fun k_ => (P0_10_ k_ ∨ w.heap.size ≤ k_)) v10_ r11 ∧ Below w.heap.size w w' := by
  have hu41 := Try.underlying41
  have hu44 := Try.underlying44
  have hu37 := Try.underlying37
  have hu42 := Try.underlying42
  have HO0_10 := Aside0.mk (show Kd.V (Kd.int .u8) 5 w w.heap.size (fun k_ => (P0_10_ k_ ∨ w.heap.size ≤ k_)) (.slice A0_10 l0_10.length c0_10) l0_10 from Kd.V_mono hs0_10 (fun k_ hk => .inl hk))
  have HB := Aside0.mk (Below.refl w.heap.size w)
  have H : (some (a0_0, a0_1, a0_2, a0_3, a0_4, a0_5, a0_6, a0_7, a0_8, a0_9, l0_10)) = some (r1, r2, r3, r4, r5, r6, r7, r8, r9, r10, r11) := h
  clear h
  simp only [Option.some.injEq, Prod.mk.injEq] at H
  obtain ⟨rfl, rfl, rfl, rfl, rfl, rfl, rfl, rfl, rfl, rfl, rfl⟩ := H
  go_enter Try.func16, Try.ntmps16
  go_wp2_with (first | ((with_reducible refine gate_dst (N := 1) rfl ?_); refine box_event ?hg (N := 1) ?hd (cs := #[.int .i64 a0_0, .int .i64 a0_1, .int .i64 a0_2, .int .u8 a0_3, .int .i64 a0_4, .int .u16 a0_5, .int .u8 a0_6, .int .u8 a0_7, .int .u8 a0_8, .int .u8 a0_9, .slice A0_10 l0_10.length c0_10]) (t := 41) ?hr ?_; (case hd => rfl); (case hg => rfl); (case hr => first | (go_simp; done) | (go_simp; rfl)); intro gb296 hg w2 hbox hb; have n0_ := Aside0.mk (Kd.V_below (Kd.V_elderB (by (with_reducible repeat (first | apply Kd.V_alloc | apply Kd.V_drewN | apply Kd.V_drew)); exact HO0_10.out) gb296 (Nat.le_of_eq hg.symm)) hb); have n1_ := Aside0.mk (below_step (by repeat (first | (with_reducible first | exact HB.out | apply below_alloc | apply pw_below_drewN | apply below_drew1) | exact HB.out)) hb); have n2_ := Aside0.mk (hbox); have n3_ := Aside0.mk ((by rw [hg]; exact (below_size (by repeat (first | (with_reducible first | exact HB.out | apply below_alloc | apply pw_below_drewN | apply below_drew1) | exact HB.out))) : w.heap.size ≤ gb296)); have n4_ := Aside0.mk ((by rw [hg]; exact (below_size (by repeat (first | (with_reducible first | exact HB.out | apply below_alloc | apply pw_below_drewN | apply below_drew1) | exact HB.out))) : w.heap.size ≤ gb296)); clear HO0_10; clear HB; have HO0_10 := n0_; have HB := n1_; have BK296 := n2_; have GW296 := n3_; have GE296 := n4_; clear n0_ n1_ n2_ n3_ n4_; clear hb hbox hg) | ((with_reducible refine gate_dst (N := 2) rfl ?_); refine box_event ?hg (N := 2) ?hd (cs := #[.int .i64 0, .int .i64 0, .int .i64 0, .int .u8 0, .int .i64 0, .int .u16 0, .int .u8 0, .int .u8 0, .int .u8 0, .int .u8 0, .slice none 0 0]) (t := 44) ?hr ?_; (case hd => rfl); (case hg => rfl); (case hr => first | (go_simp; done) | (go_simp; rfl)); intro gb297 hg w3 hbox hb; have n0_ := Aside0.mk (Kd.V_below (Kd.V_elderB (by (with_reducible repeat (first | apply Kd.V_alloc | apply Kd.V_drewN | apply Kd.V_drew)); exact HO0_10.out) gb297 (Nat.le_of_eq hg.symm)) hb); have n1_ := Aside0.mk (blk_below (g := gb296) (o := .cells #[.int .i64 a0_0, .int .i64 a0_1, .int .i64 a0_2, .int .u8 a0_3, .int .i64 a0_4, .int .u16 a0_5, .int .u8 a0_6, .int .u8 a0_7, .int .u8 a0_8, .int .u8 a0_9, .slice A0_10 l0_10.length c0_10] 41 (0, 0)) (by (with_reducible repeat (first | refine blk_drewN ?_ _ | refine blk_drew ?_ | refine blk_alloc ?_ _)); exact BK296.out) hb); have n2_ := Aside0.mk (below_step (by repeat (first | (with_reducible first | exact HB.out | apply below_alloc | apply pw_below_drewN | apply below_drew1 | refine below_set ?_ GE296.out) | exact HB.out)) hb); have n3_ := Aside0.mk (hbox); have n4_ := Aside0.mk ((by rw [hg]; exact (below_size (by repeat (first | (with_reducible first | exact HB.out | apply below_alloc | apply pw_below_drewN | apply below_drew1 | refine below_set ?_ GE296.out) | exact HB.out))) : w.heap.size ≤ gb297)); have n5_ := Aside0.mk ((by rw [hg]; exact (below_size (by repeat (first | (with_reducible first | exact HB.out | apply below_alloc | apply pw_below_drewN | apply below_drew1 | refine below_set ?_ GE296.out) | exact HB.out))) : w.heap.size ≤ gb297)); have n6_ := Aside0.mk ((by rw [hg]; exact Nat.ne_of_lt (blk_lt (g := gb296) (o := .cells #[.int .i64 a0_0, .int .i64 a0_1, .int .i64 a0_2, .int .u8 a0_3, .int .i64 a0_4, .int .u16 a0_5, .int .u8 a0_6, .int .u8 a0_7, .int .u8 a0_8, .int .u8 a0_9, .slice A0_10 l0_10.length c0_10] 41 (0, 0)) (by (with_reducible repeat (first | refine blk_drewN ?_ _ | refine blk_drew ?_ | refine blk_alloc ?_ _)); exact BK296.out)) : gb296 ≠ gb297)); have n7_ := Aside0.mk ((by rw [hg]; exact Nat.ne_of_gt (blk_lt (g := gb296) (o := .cells #[.int .i64 a0_0, .int .i64 a0_1, .int .i64 a0_2, .int .u8 a0_3, .int .i64 a0_4, .int .u16 a0_5, .int .u8 a0_6, .int .u8 a0_7, .int .u8 a0_8, .int .u8 a0_9, .slice A0_10 l0_10.length c0_10] 41 (0, 0)) (by (with_reducible repeat (first | refine blk_drewN ?_ _ | refine blk_drew ?_ | refine blk_alloc ?_ _)); exact BK296.out)) : gb297 ≠ gb296)); clear HO0_10; clear BK296; clear HB; have HO0_10 := n0_; have BK296 := n1_; have HB := n2_; have BK297 := n3_; have GW297 := n4_; have GE297 := n5_; have NB296_297 := n6_; have NB297_296 := n7_; clear n0_ n1_ n2_ n3_ n4_ n5_ n6_ n7_; clear hb hbox hg; have hnb4 := NB296_297.out; have hnc4 := NB297_296.out; have hcz5_0 : w3.cell? ⟨gb296, 0, none⟩ = some (.int .i64 a0_0) := (blk_cell BK296.out 0).trans rfl; have hcz5_1 : w3.cell? ⟨gb296, 1, none⟩ = some (.int .i64 a0_1) := (blk_cell BK296.out 1).trans rfl; have hcz5_2 : w3.cell? ⟨gb296, 2, none⟩ = some (.int .i64 a0_2) := (blk_cell BK296.out 2).trans rfl; have hcz5_3 : w3.cell? ⟨gb296, 3, none⟩ = some (.int .u8 a0_3) := (blk_cell BK296.out 3).trans rfl; have hcz5_4 : w3.cell? ⟨gb296, 4, none⟩ = some (.int .i64 a0_4) := (blk_cell BK296.out 4).trans rfl; have hcz5_5 : w3.cell? ⟨gb296, 5, none⟩ = some (.int .u16 a0_5) := (blk_cell BK296.out 5).trans rfl; have hcz5_6 : w3.cell? ⟨gb296, 6, none⟩ = some (.int .u8 a0_6) := (blk_cell BK296.out 6).trans rfl; have hcz5_7 : w3.cell? ⟨gb296, 7, none⟩ = some (.int .u8 a0_7) := (blk_cell BK296.out 7).trans rfl; have hcz5_8 : w3.cell? ⟨gb296, 8, none⟩ = some (.int .u8 a0_8) := (blk_cell BK296.out 8).trans rfl; have hcz5_9 : w3.cell? ⟨gb296, 9, none⟩ = some (.int .u8 a0_9) := (blk_cell BK296.out 9).trans rfl; have hcz5_10 : w3.cell? ⟨gb296, 10, none⟩ = some (.slice A0_10 l0_10.length c0_10) := (blk_cell BK296.out 10).trans rfl; have hfz5_0 := blk_frozen BK296.out 0; have hfz5_1 := blk_frozen BK296.out 1; have hfz5_2 := blk_frozen BK296.out 2; have hfz5_3 := blk_frozen BK296.out 3; have hfz5_4 := blk_frozen BK296.out 4; have hfz5_5 := blk_frozen BK296.out 5; have hfz5_6 := blk_frozen BK296.out 6; have hfz5_7 := blk_frozen BK296.out 7; have hfz5_8 := blk_frozen BK296.out 8; have hfz5_9 := blk_frozen BK296.out 9; have hfz5_10 := blk_frozen BK296.out 10; have hcz6_0 : w3.cell? ⟨gb297, 0, none⟩ = some (.int .i64 0) := (blk_cell BK297.out 0).trans rfl; have hcz6_1 : w3.cell? ⟨gb297, 1, none⟩ = some (.int .i64 0) := (blk_cell BK297.out 1).trans rfl; have hcz6_2 : w3.cell? ⟨gb297, 2, none⟩ = some (.int .i64 0) := (blk_cell BK297.out 2).trans rfl; have hcz6_3 : w3.cell? ⟨gb297, 3, none⟩ = some (.int .u8 0) := (blk_cell BK297.out 3).trans rfl; have hcz6_4 : w3.cell? ⟨gb297, 4, none⟩ = some (.int .i64 0) := (blk_cell BK297.out 4).trans rfl; have hcz6_5 : w3.cell? ⟨gb297, 5, none⟩ = some (.int .u16 0) := (blk_cell BK297.out 5).trans rfl; have hcz6_6 : w3.cell? ⟨gb297, 6, none⟩ = some (.int .u8 0) := (blk_cell BK297.out 6).trans rfl; have hcz6_7 : w3.cell? ⟨gb297, 7, none⟩ = some (.int .u8 0) := (blk_cell BK297.out 7).trans rfl; have hcz6_8 : w3.cell? ⟨gb297, 8, none⟩ = some (.int .u8 0) := (blk_cell BK297.out 8).trans rfl; have hcz6_9 : w3.cell? ⟨gb297, 9, none⟩ = some (.int .u8 0) := (blk_cell BK297.out 9).trans rfl; have hcz6_10 : w3.cell? ⟨gb297, 10, none⟩ = some (.slice none 0 0) := (blk_cell BK297.out 10).trans rfl; have hfz6_0 := blk_frozen BK297.out 0; have hfz6_1 := blk_frozen BK297.out 1; have hfz6_2 := blk_frozen BK297.out 2; have hfz6_3 := blk_frozen BK297.out 3; have hfz6_4 := blk_frozen BK297.out 4; have hfz6_5 := blk_frozen BK297.out 5; have hfz6_6 := blk_frozen BK297.out 6; have hfz6_7 := blk_frozen BK297.out 7; have hfz6_8 := blk_frozen BK297.out 8; have hfz6_9 := blk_frozen BK297.out 9; have hfz6_10 := blk_frozen BK297.out 10))
  refine bodyPost_ret (results_cell_row rfl _ _ gb297 44 #[.int .i64 a0_0, .int .i64 a0_1, .int .i64 a0_2, .int .u8 a0_3, .int .i64 a0_4, .int .u16 a0_5, .int .u8 a0_6, .int .u8 a0_7, .int .u8 a0_8, .int .u8 a0_9, .slice A0_10 l0_10.length c0_10] (0, 0) _ rfl (by (with_reducible repeat (first | refine blk_drewN ?_ _ | refine blk_drew ?_ | refine blk_alloc ?_ _)); refine blk_put (cs := #[.int .i64 a0_0, .int .i64 a0_1, .int .i64 a0_2, .int .u8 a0_3, .int .i64 a0_4, .int .u16 a0_5, .int .u8 a0_6, .int .u8 a0_7, .int .u8 a0_8, .int .u8 a0_9, .slice none 0 0]) ?_ 10 _ rfl; (with_reducible repeat (first | refine blk_drewN ?_ _ | refine blk_drew ?_ | refine blk_alloc ?_ _)); refine blk_put (cs := #[.int .i64 a0_0, .int .i64 a0_1, .int .i64 a0_2, .int .u8 a0_3, .int .i64 a0_4, .int .u16 a0_5, .int .u8 a0_6, .int .u8 a0_7, .int .u8 a0_8, .int .u8 0, .slice none 0 0]) ?_ 9 _ rfl; (with_reducible repeat (first | refine blk_drewN ?_ _ | refine blk_drew ?_ | refine blk_alloc ?_ _)); refine blk_put (cs := #[.int .i64 a0_0, .int .i64 a0_1, .int .i64 a0_2, .int .u8 a0_3, .int .i64 a0_4, .int .u16 a0_5, .int .u8 a0_6, .int .u8 a0_7, .int .u8 0, .int .u8 0, .slice none 0 0]) ?_ 8 _ rfl; (with_reducible repeat (first | refine blk_drewN ?_ _ | refine blk_drew ?_ | refine blk_alloc ?_ _)); refine blk_put (cs := #[.int .i64 a0_0, .int .i64 a0_1, .int .i64 a0_2, .int .u8 a0_3, .int .i64 a0_4, .int .u16 a0_5, .int .u8 a0_6, .int .u8 0, .int .u8 0, .int .u8 0, .slice none 0 0]) ?_ 7 _ rfl; (with_reducible repeat (first | refine blk_drewN ?_ _ | refine blk_drew ?_ | refine blk_alloc ?_ _)); refine blk_put (cs := #[.int .i64 a0_0, .int .i64 a0_1, .int .i64 a0_2, .int .u8 a0_3, .int .i64 a0_4, .int .u16 a0_5, .int .u8 0, .int .u8 0, .int .u8 0, .int .u8 0, .slice none 0 0]) ?_ 6 _ rfl; (with_reducible repeat (first | refine blk_drewN ?_ _ | refine blk_drew ?_ | refine blk_alloc ?_ _)); refine blk_put (cs := #[.int .i64 a0_0, .int .i64 a0_1, .int .i64 a0_2, .int .u8 a0_3, .int .i64 a0_4, .int .u16 0, .int .u8 0, .int .u8 0, .int .u8 0, .int .u8 0, .slice none 0 0]) ?_ 5 _ rfl; (with_reducible repeat (first | refine blk_drewN ?_ _ | refine blk_drew ?_ | refine blk_alloc ?_ _)); refine blk_put (cs := #[.int .i64 a0_0, .int .i64 a0_1, .int .i64 a0_2, .int .u8 a0_3, .int .i64 0, .int .u16 0, .int .u8 0, .int .u8 0, .int .u8 0, .int .u8 0, .slice none 0 0]) ?_ 4 _ rfl; (with_reducible repeat (first | refine blk_drewN ?_ _ | refine blk_drew ?_ | refine blk_alloc ?_ _)); refine blk_put (cs := #[.int .i64 a0_0, .int .i64 a0_1, .int .i64 a0_2, .int .u8 0, .int .i64 0, .int .u16 0, .int .u8 0, .int .u8 0, .int .u8 0, .int .u8 0, .slice none 0 0]) ?_ 3 _ rfl; (with_reducible repeat (first | refine blk_drewN ?_ _ | refine blk_drew ?_ | refine blk_alloc ?_ _)); refine blk_put (cs := #[.int .i64 a0_0, .int .i64 a0_1, .int .i64 0, .int .u8 0, .int .i64 0, .int .u16 0, .int .u8 0, .int .u8 0, .int .u8 0, .int .u8 0, .slice none 0 0]) ?_ 2 _ rfl; (with_reducible repeat (first | refine blk_drewN ?_ _ | refine blk_drew ?_ | refine blk_alloc ?_ _)); refine blk_put (cs := #[.int .i64 a0_0, .int .i64 0, .int .i64 0, .int .u8 0, .int .i64 0, .int .u16 0, .int .u8 0, .int .u8 0, .int .u8 0, .int .u8 0, .slice none 0 0]) ?_ 1 _ rfl; (with_reducible repeat (first | refine blk_drewN ?_ _ | refine blk_drew ?_ | refine blk_alloc ?_ _)); refine blk_put (cs := #[.int .i64 0, .int .i64 0, .int .i64 0, .int .u8 0, .int .i64 0, .int .u16 0, .int .u8 0, .int .u8 0, .int .u8 0, .int .u8 0, .slice none 0 0]) ?_ 0 _ rfl; (with_reducible repeat (first | refine blk_drewN ?_ _ | refine blk_drew ?_ | refine blk_alloc ?_ _)); exact BK297.out) Try.underlying44 rfl (by kernel_rfl)) rfl ?_
  exact ⟨_, by first | rfl | (simp [errW_none, errW_some] <;> rfl) | (simp [*, errW_none, errW_some] <;> rfl), by (with_reducible repeat (first | apply Kd.V_alloc | apply Kd.V_drewN | apply Kd.V_drew)); exact Kd.V_mono (Kd.V_far (p := ⟨gb297, 10, none⟩) (Kd.V_far (p := ⟨gb297, 9, none⟩) (Kd.V_far (p := ⟨gb297, 8, none⟩) (Kd.V_far (p := ⟨gb297, 7, none⟩) (Kd.V_far (p := ⟨gb297, 6, none⟩) (Kd.V_far (p := ⟨gb297, 5, none⟩) (Kd.V_far (p := ⟨gb297, 4, none⟩) (Kd.V_far (p := ⟨gb297, 3, none⟩) (Kd.V_far (p := ⟨gb297, 2, none⟩) (Kd.V_far (p := ⟨gb297, 1, none⟩) (Kd.V_far (p := ⟨gb297, 0, none⟩) (Kd.V_mono HO0_10.out (fun k_ hk => (⟨hk, hk.2⟩ : _ ∧ k_ ≠ gb297))) (fun _ hk => hk.2) (.int .i64 a0_0)) (fun _ hk => hk.2) (.int .i64 a0_1)) (fun _ hk => hk.2) (.int .i64 a0_2)) (fun _ hk => hk.2) (.int .u8 a0_3)) (fun _ hk => hk.2) (.int .i64 a0_4)) (fun _ hk => hk.2) (.int .u16 a0_5)) (fun _ hk => hk.2) (.int .u8 a0_6)) (fun _ hk => hk.2) (.int .u8 a0_7)) (fun _ hk => hk.2) (.int .u8 a0_8)) (fun _ hk => hk.2) (.int .u8 a0_9)) (fun _ hk => hk.2) (.slice A0_10 l0_10.length c0_10)) (fun _ hk => hk.1.1.1), by repeat (first | (with_reducible first | exact HB.out | apply below_alloc | apply pw_below_drewN | apply below_drew1 | refine below_set ?_ GE296.out | refine below_set ?_ GE297.out) | exact HB.out)⟩

end Go.Proofs.Ytgjckdkpkgmbkaa.P

-- Written by xprint.py (a program of this session's, over the kit's printer) out of the translation. Not trusted: Lean checks it.
namespace Go.Proofs.Ytgjckdkpkgmbkaa.P
open Go.RowKit Go.Proofs.YtgjckdkpkgmbkaaW.PrintWords Go.Proofs.YtgjckdkpkgmbkaaW.PrintLast Go.Proofs.YtgjckdkpkgmbkaaW.PrintMore Go.Proofs.Ytgjckdkpkgmbkaa.Hand
attribute [local go_sem] max2_int min2_int max_two min_two max_three min_three max_four min_four   -- for this text's walks alone
set_option linter.unusedVariables false
set_option linter.unusedSimpArgs false

/-! ### thwartlaw33_all: function 7 -/
def thwartlaw33_all.l0 : Nat → List (S44) → List (S41) → Int → Int → Option ((List (S44)))
  | 0, _, _, _, _ => none
  | k + 1, x3, x6, x7, x8 => if x8 < x7 then (if 0 ≤ x8 then (if x8 < (x6.length : Int) then ((thwartlaw33_theirs.f ((rd_T41 x6 x8).f0) ((rd_T41 x6 x8).f1) ((rd_T41 x6 x8).f2) ((rd_T41 x6 x8).f3) ((rd_T41 x6 x8).f4.f0) ((rd_T41 x6 x8).f4.f1) ((rd_T41 x6 x8).f4.f2.f0) ((rd_T41 x6 x8).f4.f2.f1) ((rd_T41 x6 x8).f4.f2.f2) ((rd_T41 x6 x8).f4.f2.f3) ((rd_T41 x6 x8).f5)).bind fun bt300 => (if x3.length < 1954687338268 then (thwartlaw33_all.l0 k (x3 ++ [(⟨bt300.1, bt300.2.1, bt300.2.2.1, bt300.2.2.2.1, (⟨bt300.2.2.2.2.1, bt300.2.2.2.2.2.1, (⟨bt300.2.2.2.2.2.2.1, bt300.2.2.2.2.2.2.2.1, bt300.2.2.2.2.2.2.2.2.1, bt300.2.2.2.2.2.2.2.2.2.1⟩ : S37)⟩ : S42), bt300.2.2.2.2.2.2.2.2.2.2⟩ : S44)]) x6 x7 (wrap64 (x8 + 1))) else (none))) else (none)) else (none)) else (some x3)
def thwartlaw33_all.f (k : Nat) (l0 : List (S41)) : Option ((List (S44))) := thwartlaw33_all.l0 k ([] : List (S44)) l0 (l0.length : Int) 0
theorem thwartlaw33_all.mono_l : ∀ k, (∀ y0 y1 y2 y3, LeO (thwartlaw33_all.l0 k y0 y1 y2 y3) (thwartlaw33_all.l0 (k + 1) y0 y1 y2 y3))
  | 0 => fun _ _ _ _ r h => by simp [thwartlaw33_all.l0] at h
  | k + 1 => by
    have ih0 := thwartlaw33_all.mono_l k
    · intro y0 y1 y2 y3
      unfold thwartlaw33_all.l0
      repeat' first
      | (with_reducible exact ih0 _ _ _ _)
      | (with_reducible exact LeO.refl _)
      | (with_reducible exact LeO.none _)
      | (with_reducible refine LeO.ite ?_ ?_)
      | (with_reducible refine LeO.bind ?_ (fun _ => ?_))
      | exact ih0 _ _ _ _
      | exact LeO.none _
      | refine LeO.ite ?_ ?_
      | refine LeO.bind ?_ (fun _ => ?_)
theorem thwartlaw33_all.mono : ∀ a0 k, LeO (thwartlaw33_all.f k a0) (thwartlaw33_all.f (k + 1) a0) := by
  intro a0 k
  have ih0 := thwartlaw33_all.mono_l k
  unfold thwartlaw33_all.f
  repeat' first
      | (with_reducible exact ih0 _ _ _ _)
      | (with_reducible exact LeO.refl _)
      | (with_reducible exact LeO.none _)
      | (with_reducible refine LeO.ite ?_ ?_)
      | (with_reducible refine LeO.bind ?_ (fun _ => ?_))
      | exact ih0 _ _ _ _
      | exact LeO.none _
      | refine LeO.ite ?_ ?_
      | refine LeO.bind ?_ (fun _ => ?_)
set_option maxHeartbeats 8000000 in
set_option maxRecDepth 100000 in
theorem thwartlaw33_all.calls (k : Nat) (P0_ : Nat → Prop) (A0 : Option Addr) (c0 : Nat) (l0 : List (S41)) (r : List (S44)) (w : World) (hs0 : Kd.V k41 41 w w.heap.size (fun k_ => P0_ k_) (.slice A0 l0.length c0) l0) (h : thwartlaw33_all.f k l0 = some r) :
    Calls Try.prog 7 #[.slice A0 l0.length c0] w fun e w' => ∃ v0_ : Value, e = .returned (v0_) ∧ Kd.N k44 44 w' w.heap.size (fun k_ => (P0_ k_ ∨ w.heap.size ≤ k_)) v0_ r ∧ Below w.heap.size w w' := by
  have hu41 := Try.underlying41
  have HO0 := Aside0.mk (show Kd.V k41 41 w w.heap.size (fun k_ => (P0_ k_ ∨ w.heap.size ≤ k_)) (.slice A0 l0.length c0) l0 from Kd.V_mono hs0 (fun k_ hk => .inl hk))
  have HB := Aside0.mk (Below.refl w.heap.size w)
  have H : (thwartlaw33_all.l0 k ([] : List (S44)) l0 (l0.length : Int) 0) = some r := h
  clear h
  have H' := Aside0.mk H
  clear H
  go_enter Try.func7, Try.ntmps7
  go_wp2
  go_loopg [3, 8] k (fun kq v3 v8 w' => ∃ (x3_1 : List (S44)) (x8_1 : Int), v8 = .int .i64 x8_1 ∧ Aside0 (thwartlaw33_all.l0 kq x3_1 l0 (l0.length : Int) x8_1 = some r) ∧ Aside0 (kq ≤ k) ∧ Aside0 (Kd.N k44 44 w' w.heap.size (fun k_ => (P0_ k_ ∨ w.heap.size ≤ k_)) v3 x3_1) ∧ Aside0 (Kd.V k41 41 w' w.heap.size (fun k_ => (P0_ k_ ∨ w.heap.size ≤ k_) ∧ some k_ ≠ (v3 : Value).ownBlock) (.slice A0 l0.length c0) l0) ∧ Aside0 (Below w.heap.size w w'))
  case atStart => exact ⟨(([] : List (S44))), (0), (by first | rfl | (simp; done) | (simp [*]; done)), H', ⟨Nat.le_refl _⟩, ⟨by first | exact Kd.S_nil _ _ _ _ _ | exact Kd.N_nil _ _ _ _ _ | exact Kd.V_nil _ _ _ _ _ | exact Kd.Q_nil _ _ _ _ _ | exact Kd.R_nil _ _ _ _ _⟩, ⟨by (with_reducible repeat (first | apply Kd.V_alloc | apply Kd.V_drewN | apply Kd.V_drew)); exact Kd.V_mono HO0.out (fun _ hk => ⟨hk, (by simp [Value.ownBlock])⟩)⟩, ⟨by repeat (first | (with_reducible first | exact HB.out | apply below_alloc | apply pw_below_drewN | apply below_drew1) | exact HB.out)⟩⟩
  case round =>
    clear H'
    obtain ⟨x3_1, x8_1, rfl, HA, HK1, HO_3, HO_6, HB⟩ := hrel
    cases gk with
    | zero => exact absurd HA.out (by simp [thwartlaw33_all.l0])
    | succ k1 =>
      have H := HA.out
      clear HA
      simp only [thwartlaw33_all.l0] at H
      by_cases c2 : x8_1 < (l0.length : Int)
      · rw [if_pos c2] at H
        have c2b0 : decide (x8_1 < (l0.length : Int)) = true := decide_eq_true c2
        clear c2
        by_cases c3 : 0 ≤ x8_1
        · rw [if_pos c3] at H
          have c3b0 : decide (0 ≤ x8_1) = true := decide_eq_true c3
          clear c3
          by_cases c4 : x8_1 < (l0.length : Int)
          · rw [if_pos c4] at H
            have c4b0 : decide (x8_1 < (l0.length : Int)) = true := decide_eq_true c4
            clear c4
            replace H := Option.bind_eq_some_iff.mp H
            obtain ⟨⟨t300, t301, t302, t303, t304, t305, t306, t307, t308, t309, t310⟩, A50, H⟩ := H
            replace H : (if x3_1.length < 1954687338268 then (thwartlaw33_all.l0 k1 (x3_1 ++ [(⟨t300, t301, t302, t303, (⟨t304, t305, (⟨t306, t307, t308, t309⟩ : S37)⟩ : S42), t310⟩ : S44)]) l0 (l0.length : Int) (wrap64 (x8_1 + 1))) else (none)) = some r := H
            have A5 := Aside0.mk A50
            clear A50
            by_cases c6 : x3_1.length < 1954687338268
            · rw [if_pos c6] at H
              have LMc6 := Aside0.mk c6
              clear c6
              obtain ⟨y313, hy313⟩ : ∃ y_ : List (S44), y_ = (x3_1 ++ [(⟨t300, t301, t302, t303, (⟨t304, t305, (⟨t306, t307, t308, t309⟩ : S37)⟩ : S42), t310⟩ : S44)]) := ⟨_, rfl⟩
              replace H : (thwartlaw33_all.l0 k1 y313 l0 (l0.length : Int) (wrap64 (x8_1 + 1))) = some r := by first | (rw [hy313]; with_reducible exact H) | (have H2_ := (Option.bind_some _ _).symm.trans H; rw [hy313]; with_reducible exact H2_) | (have H2_ := (Option.bind_some _ _).symm.trans H; with_reducible exact H2_) | with_reducible exact H | (rw [hy313]; exact H) | exact H
              have Ny313 := Aside0.mk hy313
              clear hy313
              have H' := Aside0.mk H
              clear H
              have p298 : 0 ≤ (x8_1 : Int) := of_decide_eq_true (by first | (with_reducible assumption) | assumption)
              have q298 : x8_1 < (l0.length : Int) := of_decide_eq_true (by first | (with_reducible assumption) | assumption)
              obtain ⟨ad298, A298_10, c298_10, e298, hx298_0, hx298_1, hx298_2, hx298_3, hx298_4, hx298_5, hx298_6, hx298_7, hx298_8, hx298_9, hx298_10, hl298_10, hi298_10⟩ := at_T41 (Kd.V_reads' HO_6.out).2.2 x8_1 p298 q298
              cases e298
              obtain ⟨ce298, hce298, hMe298, hcc298⟩ := Kd.V_get HO_6.out z41 x8_1 p298 (by first | exact q298 | exact of_decide_eq_true (by first | (with_reducible assumption) | assumption) | (have e_ := (Kd.V_reads' HO_6.out).1; omega))
              obtain ⟨ua298_10, uc298_10, rfl, ul298_10, ge298_10⟩ := k41_openF hMe298
              have hv298_10 := hcc298 10 _ rfl
              rw [add_field _ _ 10 (by omega)] at hv298_10
              replace hv298_10 := Option.some.inj (hv298_10.symm.trans hx298_10)
              injection hv298_10 with hva_ hvn_ hvc_
              rw [hva_] at ge298_10
              rw [hvc_] at ul298_10
              have HL298_10 := Aside0.mk (show Kd.V (Kd.int .u8) 5 _ w.heap.size _ _ ((rd_T41 l0 x8_1).f5) from Kd.V_mk ul298_10 ge298_10)
              clear hva_ hvn_ hvc_ ge298_10 ul298_10
              clear hcc298 hce298
              have HR298_10 := Aside0.mk hi298_10
              have HC298_10 := Aside0.mk hl298_10
              clear hi298_10 hl298_10
              replace p298 := eq_true p298
              replace q298 := eq_true q298
              go_wp2_with (first | ((with_reducible refine gate_dst (N := 5) rfl ?_); refine box_event ?hg (N := 5) ?hd (cs := #[.int .i64 0, .int .i64 0, .int .i64 0, .int .u8 0, .int .i64 0, .int .u16 0, .int .u8 0, .int .u8 0, .int .u8 0, .int .u8 0, .slice none 0 0]) (t := 41) ?hr ?_; (case hd => rfl); (case hg => rfl); (case hr => first | (go_simp; done) | (go_simp; rfl)); intro gb299 hg w7 hbox hb; have n0_ := Aside0.mk (Kd.N_below (Kd.N_elderB (by (with_reducible repeat (first | apply Kd.N_alloc | apply Kd.N_drewN | apply Kd.N_drew)); exact HO_3.out) gb299 (Nat.le_of_eq hg.symm)) hb); have n1_ := Aside0.mk (Kd.V_below (Kd.V_elderB (by (with_reducible repeat (first | apply Kd.V_alloc | apply Kd.V_drewN | apply Kd.V_drew)); exact HO_6.out) gb299 (Nat.le_of_eq hg.symm)) hb); have n2_ := Aside0.mk (Kd.V_below (Kd.V_elderB (by (with_reducible repeat (first | apply Kd.V_alloc | apply Kd.V_drewN | apply Kd.V_drew)); exact HL298_10.out) gb299 (Nat.le_of_eq hg.symm)) hb); have n3_ := Aside0.mk (Kd.C_below (by repeat (first | (with_reducible exact HR298_10.out) | (with_reducible refine Kd.C_alloc ?_ _) | (with_reducible refine Kd.C_drewN ?_ _) | (with_reducible refine Kd.C_drew ?_) | exact HR298_10.out)) hb); have n4_ := Aside0.mk (below_step (by repeat (first | (with_reducible first | exact HB.out | apply below_alloc | apply pw_below_drewN | apply below_drew1) | exact HB.out)) hb); have n5_ := Aside0.mk (hbox); have n6_ := Aside0.mk ((by rw [hg]; exact (below_size (by repeat (first | (with_reducible first | exact HB.out | apply below_alloc | apply pw_below_drewN | apply below_drew1) | exact HB.out))) : w.heap.size ≤ gb299)); have n7_ := Aside0.mk ((by rw [hg]; exact (below_size (by repeat (first | (with_reducible first | exact HB.out | apply below_alloc | apply pw_below_drewN | apply below_drew1) | exact HB.out))) : w.heap.size ≤ gb299)); clear HO_3; clear HO_6; clear HL298_10; clear HR298_10; clear HB; have HO_3 := n0_; have HO_6 := n1_; have HL298_10 := n2_; have HR298_10 := n3_; have HB := n4_; have BK299 := n5_; have GW299 := n6_; have GE299 := n7_; clear n0_ n1_ n2_ n3_ n4_ n5_ n6_ n7_; clear hb hbox hg; have hcz8_0 : w7.cell? ⟨gb299, 0, none⟩ = some (.int .i64 0) := (blk_cell BK299.out 0).trans rfl; have hcz8_1 : w7.cell? ⟨gb299, 1, none⟩ = some (.int .i64 0) := (blk_cell BK299.out 1).trans rfl; have hcz8_2 : w7.cell? ⟨gb299, 2, none⟩ = some (.int .i64 0) := (blk_cell BK299.out 2).trans rfl; have hcz8_3 : w7.cell? ⟨gb299, 3, none⟩ = some (.int .u8 0) := (blk_cell BK299.out 3).trans rfl; have hcz8_4 : w7.cell? ⟨gb299, 4, none⟩ = some (.int .i64 0) := (blk_cell BK299.out 4).trans rfl; have hcz8_5 : w7.cell? ⟨gb299, 5, none⟩ = some (.int .u16 0) := (blk_cell BK299.out 5).trans rfl; have hcz8_6 : w7.cell? ⟨gb299, 6, none⟩ = some (.int .u8 0) := (blk_cell BK299.out 6).trans rfl; have hcz8_7 : w7.cell? ⟨gb299, 7, none⟩ = some (.int .u8 0) := (blk_cell BK299.out 7).trans rfl; have hcz8_8 : w7.cell? ⟨gb299, 8, none⟩ = some (.int .u8 0) := (blk_cell BK299.out 8).trans rfl; have hcz8_9 : w7.cell? ⟨gb299, 9, none⟩ = some (.int .u8 0) := (blk_cell BK299.out 9).trans rfl; have hcz8_10 : w7.cell? ⟨gb299, 10, none⟩ = some (.slice none 0 0) := (blk_cell BK299.out 10).trans rfl; have hfz8_0 := blk_frozen BK299.out 0; have hfz8_1 := blk_frozen BK299.out 1; have hfz8_2 := blk_frozen BK299.out 2; have hfz8_3 := blk_frozen BK299.out 3; have hfz8_4 := blk_frozen BK299.out 4; have hfz8_5 := blk_frozen BK299.out 5; have hfz8_6 := blk_frozen BK299.out 6; have hfz8_7 := blk_frozen BK299.out 7; have hfz8_8 := blk_frozen BK299.out 8; have hfz8_9 := blk_frozen BK299.out 9; have hfz8_10 := blk_frozen BK299.out 10) | ((with_reducible refine gate_store (t := 41) (p := 5) rfl ?_); refine store_event (t := 41) (p := 5) (v := ?vo_w9) (w1 := (((((((((((w7.setCell ⟨gb299, 0, none⟩ (.int .i64 ((rd_T41 l0 x8_1).f0))).setCell ⟨gb299, 1, none⟩ (.int .i64 ((rd_T41 l0 x8_1).f1))).setCell ⟨gb299, 2, none⟩ (.int .i64 ((rd_T41 l0 x8_1).f2))).setCell ⟨gb299, 3, none⟩ (.int .u8 ((rd_T41 l0 x8_1).f3))).setCell ⟨gb299, 4, none⟩ (.int .i64 ((rd_T41 l0 x8_1).f4.f0))).setCell ⟨gb299, 5, none⟩ (.int .u16 ((rd_T41 l0 x8_1).f4.f1))).setCell ⟨gb299, 6, none⟩ (.int .u8 ((rd_T41 l0 x8_1).f4.f2.f0))).setCell ⟨gb299, 7, none⟩ (.int .u8 ((rd_T41 l0 x8_1).f4.f2.f1))).setCell ⟨gb299, 8, none⟩ (.int .u8 ((rd_T41 l0 x8_1).f4.f2.f2))).setCell ⟨gb299, 9, none⟩ (.int .u8 ((rd_T41 l0 x8_1).f4.f2.f3))).setCell ⟨gb299, 10, none⟩ (.slice A298_10 ((rd_T41 l0 x8_1).f5).length c298_10))) ?hg ?ho ?hn ?hr ?_; (case ho => rfl); (case hg => rfl); (case hn => rfl); (case hr => first | (go_simp; done) | (go_simp; rfl)); intro w9 hw; have n0_ : Aside0 (Kd.N k44 44 w9 w.heap.size (fun k_ => (P0_ k_ ∨ w.heap.size ≤ k_) ∧ k_ ≠ gb299) u3 x3_1) := ⟨(by rw [hw]; exact (by (with_reducible repeat (first | apply Kd.N_alloc | apply Kd.N_drewN | apply Kd.N_drew)); exact Kd.N_mono (Kd.N_far (p := ⟨gb299, 10, none⟩) (Kd.N_far (p := ⟨gb299, 9, none⟩) (Kd.N_far (p := ⟨gb299, 8, none⟩) (Kd.N_far (p := ⟨gb299, 7, none⟩) (Kd.N_far (p := ⟨gb299, 6, none⟩) (Kd.N_far (p := ⟨gb299, 5, none⟩) (Kd.N_far (p := ⟨gb299, 4, none⟩) (Kd.N_far (p := ⟨gb299, 3, none⟩) (Kd.N_far (p := ⟨gb299, 2, none⟩) (Kd.N_far (p := ⟨gb299, 1, none⟩) (Kd.N_far (p := ⟨gb299, 0, none⟩) (Kd.N_mono HO_3.out (fun k_ hk => (⟨hk, hk.2⟩ : _ ∧ k_ ≠ gb299))) (fun _ hk => hk.2) (.int .i64 ((rd_T41 l0 x8_1).f0))) (fun _ hk => hk.2) (.int .i64 ((rd_T41 l0 x8_1).f1))) (fun _ hk => hk.2) (.int .i64 ((rd_T41 l0 x8_1).f2))) (fun _ hk => hk.2) (.int .u8 ((rd_T41 l0 x8_1).f3))) (fun _ hk => hk.2) (.int .i64 ((rd_T41 l0 x8_1).f4.f0))) (fun _ hk => hk.2) (.int .u16 ((rd_T41 l0 x8_1).f4.f1))) (fun _ hk => hk.2) (.int .u8 ((rd_T41 l0 x8_1).f4.f2.f0))) (fun _ hk => hk.2) (.int .u8 ((rd_T41 l0 x8_1).f4.f2.f1))) (fun _ hk => hk.2) (.int .u8 ((rd_T41 l0 x8_1).f4.f2.f2))) (fun _ hk => hk.2) (.int .u8 ((rd_T41 l0 x8_1).f4.f2.f3))) (fun _ hk => hk.2) (.slice A298_10 ((rd_T41 l0 x8_1).f5).length c298_10)) (fun _ hk => ⟨hk.1.1, hk.1.2⟩)))⟩; have n1_ : Aside0 (Kd.V k41 41 w9 w.heap.size (fun k_ => (P0_ k_ ∨ w.heap.size ≤ k_) ∧ some k_ ≠ (u3 : Value).ownBlock ∧ k_ ≠ gb299) (.slice (some ad298) l0.length c0) l0) := ⟨(by rw [hw]; exact (by (with_reducible repeat (first | apply Kd.V_alloc | apply Kd.V_drewN | apply Kd.V_drew)); exact Kd.V_mono (Kd.V_far (p := ⟨gb299, 10, none⟩) (Kd.V_far (p := ⟨gb299, 9, none⟩) (Kd.V_far (p := ⟨gb299, 8, none⟩) (Kd.V_far (p := ⟨gb299, 7, none⟩) (Kd.V_far (p := ⟨gb299, 6, none⟩) (Kd.V_far (p := ⟨gb299, 5, none⟩) (Kd.V_far (p := ⟨gb299, 4, none⟩) (Kd.V_far (p := ⟨gb299, 3, none⟩) (Kd.V_far (p := ⟨gb299, 2, none⟩) (Kd.V_far (p := ⟨gb299, 1, none⟩) (Kd.V_far (p := ⟨gb299, 0, none⟩) (Kd.V_mono HO_6.out (fun k_ hk => (⟨hk, hk.2⟩ : _ ∧ k_ ≠ gb299))) (fun _ hk => hk.2) (.int .i64 ((rd_T41 l0 x8_1).f0))) (fun _ hk => hk.2) (.int .i64 ((rd_T41 l0 x8_1).f1))) (fun _ hk => hk.2) (.int .i64 ((rd_T41 l0 x8_1).f2))) (fun _ hk => hk.2) (.int .u8 ((rd_T41 l0 x8_1).f3))) (fun _ hk => hk.2) (.int .i64 ((rd_T41 l0 x8_1).f4.f0))) (fun _ hk => hk.2) (.int .u16 ((rd_T41 l0 x8_1).f4.f1))) (fun _ hk => hk.2) (.int .u8 ((rd_T41 l0 x8_1).f4.f2.f0))) (fun _ hk => hk.2) (.int .u8 ((rd_T41 l0 x8_1).f4.f2.f1))) (fun _ hk => hk.2) (.int .u8 ((rd_T41 l0 x8_1).f4.f2.f2))) (fun _ hk => hk.2) (.int .u8 ((rd_T41 l0 x8_1).f4.f2.f3))) (fun _ hk => hk.2) (.slice A298_10 ((rd_T41 l0 x8_1).f5).length c298_10)) (fun _ hk => ⟨hk.1.1.1, ⟨hk.1.1.2, hk.1.2⟩⟩)))⟩; have n2_ : Aside0 (Kd.V (Kd.int .u8) 5 w9 w.heap.size (fun k_ => (P0_ k_ ∨ w.heap.size ≤ k_) ∧ some k_ ≠ (u3 : Value).ownBlock ∧ k_ ≠ gb299) (.slice A298_10 ((rd_T41 l0 x8_1).f5).length c298_10) ((rd_T41 l0 x8_1).f5)) := ⟨(by rw [hw]; exact (by (with_reducible repeat (first | apply Kd.V_alloc | apply Kd.V_drewN | apply Kd.V_drew)); exact Kd.V_mono (Kd.V_far (p := ⟨gb299, 10, none⟩) (Kd.V_far (p := ⟨gb299, 9, none⟩) (Kd.V_far (p := ⟨gb299, 8, none⟩) (Kd.V_far (p := ⟨gb299, 7, none⟩) (Kd.V_far (p := ⟨gb299, 6, none⟩) (Kd.V_far (p := ⟨gb299, 5, none⟩) (Kd.V_far (p := ⟨gb299, 4, none⟩) (Kd.V_far (p := ⟨gb299, 3, none⟩) (Kd.V_far (p := ⟨gb299, 2, none⟩) (Kd.V_far (p := ⟨gb299, 1, none⟩) (Kd.V_far (p := ⟨gb299, 0, none⟩) (Kd.V_mono HL298_10.out (fun k_ hk => (⟨hk, hk.2⟩ : _ ∧ k_ ≠ gb299))) (fun _ hk => hk.2) (.int .i64 ((rd_T41 l0 x8_1).f0))) (fun _ hk => hk.2) (.int .i64 ((rd_T41 l0 x8_1).f1))) (fun _ hk => hk.2) (.int .i64 ((rd_T41 l0 x8_1).f2))) (fun _ hk => hk.2) (.int .u8 ((rd_T41 l0 x8_1).f3))) (fun _ hk => hk.2) (.int .i64 ((rd_T41 l0 x8_1).f4.f0))) (fun _ hk => hk.2) (.int .u16 ((rd_T41 l0 x8_1).f4.f1))) (fun _ hk => hk.2) (.int .u8 ((rd_T41 l0 x8_1).f4.f2.f0))) (fun _ hk => hk.2) (.int .u8 ((rd_T41 l0 x8_1).f4.f2.f1))) (fun _ hk => hk.2) (.int .u8 ((rd_T41 l0 x8_1).f4.f2.f2))) (fun _ hk => hk.2) (.int .u8 ((rd_T41 l0 x8_1).f4.f2.f3))) (fun _ hk => hk.2) (.slice A298_10 ((rd_T41 l0 x8_1).f5).length c298_10)) (fun _ hk => ⟨hk.1.1.1, ⟨hk.1.1.2, hk.1.2⟩⟩)))⟩; have n3_ : Aside0 (w9.heap[gb299]? = some (.cells #[.int .i64 ((rd_T41 l0 x8_1).f0), .int .i64 ((rd_T41 l0 x8_1).f1), .int .i64 ((rd_T41 l0 x8_1).f2), .int .u8 ((rd_T41 l0 x8_1).f3), .int .i64 ((rd_T41 l0 x8_1).f4.f0), .int .u16 ((rd_T41 l0 x8_1).f4.f1), .int .u8 ((rd_T41 l0 x8_1).f4.f2.f0), .int .u8 ((rd_T41 l0 x8_1).f4.f2.f1), .int .u8 ((rd_T41 l0 x8_1).f4.f2.f2), .int .u8 ((rd_T41 l0 x8_1).f4.f2.f3), .slice A298_10 ((rd_T41 l0 x8_1).f5).length c298_10] 41 (0, 0))) := ⟨(by rw [hw]; exact (by (with_reducible repeat (first | refine blk_drewN ?_ _ | refine blk_drew ?_ | refine blk_alloc ?_ _)); refine blk_put (cs := #[.int .i64 ((rd_T41 l0 x8_1).f0), .int .i64 ((rd_T41 l0 x8_1).f1), .int .i64 ((rd_T41 l0 x8_1).f2), .int .u8 ((rd_T41 l0 x8_1).f3), .int .i64 ((rd_T41 l0 x8_1).f4.f0), .int .u16 ((rd_T41 l0 x8_1).f4.f1), .int .u8 ((rd_T41 l0 x8_1).f4.f2.f0), .int .u8 ((rd_T41 l0 x8_1).f4.f2.f1), .int .u8 ((rd_T41 l0 x8_1).f4.f2.f2), .int .u8 ((rd_T41 l0 x8_1).f4.f2.f3), .slice none 0 0]) ?_ 10 _ rfl; (with_reducible repeat (first | refine blk_drewN ?_ _ | refine blk_drew ?_ | refine blk_alloc ?_ _)); refine blk_put (cs := #[.int .i64 ((rd_T41 l0 x8_1).f0), .int .i64 ((rd_T41 l0 x8_1).f1), .int .i64 ((rd_T41 l0 x8_1).f2), .int .u8 ((rd_T41 l0 x8_1).f3), .int .i64 ((rd_T41 l0 x8_1).f4.f0), .int .u16 ((rd_T41 l0 x8_1).f4.f1), .int .u8 ((rd_T41 l0 x8_1).f4.f2.f0), .int .u8 ((rd_T41 l0 x8_1).f4.f2.f1), .int .u8 ((rd_T41 l0 x8_1).f4.f2.f2), .int .u8 0, .slice none 0 0]) ?_ 9 _ rfl; (with_reducible repeat (first | refine blk_drewN ?_ _ | refine blk_drew ?_ | refine blk_alloc ?_ _)); refine blk_put (cs := #[.int .i64 ((rd_T41 l0 x8_1).f0), .int .i64 ((rd_T41 l0 x8_1).f1), .int .i64 ((rd_T41 l0 x8_1).f2), .int .u8 ((rd_T41 l0 x8_1).f3), .int .i64 ((rd_T41 l0 x8_1).f4.f0), .int .u16 ((rd_T41 l0 x8_1).f4.f1), .int .u8 ((rd_T41 l0 x8_1).f4.f2.f0), .int .u8 ((rd_T41 l0 x8_1).f4.f2.f1), .int .u8 0, .int .u8 0, .slice none 0 0]) ?_ 8 _ rfl; (with_reducible repeat (first | refine blk_drewN ?_ _ | refine blk_drew ?_ | refine blk_alloc ?_ _)); refine blk_put (cs := #[.int .i64 ((rd_T41 l0 x8_1).f0), .int .i64 ((rd_T41 l0 x8_1).f1), .int .i64 ((rd_T41 l0 x8_1).f2), .int .u8 ((rd_T41 l0 x8_1).f3), .int .i64 ((rd_T41 l0 x8_1).f4.f0), .int .u16 ((rd_T41 l0 x8_1).f4.f1), .int .u8 ((rd_T41 l0 x8_1).f4.f2.f0), .int .u8 0, .int .u8 0, .int .u8 0, .slice none 0 0]) ?_ 7 _ rfl; (with_reducible repeat (first | refine blk_drewN ?_ _ | refine blk_drew ?_ | refine blk_alloc ?_ _)); refine blk_put (cs := #[.int .i64 ((rd_T41 l0 x8_1).f0), .int .i64 ((rd_T41 l0 x8_1).f1), .int .i64 ((rd_T41 l0 x8_1).f2), .int .u8 ((rd_T41 l0 x8_1).f3), .int .i64 ((rd_T41 l0 x8_1).f4.f0), .int .u16 ((rd_T41 l0 x8_1).f4.f1), .int .u8 0, .int .u8 0, .int .u8 0, .int .u8 0, .slice none 0 0]) ?_ 6 _ rfl; (with_reducible repeat (first | refine blk_drewN ?_ _ | refine blk_drew ?_ | refine blk_alloc ?_ _)); refine blk_put (cs := #[.int .i64 ((rd_T41 l0 x8_1).f0), .int .i64 ((rd_T41 l0 x8_1).f1), .int .i64 ((rd_T41 l0 x8_1).f2), .int .u8 ((rd_T41 l0 x8_1).f3), .int .i64 ((rd_T41 l0 x8_1).f4.f0), .int .u16 0, .int .u8 0, .int .u8 0, .int .u8 0, .int .u8 0, .slice none 0 0]) ?_ 5 _ rfl; (with_reducible repeat (first | refine blk_drewN ?_ _ | refine blk_drew ?_ | refine blk_alloc ?_ _)); refine blk_put (cs := #[.int .i64 ((rd_T41 l0 x8_1).f0), .int .i64 ((rd_T41 l0 x8_1).f1), .int .i64 ((rd_T41 l0 x8_1).f2), .int .u8 ((rd_T41 l0 x8_1).f3), .int .i64 0, .int .u16 0, .int .u8 0, .int .u8 0, .int .u8 0, .int .u8 0, .slice none 0 0]) ?_ 4 _ rfl; (with_reducible repeat (first | refine blk_drewN ?_ _ | refine blk_drew ?_ | refine blk_alloc ?_ _)); refine blk_put (cs := #[.int .i64 ((rd_T41 l0 x8_1).f0), .int .i64 ((rd_T41 l0 x8_1).f1), .int .i64 ((rd_T41 l0 x8_1).f2), .int .u8 0, .int .i64 0, .int .u16 0, .int .u8 0, .int .u8 0, .int .u8 0, .int .u8 0, .slice none 0 0]) ?_ 3 _ rfl; (with_reducible repeat (first | refine blk_drewN ?_ _ | refine blk_drew ?_ | refine blk_alloc ?_ _)); refine blk_put (cs := #[.int .i64 ((rd_T41 l0 x8_1).f0), .int .i64 ((rd_T41 l0 x8_1).f1), .int .i64 0, .int .u8 0, .int .i64 0, .int .u16 0, .int .u8 0, .int .u8 0, .int .u8 0, .int .u8 0, .slice none 0 0]) ?_ 2 _ rfl; (with_reducible repeat (first | refine blk_drewN ?_ _ | refine blk_drew ?_ | refine blk_alloc ?_ _)); refine blk_put (cs := #[.int .i64 ((rd_T41 l0 x8_1).f0), .int .i64 0, .int .i64 0, .int .u8 0, .int .i64 0, .int .u16 0, .int .u8 0, .int .u8 0, .int .u8 0, .int .u8 0, .slice none 0 0]) ?_ 1 _ rfl; (with_reducible repeat (first | refine blk_drewN ?_ _ | refine blk_drew ?_ | refine blk_alloc ?_ _)); refine blk_put (cs := #[.int .i64 0, .int .i64 0, .int .i64 0, .int .u8 0, .int .i64 0, .int .u16 0, .int .u8 0, .int .u8 0, .int .u8 0, .int .u8 0, .slice none 0 0]) ?_ 0 _ rfl; (with_reducible repeat (first | refine blk_drewN ?_ _ | refine blk_drew ?_ | refine blk_alloc ?_ _)); exact BK299.out))⟩; have n4_ : Aside0 (Below w.heap.size w w9) := ⟨(by rw [hw]; exact (by repeat (first | (with_reducible first | exact HB.out | apply below_alloc | apply pw_below_drewN | apply below_drew1 | refine below_set ?_ GE299.out) | exact HB.out)))⟩; clear hw; clear HO_3; clear HO_6; clear HL298_10; clear BK299; clear HB; have HO_3 := n0_; have HO_6 := n1_; have HL298_10 := n2_; have BK299 := n3_; have HB := n4_; clear n0_ n1_ n2_ n3_ n4_; have hcz10_0 : w9.cell? ⟨gb299, 0, none⟩ = some (.int .i64 ((rd_T41 l0 x8_1).f0)) := (blk_cell BK299.out 0).trans rfl; have hcz10_1 : w9.cell? ⟨gb299, 1, none⟩ = some (.int .i64 ((rd_T41 l0 x8_1).f1)) := (blk_cell BK299.out 1).trans rfl; have hcz10_2 : w9.cell? ⟨gb299, 2, none⟩ = some (.int .i64 ((rd_T41 l0 x8_1).f2)) := (blk_cell BK299.out 2).trans rfl; have hcz10_3 : w9.cell? ⟨gb299, 3, none⟩ = some (.int .u8 ((rd_T41 l0 x8_1).f3)) := (blk_cell BK299.out 3).trans rfl; have hcz10_4 : w9.cell? ⟨gb299, 4, none⟩ = some (.int .i64 ((rd_T41 l0 x8_1).f4.f0)) := (blk_cell BK299.out 4).trans rfl; have hcz10_5 : w9.cell? ⟨gb299, 5, none⟩ = some (.int .u16 ((rd_T41 l0 x8_1).f4.f1)) := (blk_cell BK299.out 5).trans rfl; have hcz10_6 : w9.cell? ⟨gb299, 6, none⟩ = some (.int .u8 ((rd_T41 l0 x8_1).f4.f2.f0)) := (blk_cell BK299.out 6).trans rfl; have hcz10_7 : w9.cell? ⟨gb299, 7, none⟩ = some (.int .u8 ((rd_T41 l0 x8_1).f4.f2.f1)) := (blk_cell BK299.out 7).trans rfl; have hcz10_8 : w9.cell? ⟨gb299, 8, none⟩ = some (.int .u8 ((rd_T41 l0 x8_1).f4.f2.f2)) := (blk_cell BK299.out 8).trans rfl; have hcz10_9 : w9.cell? ⟨gb299, 9, none⟩ = some (.int .u8 ((rd_T41 l0 x8_1).f4.f2.f3)) := (blk_cell BK299.out 9).trans rfl; have hcz10_10 : w9.cell? ⟨gb299, 10, none⟩ = some (.slice A298_10 ((rd_T41 l0 x8_1).f5).length c298_10) := (blk_cell BK299.out 10).trans rfl; have hfz10_0 := blk_frozen BK299.out 0; have hfz10_1 := blk_frozen BK299.out 1; have hfz10_2 := blk_frozen BK299.out 2; have hfz10_3 := blk_frozen BK299.out 3; have hfz10_4 := blk_frozen BK299.out 4; have hfz10_5 := blk_frozen BK299.out 5; have hfz10_6 := blk_frozen BK299.out 6; have hfz10_7 := blk_frozen BK299.out 7; have hfz10_8 := blk_frozen BK299.out 8; have hfz10_9 := blk_frozen BK299.out 9; have hfz10_10 := blk_frozen BK299.out 10) | ((with_reducible refine gate_callee (f := 16) rfl ?_); refine goesL_ (some 14) rfl rfl Try.func16 (by kernel_rfl) rfl #[.agg #[.int .i64 ((rd_T41 l0 x8_1).f0), .int .i64 ((rd_T41 l0 x8_1).f1), .int .i64 ((rd_T41 l0 x8_1).f2), .int .u8 ((rd_T41 l0 x8_1).f3), .int .i64 ((rd_T41 l0 x8_1).f4.f0), .int .u16 ((rd_T41 l0 x8_1).f4.f1), .int .u8 ((rd_T41 l0 x8_1).f4.f2.f0), .int .u8 ((rd_T41 l0 x8_1).f4.f2.f1), .int .u8 ((rd_T41 l0 x8_1).f4.f2.f2), .int .u8 ((rd_T41 l0 x8_1).f4.f2.f3), .slice A298_10 ((rd_T41 l0 x8_1).f5).length c298_10]] rfl (by (try simp only [List.map_toArray, List.map_cons, List.map_nil]); first | done | rfl | (simp only [List.length_drop, List.length_take]; rfl)) ?_; (with_reducible refine (thwartlaw33_theirs.calls ((rd_T41 l0 x8_1).f0) ((rd_T41 l0 x8_1).f1) ((rd_T41 l0 x8_1).f2) ((rd_T41 l0 x8_1).f3) ((rd_T41 l0 x8_1).f4.f0) ((rd_T41 l0 x8_1).f4.f1) ((rd_T41 l0 x8_1).f4.f2.f0) ((rd_T41 l0 x8_1).f4.f2.f1) ((rd_T41 l0 x8_1).f4.f2.f2) ((rd_T41 l0 x8_1).f4.f2.f3) (fun k_ => ((P0_ k_ ∨ w.heap.size ≤ k_) ∧ (some k_ ≠ (u3 : Value).ownBlock ∧ k_ ≠ gb299))) _ _ ((rd_T41 l0 x8_1).f5) t300 t301 t302 t303 t304 t305 t306 t307 t308 t309 t310 _ ?side1 A5.out).mono ?_); (case side1 => exact HL298_10.out); rintro e w11 ⟨v311, rfl, ho0, hb⟩; refine ⟨_, rfl, ?_⟩; have n0_ := Aside0.mk (Kd.N_below (by (with_reducible repeat (first | apply Kd.N_alloc | apply Kd.N_drewN | apply Kd.N_drew)); exact HO_3.out) hb); have n1_ := Aside0.mk (Kd.V_below (by (with_reducible repeat (first | apply Kd.V_alloc | apply Kd.V_drewN | apply Kd.V_drew)); exact HO_6.out) hb); have n2_ := Aside0.mk (Kd.V_below (by (with_reducible repeat (first | apply Kd.V_alloc | apply Kd.V_drewN | apply Kd.V_drew)); exact HL298_10.out) hb); have n3_ := Aside0.mk (Kd.V_lower (Kd.V_mono (ok' := fun k_ => (P0_ k_ ∨ w.heap.size ≤ k_) ∧ some k_ ≠ (u3 : Value).ownBlock ∧ k_ ≠ gb299) ho0 (fun k_ hk_ => ⟨Or.elim hk_ (fun hs_ => hs_.1) (fun hn_ => (.inr (Nat.le_trans (below_size (by repeat (first | (with_reducible first | exact HB.out | apply below_alloc | apply pw_below_drewN | apply below_drew1 | refine below_set ?_ GE299.out) | exact HB.out))) hn_))), Or.elim hk_ (fun hs_ => hs_.2.1) (fun hn_ => (Kd.fresh' (Kd.N_lt (by (with_reducible repeat (first | apply Kd.N_alloc | apply Kd.N_drewN | apply Kd.N_drew)); exact HO_3.out)) k_ hn_)), Or.elim hk_ (fun hs_ => hs_.2.2) (fun hn_ => (Kd.freshB (g := gb299) (o := .cells #[.int .i64 ((rd_T41 l0 x8_1).f0), .int .i64 ((rd_T41 l0 x8_1).f1), .int .i64 ((rd_T41 l0 x8_1).f2), .int .u8 ((rd_T41 l0 x8_1).f3), .int .i64 ((rd_T41 l0 x8_1).f4.f0), .int .u16 ((rd_T41 l0 x8_1).f4.f1), .int .u8 ((rd_T41 l0 x8_1).f4.f2.f0), .int .u8 ((rd_T41 l0 x8_1).f4.f2.f1), .int .u8 ((rd_T41 l0 x8_1).f4.f2.f2), .int .u8 ((rd_T41 l0 x8_1).f4.f2.f3), .slice A298_10 ((rd_T41 l0 x8_1).f5).length c298_10] 41 (0, 0)) (by (with_reducible repeat (first | refine blk_drewN ?_ _ | refine blk_drew ?_ | refine blk_alloc ?_ _)); exact BK299.out) k_ hn_))⟩)) (below_size (by repeat (first | (with_reducible first | exact HB.out | apply below_alloc | apply pw_below_drewN | apply below_drew1 | refine below_set ?_ GE299.out) | exact HB.out)))); have n4_ := Aside0.mk (trivial : True); have n5_ := Aside0.mk (blk_below (g := gb299) (o := .cells #[.int .i64 ((rd_T41 l0 x8_1).f0), .int .i64 ((rd_T41 l0 x8_1).f1), .int .i64 ((rd_T41 l0 x8_1).f2), .int .u8 ((rd_T41 l0 x8_1).f3), .int .i64 ((rd_T41 l0 x8_1).f4.f0), .int .u16 ((rd_T41 l0 x8_1).f4.f1), .int .u8 ((rd_T41 l0 x8_1).f4.f2.f0), .int .u8 ((rd_T41 l0 x8_1).f4.f2.f1), .int .u8 ((rd_T41 l0 x8_1).f4.f2.f2), .int .u8 ((rd_T41 l0 x8_1).f4.f2.f3), .slice A298_10 ((rd_T41 l0 x8_1).f5).length c298_10] 41 (0, 0)) (by (with_reducible repeat (first | refine blk_drewN ?_ _ | refine blk_drew ?_ | refine blk_alloc ?_ _)); exact BK299.out) hb); have n6_ := Aside0.mk (below_step (by repeat (first | (with_reducible first | exact HB.out | apply below_alloc | apply pw_below_drewN | apply below_drew1 | refine below_set ?_ GE299.out) | exact HB.out)) hb); clear HO_3; clear HO_6; clear HL298_10; clear HR298_10; clear BK299; clear HB; have HO_3 := n0_; have HO_6 := n1_; have HL298_10 := n2_; have HO312 := n3_; have HR298_10 := n4_; have BK299 := n5_; have HB := n6_; clear n0_ n1_ n2_ n3_ n4_ n5_ n6_; (try clear hb); (try clear hb2); (try clear hk); (try clear hi); (try clear ho0); obtain ⟨Ao13, co13, eo13⟩ := Kd.V_slice HO312.out; subst eo13) | ((with_reducible refine gate_builtin (b := .append) (xs := #[.tmp 12, .tmp 15]) rfl ?_); at_builtin; refine Kd.N_append k44 (w0 := w) w.heap.size rfl (.tmp 12) (.tmp 15) 29 44 (.agg #[(.int .i64 0), (.int .i64 0), (.int .i64 0), (.int .u8 0), (.int .i64 0), (.int .u16 0), (.int .u8 0), (.int .u8 0), (.int .u8 0), (.int .u8 0), (.slice none 0 0)]) 72 rfl Try.underlying29 info44 rfl (by decide) (by omega) u3 x3_1 (⟨t300, t301, t302, t303, (⟨t304, t305, (⟨t306, t307, t308, t309⟩ : S37)⟩ : S42), t310⟩ : S44) [.int .i64 t300, .int .i64 t301, .int .i64 t302, .int .u8 t303, .int .i64 t304, .int .u16 t305, .int .u8 t306, .int .u8 t307, .int .u8 t308, .int .u8 t309, .slice Ao13 t310.length co13] (fun k_ => (P0_ k_ ∨ w.heap.size ≤ k_) ∧ k_ ≠ gb299) (fun k_ => ((fun k_ => (P0_ k_ ∨ w.heap.size ≤ k_) ∧ k_ ≠ gb299)) k_ ∧ some k_ ≠ (u3 : Value).ownBlock) rfl rfl ?aP (fun _ hk => hk) ?aF ?aO ?aB ?aS ?aL ?_; (case aP => exact (k44_mkF _ _ (⟨t300, t301, t302, t303, (⟨t304, t305, (⟨t306, t307, t308, t309⟩ : S37)⟩ : S42), t310⟩ : S44) (Kd.V_reads' (Kd.V_mono (ok' := (fun k_ => ((fun k_ => (P0_ k_ ∨ w.heap.size ≤ k_) ∧ k_ ≠ gb299)) k_ ∧ some k_ ≠ (u3 : Value).ownBlock)) (HO312.out) (fun k_ hk => ⟨⟨hk.1, hk.2.2⟩, hk.2.1⟩))).2.1 (Kd.V_F (Kd.V_mono (ok' := (fun k_ => ((fun k_ => (P0_ k_ ∨ w.heap.size ≤ k_) ∧ k_ ≠ gb299)) k_ ∧ some k_ ≠ (u3 : Value).ownBlock)) (HO312.out) (fun k_ hk => ⟨⟨hk.1, hk.2.2⟩, hk.2.1⟩))))); (case aB => exact (by repeat (first | (with_reducible first | exact HB.out | apply below_alloc | apply pw_below_drewN | apply below_drew1 | refine below_set ?_ GE299.out) | exact HB.out))); (case aF => exact (fun k_ hk => ⟨(.inr (Nat.le_trans (below_size (by repeat (first | (with_reducible first | exact HB.out | apply below_alloc | apply pw_below_drewN | apply below_drew1 | refine below_set ?_ GE299.out) | exact HB.out))) hk)), Kd.freshB (g := gb299) (o := .cells #[.int .i64 ((rd_T41 l0 x8_1).f0), .int .i64 ((rd_T41 l0 x8_1).f1), .int .i64 ((rd_T41 l0 x8_1).f2), .int .u8 ((rd_T41 l0 x8_1).f3), .int .i64 ((rd_T41 l0 x8_1).f4.f0), .int .u16 ((rd_T41 l0 x8_1).f4.f1), .int .u8 ((rd_T41 l0 x8_1).f4.f2.f0), .int .u8 ((rd_T41 l0 x8_1).f4.f2.f1), .int .u8 ((rd_T41 l0 x8_1).f4.f2.f2), .int .u8 ((rd_T41 l0 x8_1).f4.f2.f3), .slice A298_10 ((rd_T41 l0 x8_1).f5).length c298_10] 41 (0, 0)) (by (with_reducible repeat (first | refine blk_drewN ?_ _ | refine blk_drew ?_ | refine blk_alloc ?_ _)); exact BK299.out) k_ hk⟩)); (case aO => exact (by (with_reducible repeat (first | apply Kd.N_alloc | apply Kd.N_drewN | apply Kd.N_drew)); exact HO_3.out)); (case aS => exact (below_size (by repeat (first | (with_reducible first | exact HB.out | apply below_alloc | apply pw_below_drewN | apply below_drew1 | refine below_set ?_ GE299.out) | exact HB.out)))); (case aL => have := LMc6.out; omega); intro v314 w12 ho hb hg hat; rw [← Ny313.out] at ho; have n0_ := Aside0.mk (Kd.V_afterv (ok := (fun k_ => (P0_ k_ ∨ w.heap.size ≤ k_) ∧ k_ ≠ gb299)) (by (with_reducible repeat (first | apply Kd.V_alloc | apply Kd.V_drewN | apply Kd.V_drew)); exact Kd.V_mono HO_6.out (fun _ hk => ⟨⟨hk.1, hk.2.2⟩, hk.2.1⟩)) hg hat); have n1_ := Aside0.mk (Kd.V_afterv (ok := (fun k_ => (P0_ k_ ∨ w.heap.size ≤ k_) ∧ k_ ≠ gb299)) (by (with_reducible repeat (first | apply Kd.V_alloc | apply Kd.V_drewN | apply Kd.V_drew)); exact Kd.V_mono HL298_10.out (fun _ hk => ⟨⟨hk.1, hk.2.2⟩, hk.2.1⟩)) hg hat); have n2_ := Aside0.mk (blk_grown (g := gb299) (o := .cells #[.int .i64 ((rd_T41 l0 x8_1).f0), .int .i64 ((rd_T41 l0 x8_1).f1), .int .i64 ((rd_T41 l0 x8_1).f2), .int .u8 ((rd_T41 l0 x8_1).f3), .int .i64 ((rd_T41 l0 x8_1).f4.f0), .int .u16 ((rd_T41 l0 x8_1).f4.f1), .int .u8 ((rd_T41 l0 x8_1).f4.f2.f0), .int .u8 ((rd_T41 l0 x8_1).f4.f2.f1), .int .u8 ((rd_T41 l0 x8_1).f4.f2.f2), .int .u8 ((rd_T41 l0 x8_1).f4.f2.f3), .slice A298_10 ((rd_T41 l0 x8_1).f5).length c298_10] 41 (0, 0)) (by (with_reducible repeat (first | refine blk_drewN ?_ _ | refine blk_drew ?_ | refine blk_alloc ?_ _)); exact BK299.out) hg (Kd.N_ne HO_3.out BK299.out (by decide))); have n3_ := Aside0.mk (Kd.V_afterv (ok := (fun k_ => (P0_ k_ ∨ w.heap.size ≤ k_) ∧ k_ ≠ gb299)) (by (with_reducible repeat (first | apply Kd.V_alloc | apply Kd.V_drewN | apply Kd.V_drew)); exact Kd.V_mono HO312.out (fun _ hk => ⟨⟨hk.1, hk.2.2⟩, hk.2.1⟩)) hg hat); have n4_ := Aside0.mk (hb); have n5_ := Aside0.mk (ho); clear HO_6; clear HL298_10; clear BK299; clear HO312; clear HB; clear HO_3; have HO_6 := n0_; have HL298_10 := n1_; have BK299 := n2_; have HO312 := n3_; have HB := n4_; have HO315 := n5_; clear n0_ n1_ n2_ n3_ n4_ n5_; clear ho hb hg hat))
              go_roundg k1
              case measure => have := HK1.out; omega
              case rel => exact ⟨(y313), (wrap64 (x8_1 + 1)), (by first | rfl | (simp; done) | (simp [*]; done)), H', ⟨by have := HK1.out; omega⟩, ⟨by (with_reducible repeat (first | apply Kd.N_alloc | apply Kd.N_drewN | apply Kd.N_drew)); exact Kd.N_mono HO315.out (fun _ hk => hk.1)⟩, ⟨by (with_reducible repeat (first | apply Kd.V_alloc | apply Kd.V_drewN | apply Kd.V_drew)); exact Kd.V_mono HO_6.out (fun _ hk => ⟨hk.1.1, hk.2⟩)⟩, ⟨by repeat (first | (with_reducible first | exact HB.out | apply below_alloc | apply pw_below_drewN | apply below_drew1 | refine below_set ?_ GE299.out) | exact HB.out)⟩⟩
            · rw [if_neg c6] at H
              exact absurd H (by simp)
          · rw [if_neg c4] at H
            exact absurd H (by simp)
        · rw [if_neg c3] at H
          exact absurd H (by simp)
      · rw [if_neg c2] at H
        have c2b0 : decide (x8_1 < (l0.length : Int)) = false := decide_eq_false c2
        clear c2
        obtain rfl := Option.some.inj H
        go_wp2
        go_ret
        exact ⟨_, by first | rfl | (simp [errW_none, errW_some] <;> rfl) | (simp [*, errW_none, errW_some] <;> rfl), by (with_reducible repeat (first | apply Kd.N_alloc | apply Kd.N_drewN | apply Kd.N_drew)); exact HO_3.out, by repeat (first | (with_reducible first | exact HB.out | apply below_alloc | apply pw_below_drewN | apply below_drew1) | exact HB.out)⟩

end Go.Proofs.Ytgjckdkpkgmbkaa.P

-- Written by xprint.py (a program of this session's, over the kit's printer) out of the translation. Not trusted: Lean checks it.
namespace Go.Proofs.Ytgjckdkpkgmbkaa.P
open Go.RowKit Go.Proofs.YtgjckdkpkgmbkaaW.PrintWords Go.Proofs.YtgjckdkpkgmbkaaW.PrintLast Go.Proofs.YtgjckdkpkgmbkaaW.PrintMore Go.Proofs.Ytgjckdkpkgmbkaa.Hand
attribute [local go_sem] max2_int min2_int max_two min_two max_three min_three max_four min_four   -- for this text's walks alone
set_option linter.unusedVariables false
set_option linter.unusedSimpArgs false

theorem eqA37 (d : Nat) (w : World) (x0 y0 : Int) (x1 y1 : Int) (x2 y2 : Int) (x3 y3 : Int) :
    (Op.equalIn (d + 2) 37 (.agg #[.int .u8 x0, .int .u8 x1, .int .u8 x2, .int .u8 x3]) (.agg #[.int .u8 y0, .int .u8 y1, .int .u8 y2, .int .u8 y3])).run Try.prog w = .ok (x0 == y0 && (x1 == y1 && (x2 == y2 && (x3 == y3)))) w := by
  have hz : (sizeOf 5).run Try.prog w = .ok 1 w := by go_simp
  have he : ∀ a b : Int, (Op.equalIn (d + 1) 5 (.int .u8 a) (.int .u8 b)).run Try.prog w = .ok (a == b) w := fun a b => by go_simp
  have px : ∀ (c0 c1 c2 c3 : Int) (n : Nat) (v : Int), #[Value.int .u8 c0, .int .u8 c1, .int .u8 c2, .int .u8 c3][n]? = some (.int .u8 v) → (part 5 #[.int .u8 c0, .int .u8 c1, .int .u8 c2, .int .u8 c3] n).run Try.prog w = .ok (.int .u8 v) w := by
    intro c0 c1 c2 c3 n v h
    match n, h with
    | 0, h => simp at h; subst h; go_simp
    | 1, h => simp at h; subst h; go_simp
    | 2, h => simp at h; subst h; go_simp
    | 3, h => simp at h; subst h; go_simp
    | n + 4, h => simp at h
  have q0 := fun (c0 c1 c2 c3 : Int) => px c0 c1 c2 c3 0 c0 rfl
  have q1 := fun (c0 c1 c2 c3 : Int) => px c0 c1 c2 c3 1 c1 rfl
  have q2 := fun (c0 c1 c2 c3 : Int) => px c0 c1 c2 c3 2 c2 rfl
  have q3 := fun (c0 c1 c2 c3 : Int) => px c0 c1 c2 c3 3 c3 rfl
  clear px
  rw [Op.equalIn]
  simp only [Sem.run_bind, run_underlying Try.underlying37, Result.andThen_ok, hz, Std.Legacy.Range.forIn_eq_forIn_range', Std.Legacy.Range.size, Nat.sub_zero, Nat.add_sub_cancel, Nat.div_one, List.range'_succ, List.range'_zero, List.forIn_cons, List.forIn_nil, Nat.mul_one, Nat.zero_add, Nat.reduceAdd, q0, q1, q2, q3, he]
  by_cases e0 : x0 = y0
  · by_cases e1 : x1 = y1
    · by_cases e2 : x2 = y2
      · by_cases e3 : x3 = y3
        · simp [e0, e1, e2, e3, q0, q1, q2, q3, he]
        · simp [e0, e1, e2, e3, q0, q1, q2, q3, he]
      · simp [e0, e1, e2, q0, q1, q2, q3, he]
    · simp [e0, e1, q0, q1, q2, q3, he]
  · simp [e0, q0, q1, q2, q3, he]
theorem eqA42 (d : Nat) (w : World) (x0 y0 : Int) (x1 y1 : Int) (x2 y2 : Int) (x3 y3 : Int) (x4 y4 : Int) (x5 y5 : Int) :
    (Op.equalIn (d + 3) 42 (.agg #[.int .i64 x0, .int .u16 x1, .int .u8 x2, .int .u8 x3, .int .u8 x4, .int .u8 x5]) (.agg #[.int .i64 y0, .int .u16 y1, .int .u8 y2, .int .u8 y3, .int .u8 y4, .int .u8 y5])).run Try.prog w = .ok (x0 == y0 && (x1 == y1 && ((x2 == y2 && (x3 == y3 && (x4 == y4 && (x5 == y5))))))) w := by
  refine eqA_of Try.underlying42 (by kernel_rfl) ?_
  refine eqf_cons (by rfl) (by go_simp; rfl) (by go_simp; rfl) (by go_simp) ?_
  refine eqf_cons (by rfl) (by go_simp; rfl) (by go_simp; rfl) (by go_simp) ?_
  exact eqf_last (by rfl) (by go_simp) (by go_simp) (eqA37 (d + 0) w _ _ _ _ _ _ _ _)
end Go.Proofs.Ytgjckdkpkgmbkaa.P

-- Written by xprint.py (a program of this session's, over the kit's printer) out of the translation. Not trusted: Lean checks it.
namespace Go.Proofs.Ytgjckdkpkgmbkaa.P
open Go.RowKit Go.Proofs.YtgjckdkpkgmbkaaW.PrintWords Go.Proofs.YtgjckdkpkgmbkaaW.PrintLast Go.Proofs.YtgjckdkpkgmbkaaW.PrintMore Go.Proofs.Ytgjckdkpkgmbkaa.Hand
attribute [local go_sem] max2_int min2_int max_two min_two max_three min_three max_four min_four   -- for this text's walks alone
set_option linter.unusedVariables false
set_option linter.unusedSimpArgs false

attribute [local go_sem high] eqA42
/-! ### script_same: function 21 -/
def script_same.f (a0_0 : Int) (a0_1 : Int) (a0_2 : Int) (a0_3 : Int) (a0_4 : Int) (a0_5 : Int) (a0_6 : Int) (a0_7 : Int) (a0_8 : Int) (a0_9 : Int) (l0_10 : List Int) (a1_0 : Int) (a1_1 : Int) (a1_2 : Int) (a1_3 : Int) (a1_4 : Int) (a1_5 : Int) (a1_6 : Int) (a1_7 : Int) (a1_8 : Int) (a1_9 : Int) (l1_10 : List Int) : Option (Bool) := if a0_0 = a1_0 then (if a0_1 = a1_1 then (if a0_2 = a1_2 then (if a0_3 = a1_3 then (if (a0_4 == a1_4 && (a0_5 == a1_5 && ((a0_6 == a1_6 && (a0_7 == a1_7 && (a0_8 == a1_8 && (a0_9 == a1_9))))))) = true then ((bytes_Equal.f l0_10 l1_10).bind fun t348 => (some t348)) else (some false)) else (some false)) else (some false)) else (some false)) else (some false)
set_option maxHeartbeats 8000000 in
set_option maxRecDepth 100000 in
theorem script_same.calls (a0_0 : Int) (a0_1 : Int) (a0_2 : Int) (a0_3 : Int) (a0_4 : Int) (a0_5 : Int) (a0_6 : Int) (a0_7 : Int) (a0_8 : Int) (a0_9 : Int) (A0_10 : Option Addr) (c0_10 : Nat) (l0_10 : List Int) (a1_0 : Int) (a1_1 : Int) (a1_2 : Int) (a1_3 : Int) (a1_4 : Int) (a1_5 : Int) (a1_6 : Int) (a1_7 : Int) (a1_8 : Int) (a1_9 : Int) (A1_10 : Option Addr) (c1_10 : Nat) (l1_10 : List Int) (r : Bool) (w : World) (hr0_10 : Kd.C (Kd.int .u8) w A0_10 l0_10.length l0_10) (hc0_10 : l0_10.length ≤ c0_10) (hr1_10 : Kd.C (Kd.int .u8) w A1_10 l1_10.length l1_10) (hc1_10 : l1_10.length ≤ c1_10) (h : script_same.f a0_0 a0_1 a0_2 a0_3 a0_4 a0_5 a0_6 a0_7 a0_8 a0_9 l0_10 a1_0 a1_1 a1_2 a1_3 a1_4 a1_5 a1_6 a1_7 a1_8 a1_9 l1_10 = some r) :
    Calls Try.prog 21 #[.agg #[.int .i64 a0_0, .int .i64 a0_1, .int .i64 a0_2, .int .u8 a0_3, .int .i64 a0_4, .int .u16 a0_5, .int .u8 a0_6, .int .u8 a0_7, .int .u8 a0_8, .int .u8 a0_9, .slice A0_10 l0_10.length c0_10], .agg #[.int .i64 a1_0, .int .i64 a1_1, .int .i64 a1_2, .int .u8 a1_3, .int .i64 a1_4, .int .u16 a1_5, .int .u8 a1_6, .int .u8 a1_7, .int .u8 a1_8, .int .u8 a1_9, .slice A1_10 l1_10.length c1_10]] w fun e w' => e = .returned (.bool r) ∧ Below w.heap.size w w' := by
  have hu44 := Try.underlying44
  have hu42 := Try.underlying42
  have HR0_10 := Aside0.mk hr0_10
  have HC0_10 := Aside0.mk hc0_10
  clear hr0_10 hc0_10
  have HR1_10 := Aside0.mk hr1_10
  have HC1_10 := Aside0.mk hc1_10
  clear hr1_10 hc1_10
  have HB := Aside0.mk (Below.refl w.heap.size w)
  have H : (if a0_0 = a1_0 then (if a0_1 = a1_1 then (if a0_2 = a1_2 then (if a0_3 = a1_3 then (if (a0_4 == a1_4 && (a0_5 == a1_5 && ((a0_6 == a1_6 && (a0_7 == a1_7 && (a0_8 == a1_8 && (a0_9 == a1_9))))))) = true then ((bytes_Equal.f l0_10 l1_10).bind fun t348 => (some t348)) else (some false)) else (some false)) else (some false)) else (some false)) else (some false)) = some r := h
  clear h
  by_cases c3 : a0_0 = a1_0
  · rw [if_pos c3] at H
    have c3b0 : (a0_0 == a1_0) = true := beq_iff_eq.mpr c3
    have c3b1 : (a0_0 != a1_0) = false := bne_eq_false_iff_eq.mpr c3
    clear c3
    by_cases c4 : a0_1 = a1_1
    · rw [if_pos c4] at H
      have c4b0 : (a0_1 == a1_1) = true := beq_iff_eq.mpr c4
      have c4b1 : (a0_1 != a1_1) = false := bne_eq_false_iff_eq.mpr c4
      clear c4
      by_cases c5 : a0_2 = a1_2
      · rw [if_pos c5] at H
        have c5b0 : (a0_2 == a1_2) = true := beq_iff_eq.mpr c5
        have c5b1 : (a0_2 != a1_2) = false := bne_eq_false_iff_eq.mpr c5
        clear c5
        by_cases c6 : a0_3 = a1_3
        · rw [if_pos c6] at H
          have c6b0 : (a0_3 == a1_3) = true := beq_iff_eq.mpr c6
          have c6b1 : (a0_3 != a1_3) = false := bne_eq_false_iff_eq.mpr c6
          clear c6
          by_cases c7 : (a0_4 == a1_4 && (a0_5 == a1_5 && ((a0_6 == a1_6 && (a0_7 == a1_7 && (a0_8 == a1_8 && (a0_9 == a1_9))))))) = true
          · rw [if_pos c7] at H
            have c7b0 : (a0_4 == a1_4 && (a0_5 == a1_5 && ((a0_6 == a1_6 && (a0_7 == a1_7 && (a0_8 == a1_8 && (a0_9 == a1_9))))))) = true := c7
            (try (have c7b1 : decide (a0_4 = a1_4 && (a0_5 == a1_5 && ((a0_6 == a1_6 && (a0_7 == a1_7 && (a0_8 == a1_8 && (a0_9 == a1_9))))))) = true := by simpa using c7))
            (try (have c7b2 : (a0_4 == a1_4 && (a0_5 == a1_5 && ((a0_6 == a1_6 && (a0_7 == a1_7 && (a0_8 == a1_8 && (a0_9 == a1_9))))))) = true := by simpa using c7))
            clear c7
            replace H := Option.bind_eq_some_iff.mp H
            obtain ⟨t348, A80, H⟩ := H
            replace H : (some t348) = some r := H
            have A8 := Aside0.mk A80
            clear A80
            obtain rfl := Option.some.inj H
            go_enter Try.func21, Try.ntmps21
            go_wp2_with (first | ((with_reducible refine gate_dst (N := 2) rfl ?_); refine box_event ?hg (N := 2) ?hd (cs := #[.int .i64 a0_0, .int .i64 a0_1, .int .i64 a0_2, .int .u8 a0_3, .int .i64 a0_4, .int .u16 a0_5, .int .u8 a0_6, .int .u8 a0_7, .int .u8 a0_8, .int .u8 a0_9, .slice A0_10 l0_10.length c0_10]) (t := 44) ?hr ?_; (case hd => rfl); (case hg => rfl); (case hr => first | (go_simp; done) | (go_simp; rfl)); intro gb346 hg w9 hbox hb; have n0_ := Aside0.mk (below_step (by repeat (first | (with_reducible first | exact HB.out | apply below_alloc | apply pw_below_drewN | apply below_drew1) | exact HB.out)) hb); have n1_ := Aside0.mk (hbox); have n2_ := Aside0.mk ((by rw [hg]; exact (below_size (by repeat (first | (with_reducible first | exact HB.out | apply below_alloc | apply pw_below_drewN | apply below_drew1) | exact HB.out))) : w.heap.size ≤ gb346)); have n3_ := Aside0.mk ((by rw [hg]; exact (below_size (by repeat (first | (with_reducible first | exact HB.out | apply below_alloc | apply pw_below_drewN | apply below_drew1) | exact HB.out))) : w.heap.size ≤ gb346)); clear HB; have HB := n0_; have BK346 := n1_; have GW346 := n2_; have GE346 := n3_; clear n0_ n1_ n2_ n3_; clear hb hbox hg) | ((with_reducible refine gate_dst (N := 3) rfl ?_); refine box_event ?hg (N := 3) ?hd (cs := #[.int .i64 a1_0, .int .i64 a1_1, .int .i64 a1_2, .int .u8 a1_3, .int .i64 a1_4, .int .u16 a1_5, .int .u8 a1_6, .int .u8 a1_7, .int .u8 a1_8, .int .u8 a1_9, .slice A1_10 l1_10.length c1_10]) (t := 44) ?hr ?_; (case hd => rfl); (case hg => rfl); (case hr => first | (go_simp; done) | (go_simp; rfl)); intro gb347 hg w10 hbox hb; have n0_ := Aside0.mk (blk_below (g := gb346) (o := .cells #[.int .i64 a0_0, .int .i64 a0_1, .int .i64 a0_2, .int .u8 a0_3, .int .i64 a0_4, .int .u16 a0_5, .int .u8 a0_6, .int .u8 a0_7, .int .u8 a0_8, .int .u8 a0_9, .slice A0_10 l0_10.length c0_10] 44 (0, 0)) (by (with_reducible repeat (first | refine blk_drewN ?_ _ | refine blk_drew ?_ | refine blk_alloc ?_ _)); exact BK346.out) hb); have n1_ := Aside0.mk (below_step (by repeat (first | (with_reducible first | exact HB.out | apply below_alloc | apply pw_below_drewN | apply below_drew1 | refine below_set ?_ GE346.out) | exact HB.out)) hb); have n2_ := Aside0.mk (hbox); have n3_ := Aside0.mk ((by rw [hg]; exact (below_size (by repeat (first | (with_reducible first | exact HB.out | apply below_alloc | apply pw_below_drewN | apply below_drew1 | refine below_set ?_ GE346.out) | exact HB.out))) : w.heap.size ≤ gb347)); have n4_ := Aside0.mk ((by rw [hg]; exact (below_size (by repeat (first | (with_reducible first | exact HB.out | apply below_alloc | apply pw_below_drewN | apply below_drew1 | refine below_set ?_ GE346.out) | exact HB.out))) : w.heap.size ≤ gb347)); have n5_ := Aside0.mk ((by rw [hg]; exact Nat.ne_of_lt (blk_lt (g := gb346) (o := .cells #[.int .i64 a0_0, .int .i64 a0_1, .int .i64 a0_2, .int .u8 a0_3, .int .i64 a0_4, .int .u16 a0_5, .int .u8 a0_6, .int .u8 a0_7, .int .u8 a0_8, .int .u8 a0_9, .slice A0_10 l0_10.length c0_10] 44 (0, 0)) (by (with_reducible repeat (first | refine blk_drewN ?_ _ | refine blk_drew ?_ | refine blk_alloc ?_ _)); exact BK346.out)) : gb346 ≠ gb347)); have n6_ := Aside0.mk ((by rw [hg]; exact Nat.ne_of_gt (blk_lt (g := gb346) (o := .cells #[.int .i64 a0_0, .int .i64 a0_1, .int .i64 a0_2, .int .u8 a0_3, .int .i64 a0_4, .int .u16 a0_5, .int .u8 a0_6, .int .u8 a0_7, .int .u8 a0_8, .int .u8 a0_9, .slice A0_10 l0_10.length c0_10] 44 (0, 0)) (by (with_reducible repeat (first | refine blk_drewN ?_ _ | refine blk_drew ?_ | refine blk_alloc ?_ _)); exact BK346.out)) : gb347 ≠ gb346)); clear BK346; clear HB; have BK346 := n0_; have HB := n1_; have BK347 := n2_; have GW347 := n3_; have GE347 := n4_; have NB346_347 := n5_; have NB347_346 := n6_; clear n0_ n1_ n2_ n3_ n4_ n5_ n6_; clear hb hbox hg; have hnb11 := NB346_347.out; have hnc11 := NB347_346.out; have hcz12_0 : w10.cell? ⟨gb346, 0, none⟩ = some (.int .i64 a0_0) := (blk_cell BK346.out 0).trans rfl; have hcz12_1 : w10.cell? ⟨gb346, 1, none⟩ = some (.int .i64 a0_1) := (blk_cell BK346.out 1).trans rfl; have hcz12_2 : w10.cell? ⟨gb346, 2, none⟩ = some (.int .i64 a0_2) := (blk_cell BK346.out 2).trans rfl; have hcz12_3 : w10.cell? ⟨gb346, 3, none⟩ = some (.int .u8 a0_3) := (blk_cell BK346.out 3).trans rfl; have hcz12_4 : w10.cell? ⟨gb346, 4, none⟩ = some (.int .i64 a0_4) := (blk_cell BK346.out 4).trans rfl; have hcz12_5 : w10.cell? ⟨gb346, 5, none⟩ = some (.int .u16 a0_5) := (blk_cell BK346.out 5).trans rfl; have hcz12_6 : w10.cell? ⟨gb346, 6, none⟩ = some (.int .u8 a0_6) := (blk_cell BK346.out 6).trans rfl; have hcz12_7 : w10.cell? ⟨gb346, 7, none⟩ = some (.int .u8 a0_7) := (blk_cell BK346.out 7).trans rfl; have hcz12_8 : w10.cell? ⟨gb346, 8, none⟩ = some (.int .u8 a0_8) := (blk_cell BK346.out 8).trans rfl; have hcz12_9 : w10.cell? ⟨gb346, 9, none⟩ = some (.int .u8 a0_9) := (blk_cell BK346.out 9).trans rfl; have hcz12_10 : w10.cell? ⟨gb346, 10, none⟩ = some (.slice A0_10 l0_10.length c0_10) := (blk_cell BK346.out 10).trans rfl; have hfz12_0 := blk_frozen BK346.out 0; have hfz12_1 := blk_frozen BK346.out 1; have hfz12_2 := blk_frozen BK346.out 2; have hfz12_3 := blk_frozen BK346.out 3; have hfz12_4 := blk_frozen BK346.out 4; have hfz12_5 := blk_frozen BK346.out 5; have hfz12_6 := blk_frozen BK346.out 6; have hfz12_7 := blk_frozen BK346.out 7; have hfz12_8 := blk_frozen BK346.out 8; have hfz12_9 := blk_frozen BK346.out 9; have hfz12_10 := blk_frozen BK346.out 10; have hcz13_0 : w10.cell? ⟨gb347, 0, none⟩ = some (.int .i64 a1_0) := (blk_cell BK347.out 0).trans rfl; have hcz13_1 : w10.cell? ⟨gb347, 1, none⟩ = some (.int .i64 a1_1) := (blk_cell BK347.out 1).trans rfl; have hcz13_2 : w10.cell? ⟨gb347, 2, none⟩ = some (.int .i64 a1_2) := (blk_cell BK347.out 2).trans rfl; have hcz13_3 : w10.cell? ⟨gb347, 3, none⟩ = some (.int .u8 a1_3) := (blk_cell BK347.out 3).trans rfl; have hcz13_4 : w10.cell? ⟨gb347, 4, none⟩ = some (.int .i64 a1_4) := (blk_cell BK347.out 4).trans rfl; have hcz13_5 : w10.cell? ⟨gb347, 5, none⟩ = some (.int .u16 a1_5) := (blk_cell BK347.out 5).trans rfl; have hcz13_6 : w10.cell? ⟨gb347, 6, none⟩ = some (.int .u8 a1_6) := (blk_cell BK347.out 6).trans rfl; have hcz13_7 : w10.cell? ⟨gb347, 7, none⟩ = some (.int .u8 a1_7) := (blk_cell BK347.out 7).trans rfl; have hcz13_8 : w10.cell? ⟨gb347, 8, none⟩ = some (.int .u8 a1_8) := (blk_cell BK347.out 8).trans rfl; have hcz13_9 : w10.cell? ⟨gb347, 9, none⟩ = some (.int .u8 a1_9) := (blk_cell BK347.out 9).trans rfl; have hcz13_10 : w10.cell? ⟨gb347, 10, none⟩ = some (.slice A1_10 l1_10.length c1_10) := (blk_cell BK347.out 10).trans rfl; have hfz13_0 := blk_frozen BK347.out 0; have hfz13_1 := blk_frozen BK347.out 1; have hfz13_2 := blk_frozen BK347.out 2; have hfz13_3 := blk_frozen BK347.out 3; have hfz13_4 := blk_frozen BK347.out 4; have hfz13_5 := blk_frozen BK347.out 5; have hfz13_6 := blk_frozen BK347.out 6; have hfz13_7 := blk_frozen BK347.out 7; have hfz13_8 := blk_frozen BK347.out 8; have hfz13_9 := blk_frozen BK347.out 9; have hfz13_10 := blk_frozen BK347.out 10) | (go_at_call 27; (with_reducible refine (bytes_Equal.calls _ _ l0_10 _ _ l1_10 t348 _ ?side1 ?side2 ?side3 ?side4 A8.out).mono ?_); (case side1 => repeat (first | exact (Kd.C_below HR0_10.out HB.out) | (with_reducible refine Kd.C_alloc ?_ _) | (with_reducible refine Kd.C_drewN ?_ _) | (with_reducible refine Kd.C_drew ?_))); (case side2 => exact HC0_10.out); (case side3 => repeat (first | exact (Kd.C_below HR1_10.out HB.out) | (with_reducible refine Kd.C_alloc ?_ _) | (with_reducible refine Kd.C_drewN ?_ _) | (with_reducible refine Kd.C_drew ?_))); (case side4 => exact HC1_10.out); rintro e w' ⟨rfl, ⟨nd, rfl⟩⟩))
            go_ret
            exact ⟨by first | rfl | (simp [errW_none, errW_some] <;> rfl) | (simp [*, errW_none, errW_some] <;> rfl), by repeat (first | (with_reducible first | exact HB.out | apply below_alloc | apply pw_below_drewN | apply below_drew1 | refine below_set ?_ GE346.out | refine below_set ?_ GE347.out) | exact HB.out)⟩
          · rw [if_neg c7] at H
            have c7b0 : (a0_4 == a1_4 && (a0_5 == a1_5 && ((a0_6 == a1_6 && (a0_7 == a1_7 && (a0_8 == a1_8 && (a0_9 == a1_9))))))) = false := by simpa using c7
            (try (have c7b1 : decide (a0_4 = a1_4 && (a0_5 == a1_5 && ((a0_6 == a1_6 && (a0_7 == a1_7 && (a0_8 == a1_8 && (a0_9 == a1_9))))))) = false := by simpa using c7))
            (try (have c7b2 : (a0_4 == a1_4 && (a0_5 == a1_5 && ((a0_6 == a1_6 && (a0_7 == a1_7 && (a0_8 == a1_8 && (a0_9 == a1_9))))))) = false := by simpa using c7))
            (try (have c7b3 : ¬ (a0_4 = a1_4 && (a0_5 == a1_5 && ((a0_6 == a1_6 && (a0_7 == a1_7 && (a0_8 == a1_8 && (a0_9 == a1_9))))))) := by simpa using c7))
            clear c7
            obtain rfl := Option.some.inj H
            go_enter Try.func21, Try.ntmps21
            go_wp2_with (first | ((with_reducible refine gate_dst (N := 2) rfl ?_); refine box_event ?hg (N := 2) ?hd (cs := #[.int .i64 a0_0, .int .i64 a0_1, .int .i64 a0_2, .int .u8 a0_3, .int .i64 a0_4, .int .u16 a0_5, .int .u8 a0_6, .int .u8 a0_7, .int .u8 a0_8, .int .u8 a0_9, .slice A0_10 l0_10.length c0_10]) (t := 44) ?hr ?_; (case hd => rfl); (case hg => rfl); (case hr => first | (go_simp; done) | (go_simp; rfl)); intro gb346 hg w14 hbox hb; have n0_ := Aside0.mk (below_step (by repeat (first | (with_reducible first | exact HB.out | apply below_alloc | apply pw_below_drewN | apply below_drew1) | exact HB.out)) hb); have n1_ := Aside0.mk (hbox); have n2_ := Aside0.mk ((by rw [hg]; exact (below_size (by repeat (first | (with_reducible first | exact HB.out | apply below_alloc | apply pw_below_drewN | apply below_drew1) | exact HB.out))) : w.heap.size ≤ gb346)); have n3_ := Aside0.mk ((by rw [hg]; exact (below_size (by repeat (first | (with_reducible first | exact HB.out | apply below_alloc | apply pw_below_drewN | apply below_drew1) | exact HB.out))) : w.heap.size ≤ gb346)); clear HB; have HB := n0_; have BK346 := n1_; have GW346 := n2_; have GE346 := n3_; clear n0_ n1_ n2_ n3_; clear hb hbox hg) | ((with_reducible refine gate_dst (N := 3) rfl ?_); refine box_event ?hg (N := 3) ?hd (cs := #[.int .i64 a1_0, .int .i64 a1_1, .int .i64 a1_2, .int .u8 a1_3, .int .i64 a1_4, .int .u16 a1_5, .int .u8 a1_6, .int .u8 a1_7, .int .u8 a1_8, .int .u8 a1_9, .slice A1_10 l1_10.length c1_10]) (t := 44) ?hr ?_; (case hd => rfl); (case hg => rfl); (case hr => first | (go_simp; done) | (go_simp; rfl)); intro gb347 hg w15 hbox hb; have n0_ := Aside0.mk (blk_below (g := gb346) (o := .cells #[.int .i64 a0_0, .int .i64 a0_1, .int .i64 a0_2, .int .u8 a0_3, .int .i64 a0_4, .int .u16 a0_5, .int .u8 a0_6, .int .u8 a0_7, .int .u8 a0_8, .int .u8 a0_9, .slice A0_10 l0_10.length c0_10] 44 (0, 0)) (by (with_reducible repeat (first | refine blk_drewN ?_ _ | refine blk_drew ?_ | refine blk_alloc ?_ _)); exact BK346.out) hb); have n1_ := Aside0.mk (below_step (by repeat (first | (with_reducible first | exact HB.out | apply below_alloc | apply pw_below_drewN | apply below_drew1 | refine below_set ?_ GE346.out) | exact HB.out)) hb); have n2_ := Aside0.mk (hbox); have n3_ := Aside0.mk ((by rw [hg]; exact (below_size (by repeat (first | (with_reducible first | exact HB.out | apply below_alloc | apply pw_below_drewN | apply below_drew1 | refine below_set ?_ GE346.out) | exact HB.out))) : w.heap.size ≤ gb347)); have n4_ := Aside0.mk ((by rw [hg]; exact (below_size (by repeat (first | (with_reducible first | exact HB.out | apply below_alloc | apply pw_below_drewN | apply below_drew1 | refine below_set ?_ GE346.out) | exact HB.out))) : w.heap.size ≤ gb347)); have n5_ := Aside0.mk ((by rw [hg]; exact Nat.ne_of_lt (blk_lt (g := gb346) (o := .cells #[.int .i64 a0_0, .int .i64 a0_1, .int .i64 a0_2, .int .u8 a0_3, .int .i64 a0_4, .int .u16 a0_5, .int .u8 a0_6, .int .u8 a0_7, .int .u8 a0_8, .int .u8 a0_9, .slice A0_10 l0_10.length c0_10] 44 (0, 0)) (by (with_reducible repeat (first | refine blk_drewN ?_ _ | refine blk_drew ?_ | refine blk_alloc ?_ _)); exact BK346.out)) : gb346 ≠ gb347)); have n6_ := Aside0.mk ((by rw [hg]; exact Nat.ne_of_gt (blk_lt (g := gb346) (o := .cells #[.int .i64 a0_0, .int .i64 a0_1, .int .i64 a0_2, .int .u8 a0_3, .int .i64 a0_4, .int .u16 a0_5, .int .u8 a0_6, .int .u8 a0_7, .int .u8 a0_8, .int .u8 a0_9, .slice A0_10 l0_10.length c0_10] 44 (0, 0)) (by (with_reducible repeat (first | refine blk_drewN ?_ _ | refine blk_drew ?_ | refine blk_alloc ?_ _)); exact BK346.out)) : gb347 ≠ gb346)); clear BK346; clear HB; have BK346 := n0_; have HB := n1_; have BK347 := n2_; have GW347 := n3_; have GE347 := n4_; have NB346_347 := n5_; have NB347_346 := n6_; clear n0_ n1_ n2_ n3_ n4_ n5_ n6_; clear hb hbox hg; have hnb16 := NB346_347.out; have hnc16 := NB347_346.out; have hcz17_0 : w15.cell? ⟨gb346, 0, none⟩ = some (.int .i64 a0_0) := (blk_cell BK346.out 0).trans rfl; have hcz17_1 : w15.cell? ⟨gb346, 1, none⟩ = some (.int .i64 a0_1) := (blk_cell BK346.out 1).trans rfl; have hcz17_2 : w15.cell? ⟨gb346, 2, none⟩ = some (.int .i64 a0_2) := (blk_cell BK346.out 2).trans rfl; have hcz17_3 : w15.cell? ⟨gb346, 3, none⟩ = some (.int .u8 a0_3) := (blk_cell BK346.out 3).trans rfl; have hcz17_4 : w15.cell? ⟨gb346, 4, none⟩ = some (.int .i64 a0_4) := (blk_cell BK346.out 4).trans rfl; have hcz17_5 : w15.cell? ⟨gb346, 5, none⟩ = some (.int .u16 a0_5) := (blk_cell BK346.out 5).trans rfl; have hcz17_6 : w15.cell? ⟨gb346, 6, none⟩ = some (.int .u8 a0_6) := (blk_cell BK346.out 6).trans rfl; have hcz17_7 : w15.cell? ⟨gb346, 7, none⟩ = some (.int .u8 a0_7) := (blk_cell BK346.out 7).trans rfl; have hcz17_8 : w15.cell? ⟨gb346, 8, none⟩ = some (.int .u8 a0_8) := (blk_cell BK346.out 8).trans rfl; have hcz17_9 : w15.cell? ⟨gb346, 9, none⟩ = some (.int .u8 a0_9) := (blk_cell BK346.out 9).trans rfl; have hcz17_10 : w15.cell? ⟨gb346, 10, none⟩ = some (.slice A0_10 l0_10.length c0_10) := (blk_cell BK346.out 10).trans rfl; have hfz17_0 := blk_frozen BK346.out 0; have hfz17_1 := blk_frozen BK346.out 1; have hfz17_2 := blk_frozen BK346.out 2; have hfz17_3 := blk_frozen BK346.out 3; have hfz17_4 := blk_frozen BK346.out 4; have hfz17_5 := blk_frozen BK346.out 5; have hfz17_6 := blk_frozen BK346.out 6; have hfz17_7 := blk_frozen BK346.out 7; have hfz17_8 := blk_frozen BK346.out 8; have hfz17_9 := blk_frozen BK346.out 9; have hfz17_10 := blk_frozen BK346.out 10; have hcz18_0 : w15.cell? ⟨gb347, 0, none⟩ = some (.int .i64 a1_0) := (blk_cell BK347.out 0).trans rfl; have hcz18_1 : w15.cell? ⟨gb347, 1, none⟩ = some (.int .i64 a1_1) := (blk_cell BK347.out 1).trans rfl; have hcz18_2 : w15.cell? ⟨gb347, 2, none⟩ = some (.int .i64 a1_2) := (blk_cell BK347.out 2).trans rfl; have hcz18_3 : w15.cell? ⟨gb347, 3, none⟩ = some (.int .u8 a1_3) := (blk_cell BK347.out 3).trans rfl; have hcz18_4 : w15.cell? ⟨gb347, 4, none⟩ = some (.int .i64 a1_4) := (blk_cell BK347.out 4).trans rfl; have hcz18_5 : w15.cell? ⟨gb347, 5, none⟩ = some (.int .u16 a1_5) := (blk_cell BK347.out 5).trans rfl; have hcz18_6 : w15.cell? ⟨gb347, 6, none⟩ = some (.int .u8 a1_6) := (blk_cell BK347.out 6).trans rfl; have hcz18_7 : w15.cell? ⟨gb347, 7, none⟩ = some (.int .u8 a1_7) := (blk_cell BK347.out 7).trans rfl; have hcz18_8 : w15.cell? ⟨gb347, 8, none⟩ = some (.int .u8 a1_8) := (blk_cell BK347.out 8).trans rfl; have hcz18_9 : w15.cell? ⟨gb347, 9, none⟩ = some (.int .u8 a1_9) := (blk_cell BK347.out 9).trans rfl; have hcz18_10 : w15.cell? ⟨gb347, 10, none⟩ = some (.slice A1_10 l1_10.length c1_10) := (blk_cell BK347.out 10).trans rfl; have hfz18_0 := blk_frozen BK347.out 0; have hfz18_1 := blk_frozen BK347.out 1; have hfz18_2 := blk_frozen BK347.out 2; have hfz18_3 := blk_frozen BK347.out 3; have hfz18_4 := blk_frozen BK347.out 4; have hfz18_5 := blk_frozen BK347.out 5; have hfz18_6 := blk_frozen BK347.out 6; have hfz18_7 := blk_frozen BK347.out 7; have hfz18_8 := blk_frozen BK347.out 8; have hfz18_9 := blk_frozen BK347.out 9; have hfz18_10 := blk_frozen BK347.out 10))
            go_ret
            exact ⟨by first | rfl | (simp [errW_none, errW_some] <;> rfl) | (simp [*, errW_none, errW_some] <;> rfl), by repeat (first | (with_reducible first | exact HB.out | apply below_alloc | apply pw_below_drewN | apply below_drew1 | refine below_set ?_ GE346.out | refine below_set ?_ GE347.out) | exact HB.out)⟩
        · rw [if_neg c6] at H
          have c6b0 : (a0_3 == a1_3) = false := beq_eq_false_iff_ne.mpr c6
          have c6b1 : (a0_3 != a1_3) = true := bne_iff_ne.mpr c6
          obtain rfl := Option.some.inj H
          go_enter Try.func21, Try.ntmps21
          go_wp2_with (first | ((with_reducible refine gate_dst (N := 2) rfl ?_); refine box_event ?hg (N := 2) ?hd (cs := #[.int .i64 a0_0, .int .i64 a0_1, .int .i64 a0_2, .int .u8 a0_3, .int .i64 a0_4, .int .u16 a0_5, .int .u8 a0_6, .int .u8 a0_7, .int .u8 a0_8, .int .u8 a0_9, .slice A0_10 l0_10.length c0_10]) (t := 44) ?hr ?_; (case hd => rfl); (case hg => rfl); (case hr => first | (go_simp; done) | (go_simp; rfl)); intro gb346 hg w19 hbox hb; have n0_ := Aside0.mk (below_step (by repeat (first | (with_reducible first | exact HB.out | apply below_alloc | apply pw_below_drewN | apply below_drew1) | exact HB.out)) hb); have n1_ := Aside0.mk (hbox); have n2_ := Aside0.mk ((by rw [hg]; exact (below_size (by repeat (first | (with_reducible first | exact HB.out | apply below_alloc | apply pw_below_drewN | apply below_drew1) | exact HB.out))) : w.heap.size ≤ gb346)); have n3_ := Aside0.mk ((by rw [hg]; exact (below_size (by repeat (first | (with_reducible first | exact HB.out | apply below_alloc | apply pw_below_drewN | apply below_drew1) | exact HB.out))) : w.heap.size ≤ gb346)); clear HB; have HB := n0_; have BK346 := n1_; have GW346 := n2_; have GE346 := n3_; clear n0_ n1_ n2_ n3_; clear hb hbox hg) | ((with_reducible refine gate_dst (N := 3) rfl ?_); refine box_event ?hg (N := 3) ?hd (cs := #[.int .i64 a1_0, .int .i64 a1_1, .int .i64 a1_2, .int .u8 a1_3, .int .i64 a1_4, .int .u16 a1_5, .int .u8 a1_6, .int .u8 a1_7, .int .u8 a1_8, .int .u8 a1_9, .slice A1_10 l1_10.length c1_10]) (t := 44) ?hr ?_; (case hd => rfl); (case hg => rfl); (case hr => first | (go_simp; done) | (go_simp; rfl)); intro gb347 hg w20 hbox hb; have n0_ := Aside0.mk (blk_below (g := gb346) (o := .cells #[.int .i64 a0_0, .int .i64 a0_1, .int .i64 a0_2, .int .u8 a0_3, .int .i64 a0_4, .int .u16 a0_5, .int .u8 a0_6, .int .u8 a0_7, .int .u8 a0_8, .int .u8 a0_9, .slice A0_10 l0_10.length c0_10] 44 (0, 0)) (by (with_reducible repeat (first | refine blk_drewN ?_ _ | refine blk_drew ?_ | refine blk_alloc ?_ _)); exact BK346.out) hb); have n1_ := Aside0.mk (below_step (by repeat (first | (with_reducible first | exact HB.out | apply below_alloc | apply pw_below_drewN | apply below_drew1 | refine below_set ?_ GE346.out) | exact HB.out)) hb); have n2_ := Aside0.mk (hbox); have n3_ := Aside0.mk ((by rw [hg]; exact (below_size (by repeat (first | (with_reducible first | exact HB.out | apply below_alloc | apply pw_below_drewN | apply below_drew1 | refine below_set ?_ GE346.out) | exact HB.out))) : w.heap.size ≤ gb347)); have n4_ := Aside0.mk ((by rw [hg]; exact (below_size (by repeat (first | (with_reducible first | exact HB.out | apply below_alloc | apply pw_below_drewN | apply below_drew1 | refine below_set ?_ GE346.out) | exact HB.out))) : w.heap.size ≤ gb347)); have n5_ := Aside0.mk ((by rw [hg]; exact Nat.ne_of_lt (blk_lt (g := gb346) (o := .cells #[.int .i64 a0_0, .int .i64 a0_1, .int .i64 a0_2, .int .u8 a0_3, .int .i64 a0_4, .int .u16 a0_5, .int .u8 a0_6, .int .u8 a0_7, .int .u8 a0_8, .int .u8 a0_9, .slice A0_10 l0_10.length c0_10] 44 (0, 0)) (by (with_reducible repeat (first | refine blk_drewN ?_ _ | refine blk_drew ?_ | refine blk_alloc ?_ _)); exact BK346.out)) : gb346 ≠ gb347)); have n6_ := Aside0.mk ((by rw [hg]; exact Nat.ne_of_gt (blk_lt (g := gb346) (o := .cells #[.int .i64 a0_0, .int .i64 a0_1, .int .i64 a0_2, .int .u8 a0_3, .int .i64 a0_4, .int .u16 a0_5, .int .u8 a0_6, .int .u8 a0_7, .int .u8 a0_8, .int .u8 a0_9, .slice A0_10 l0_10.length c0_10] 44 (0, 0)) (by (with_reducible repeat (first | refine blk_drewN ?_ _ | refine blk_drew ?_ | refine blk_alloc ?_ _)); exact BK346.out)) : gb347 ≠ gb346)); clear BK346; clear HB; have BK346 := n0_; have HB := n1_; have BK347 := n2_; have GW347 := n3_; have GE347 := n4_; have NB346_347 := n5_; have NB347_346 := n6_; clear n0_ n1_ n2_ n3_ n4_ n5_ n6_; clear hb hbox hg; have hnb21 := NB346_347.out; have hnc21 := NB347_346.out; have hcz22_0 : w20.cell? ⟨gb346, 0, none⟩ = some (.int .i64 a0_0) := (blk_cell BK346.out 0).trans rfl; have hcz22_1 : w20.cell? ⟨gb346, 1, none⟩ = some (.int .i64 a0_1) := (blk_cell BK346.out 1).trans rfl; have hcz22_2 : w20.cell? ⟨gb346, 2, none⟩ = some (.int .i64 a0_2) := (blk_cell BK346.out 2).trans rfl; have hcz22_3 : w20.cell? ⟨gb346, 3, none⟩ = some (.int .u8 a0_3) := (blk_cell BK346.out 3).trans rfl; have hcz22_4 : w20.cell? ⟨gb346, 4, none⟩ = some (.int .i64 a0_4) := (blk_cell BK346.out 4).trans rfl; have hcz22_5 : w20.cell? ⟨gb346, 5, none⟩ = some (.int .u16 a0_5) := (blk_cell BK346.out 5).trans rfl; have hcz22_6 : w20.cell? ⟨gb346, 6, none⟩ = some (.int .u8 a0_6) := (blk_cell BK346.out 6).trans rfl; have hcz22_7 : w20.cell? ⟨gb346, 7, none⟩ = some (.int .u8 a0_7) := (blk_cell BK346.out 7).trans rfl; have hcz22_8 : w20.cell? ⟨gb346, 8, none⟩ = some (.int .u8 a0_8) := (blk_cell BK346.out 8).trans rfl; have hcz22_9 : w20.cell? ⟨gb346, 9, none⟩ = some (.int .u8 a0_9) := (blk_cell BK346.out 9).trans rfl; have hcz22_10 : w20.cell? ⟨gb346, 10, none⟩ = some (.slice A0_10 l0_10.length c0_10) := (blk_cell BK346.out 10).trans rfl; have hfz22_0 := blk_frozen BK346.out 0; have hfz22_1 := blk_frozen BK346.out 1; have hfz22_2 := blk_frozen BK346.out 2; have hfz22_3 := blk_frozen BK346.out 3; have hfz22_4 := blk_frozen BK346.out 4; have hfz22_5 := blk_frozen BK346.out 5; have hfz22_6 := blk_frozen BK346.out 6; have hfz22_7 := blk_frozen BK346.out 7; have hfz22_8 := blk_frozen BK346.out 8; have hfz22_9 := blk_frozen BK346.out 9; have hfz22_10 := blk_frozen BK346.out 10; have hcz23_0 : w20.cell? ⟨gb347, 0, none⟩ = some (.int .i64 a1_0) := (blk_cell BK347.out 0).trans rfl; have hcz23_1 : w20.cell? ⟨gb347, 1, none⟩ = some (.int .i64 a1_1) := (blk_cell BK347.out 1).trans rfl; have hcz23_2 : w20.cell? ⟨gb347, 2, none⟩ = some (.int .i64 a1_2) := (blk_cell BK347.out 2).trans rfl; have hcz23_3 : w20.cell? ⟨gb347, 3, none⟩ = some (.int .u8 a1_3) := (blk_cell BK347.out 3).trans rfl; have hcz23_4 : w20.cell? ⟨gb347, 4, none⟩ = some (.int .i64 a1_4) := (blk_cell BK347.out 4).trans rfl; have hcz23_5 : w20.cell? ⟨gb347, 5, none⟩ = some (.int .u16 a1_5) := (blk_cell BK347.out 5).trans rfl; have hcz23_6 : w20.cell? ⟨gb347, 6, none⟩ = some (.int .u8 a1_6) := (blk_cell BK347.out 6).trans rfl; have hcz23_7 : w20.cell? ⟨gb347, 7, none⟩ = some (.int .u8 a1_7) := (blk_cell BK347.out 7).trans rfl; have hcz23_8 : w20.cell? ⟨gb347, 8, none⟩ = some (.int .u8 a1_8) := (blk_cell BK347.out 8).trans rfl; have hcz23_9 : w20.cell? ⟨gb347, 9, none⟩ = some (.int .u8 a1_9) := (blk_cell BK347.out 9).trans rfl; have hcz23_10 : w20.cell? ⟨gb347, 10, none⟩ = some (.slice A1_10 l1_10.length c1_10) := (blk_cell BK347.out 10).trans rfl; have hfz23_0 := blk_frozen BK347.out 0; have hfz23_1 := blk_frozen BK347.out 1; have hfz23_2 := blk_frozen BK347.out 2; have hfz23_3 := blk_frozen BK347.out 3; have hfz23_4 := blk_frozen BK347.out 4; have hfz23_5 := blk_frozen BK347.out 5; have hfz23_6 := blk_frozen BK347.out 6; have hfz23_7 := blk_frozen BK347.out 7; have hfz23_8 := blk_frozen BK347.out 8; have hfz23_9 := blk_frozen BK347.out 9; have hfz23_10 := blk_frozen BK347.out 10))
          go_ret
          exact ⟨by first | rfl | (simp [errW_none, errW_some] <;> rfl) | (simp [*, errW_none, errW_some] <;> rfl), by repeat (first | (with_reducible first | exact HB.out | apply below_alloc | apply pw_below_drewN | apply below_drew1 | refine below_set ?_ GE346.out | refine below_set ?_ GE347.out) | exact HB.out)⟩
      · rw [if_neg c5] at H
        have c5b0 : (a0_2 == a1_2) = false := beq_eq_false_iff_ne.mpr c5
        have c5b1 : (a0_2 != a1_2) = true := bne_iff_ne.mpr c5
        obtain rfl := Option.some.inj H
        go_enter Try.func21, Try.ntmps21
        go_wp2_with (first | ((with_reducible refine gate_dst (N := 2) rfl ?_); refine box_event ?hg (N := 2) ?hd (cs := #[.int .i64 a0_0, .int .i64 a0_1, .int .i64 a0_2, .int .u8 a0_3, .int .i64 a0_4, .int .u16 a0_5, .int .u8 a0_6, .int .u8 a0_7, .int .u8 a0_8, .int .u8 a0_9, .slice A0_10 l0_10.length c0_10]) (t := 44) ?hr ?_; (case hd => rfl); (case hg => rfl); (case hr => first | (go_simp; done) | (go_simp; rfl)); intro gb346 hg w24 hbox hb; have n0_ := Aside0.mk (below_step (by repeat (first | (with_reducible first | exact HB.out | apply below_alloc | apply pw_below_drewN | apply below_drew1) | exact HB.out)) hb); have n1_ := Aside0.mk (hbox); have n2_ := Aside0.mk ((by rw [hg]; exact (below_size (by repeat (first | (with_reducible first | exact HB.out | apply below_alloc | apply pw_below_drewN | apply below_drew1) | exact HB.out))) : w.heap.size ≤ gb346)); have n3_ := Aside0.mk ((by rw [hg]; exact (below_size (by repeat (first | (with_reducible first | exact HB.out | apply below_alloc | apply pw_below_drewN | apply below_drew1) | exact HB.out))) : w.heap.size ≤ gb346)); clear HB; have HB := n0_; have BK346 := n1_; have GW346 := n2_; have GE346 := n3_; clear n0_ n1_ n2_ n3_; clear hb hbox hg) | ((with_reducible refine gate_dst (N := 3) rfl ?_); refine box_event ?hg (N := 3) ?hd (cs := #[.int .i64 a1_0, .int .i64 a1_1, .int .i64 a1_2, .int .u8 a1_3, .int .i64 a1_4, .int .u16 a1_5, .int .u8 a1_6, .int .u8 a1_7, .int .u8 a1_8, .int .u8 a1_9, .slice A1_10 l1_10.length c1_10]) (t := 44) ?hr ?_; (case hd => rfl); (case hg => rfl); (case hr => first | (go_simp; done) | (go_simp; rfl)); intro gb347 hg w25 hbox hb; have n0_ := Aside0.mk (blk_below (g := gb346) (o := .cells #[.int .i64 a0_0, .int .i64 a0_1, .int .i64 a0_2, .int .u8 a0_3, .int .i64 a0_4, .int .u16 a0_5, .int .u8 a0_6, .int .u8 a0_7, .int .u8 a0_8, .int .u8 a0_9, .slice A0_10 l0_10.length c0_10] 44 (0, 0)) (by (with_reducible repeat (first | refine blk_drewN ?_ _ | refine blk_drew ?_ | refine blk_alloc ?_ _)); exact BK346.out) hb); have n1_ := Aside0.mk (below_step (by repeat (first | (with_reducible first | exact HB.out | apply below_alloc | apply pw_below_drewN | apply below_drew1 | refine below_set ?_ GE346.out) | exact HB.out)) hb); have n2_ := Aside0.mk (hbox); have n3_ := Aside0.mk ((by rw [hg]; exact (below_size (by repeat (first | (with_reducible first | exact HB.out | apply below_alloc | apply pw_below_drewN | apply below_drew1 | refine below_set ?_ GE346.out) | exact HB.out))) : w.heap.size ≤ gb347)); have n4_ := Aside0.mk ((by rw [hg]; exact (below_size (by repeat (first | (with_reducible first | exact HB.out | apply below_alloc | apply pw_below_drewN | apply below_drew1 | refine below_set ?_ GE346.out) | exact HB.out))) : w.heap.size ≤ gb347)); have n5_ := Aside0.mk ((by rw [hg]; exact Nat.ne_of_lt (blk_lt (g := gb346) (o := .cells #[.int .i64 a0_0, .int .i64 a0_1, .int .i64 a0_2, .int .u8 a0_3, .int .i64 a0_4, .int .u16 a0_5, .int .u8 a0_6, .int .u8 a0_7, .int .u8 a0_8, .int .u8 a0_9, .slice A0_10 l0_10.length c0_10] 44 (0, 0)) (by (with_reducible repeat (first | refine blk_drewN ?_ _ | refine blk_drew ?_ | refine blk_alloc ?_ _)); exact BK346.out)) : gb346 ≠ gb347)); have n6_ := Aside0.mk ((by rw [hg]; exact Nat.ne_of_gt (blk_lt (g := gb346) (o := .cells #[.int .i64 a0_0, .int .i64 a0_1, .int .i64 a0_2, .int .u8 a0_3, .int .i64 a0_4, .int .u16 a0_5, .int .u8 a0_6, .int .u8 a0_7, .int .u8 a0_8, .int .u8 a0_9, .slice A0_10 l0_10.length c0_10] 44 (0, 0)) (by (with_reducible repeat (first | refine blk_drewN ?_ _ | refine blk_drew ?_ | refine blk_alloc ?_ _)); exact BK346.out)) : gb347 ≠ gb346)); clear BK346; clear HB; have BK346 := n0_; have HB := n1_; have BK347 := n2_; have GW347 := n3_; have GE347 := n4_; have NB346_347 := n5_; have NB347_346 := n6_; clear n0_ n1_ n2_ n3_ n4_ n5_ n6_; clear hb hbox hg; have hnb26 := NB346_347.out; have hnc26 := NB347_346.out; have hcz27_0 : w25.cell? ⟨gb346, 0, none⟩ = some (.int .i64 a0_0) := (blk_cell BK346.out 0).trans rfl; have hcz27_1 : w25.cell? ⟨gb346, 1, none⟩ = some (.int .i64 a0_1) := (blk_cell BK346.out 1).trans rfl; have hcz27_2 : w25.cell? ⟨gb346, 2, none⟩ = some (.int .i64 a0_2) := (blk_cell BK346.out 2).trans rfl; have hcz27_3 : w25.cell? ⟨gb346, 3, none⟩ = some (.int .u8 a0_3) := (blk_cell BK346.out 3).trans rfl; have hcz27_4 : w25.cell? ⟨gb346, 4, none⟩ = some (.int .i64 a0_4) := (blk_cell BK346.out 4).trans rfl; have hcz27_5 : w25.cell? ⟨gb346, 5, none⟩ = some (.int .u16 a0_5) := (blk_cell BK346.out 5).trans rfl; have hcz27_6 : w25.cell? ⟨gb346, 6, none⟩ = some (.int .u8 a0_6) := (blk_cell BK346.out 6).trans rfl; have hcz27_7 : w25.cell? ⟨gb346, 7, none⟩ = some (.int .u8 a0_7) := (blk_cell BK346.out 7).trans rfl; have hcz27_8 : w25.cell? ⟨gb346, 8, none⟩ = some (.int .u8 a0_8) := (blk_cell BK346.out 8).trans rfl; have hcz27_9 : w25.cell? ⟨gb346, 9, none⟩ = some (.int .u8 a0_9) := (blk_cell BK346.out 9).trans rfl; have hcz27_10 : w25.cell? ⟨gb346, 10, none⟩ = some (.slice A0_10 l0_10.length c0_10) := (blk_cell BK346.out 10).trans rfl; have hfz27_0 := blk_frozen BK346.out 0; have hfz27_1 := blk_frozen BK346.out 1; have hfz27_2 := blk_frozen BK346.out 2; have hfz27_3 := blk_frozen BK346.out 3; have hfz27_4 := blk_frozen BK346.out 4; have hfz27_5 := blk_frozen BK346.out 5; have hfz27_6 := blk_frozen BK346.out 6; have hfz27_7 := blk_frozen BK346.out 7; have hfz27_8 := blk_frozen BK346.out 8; have hfz27_9 := blk_frozen BK346.out 9; have hfz27_10 := blk_frozen BK346.out 10; have hcz28_0 : w25.cell? ⟨gb347, 0, none⟩ = some (.int .i64 a1_0) := (blk_cell BK347.out 0).trans rfl; have hcz28_1 : w25.cell? ⟨gb347, 1, none⟩ = some (.int .i64 a1_1) := (blk_cell BK347.out 1).trans rfl; have hcz28_2 : w25.cell? ⟨gb347, 2, none⟩ = some (.int .i64 a1_2) := (blk_cell BK347.out 2).trans rfl; have hcz28_3 : w25.cell? ⟨gb347, 3, none⟩ = some (.int .u8 a1_3) := (blk_cell BK347.out 3).trans rfl; have hcz28_4 : w25.cell? ⟨gb347, 4, none⟩ = some (.int .i64 a1_4) := (blk_cell BK347.out 4).trans rfl; have hcz28_5 : w25.cell? ⟨gb347, 5, none⟩ = some (.int .u16 a1_5) := (blk_cell BK347.out 5).trans rfl; have hcz28_6 : w25.cell? ⟨gb347, 6, none⟩ = some (.int .u8 a1_6) := (blk_cell BK347.out 6).trans rfl; have hcz28_7 : w25.cell? ⟨gb347, 7, none⟩ = some (.int .u8 a1_7) := (blk_cell BK347.out 7).trans rfl; have hcz28_8 : w25.cell? ⟨gb347, 8, none⟩ = some (.int .u8 a1_8) := (blk_cell BK347.out 8).trans rfl; have hcz28_9 : w25.cell? ⟨gb347, 9, none⟩ = some (.int .u8 a1_9) := (blk_cell BK347.out 9).trans rfl; have hcz28_10 : w25.cell? ⟨gb347, 10, none⟩ = some (.slice A1_10 l1_10.length c1_10) := (blk_cell BK347.out 10).trans rfl; have hfz28_0 := blk_frozen BK347.out 0; have hfz28_1 := blk_frozen BK347.out 1; have hfz28_2 := blk_frozen BK347.out 2; have hfz28_3 := blk_frozen BK347.out 3; have hfz28_4 := blk_frozen BK347.out 4; have hfz28_5 := blk_frozen BK347.out 5; have hfz28_6 := blk_frozen BK347.out 6; have hfz28_7 := blk_frozen BK347.out 7; have hfz28_8 := blk_frozen BK347.out 8; have hfz28_9 := blk_frozen BK347.out 9; have hfz28_10 := blk_frozen BK347.out 10))
        go_ret
        exact ⟨by first | rfl | (simp [errW_none, errW_some] <;> rfl) | (simp [*, errW_none, errW_some] <;> rfl), by repeat (first | (with_reducible first | exact HB.out | apply below_alloc | apply pw_below_drewN | apply below_drew1 | refine below_set ?_ GE346.out | refine below_set ?_ GE347.out) | exact HB.out)⟩
    · rw [if_neg c4] at H
      have c4b0 : (a0_1 == a1_1) = false := beq_eq_false_iff_ne.mpr c4
      have c4b1 : (a0_1 != a1_1) = true := bne_iff_ne.mpr c4
      obtain rfl := Option.some.inj H
      go_enter Try.func21, Try.ntmps21
      go_wp2_with (first | ((with_reducible refine gate_dst (N := 2) rfl ?_); refine box_event ?hg (N := 2) ?hd (cs := #[.int .i64 a0_0, .int .i64 a0_1, .int .i64 a0_2, .int .u8 a0_3, .int .i64 a0_4, .int .u16 a0_5, .int .u8 a0_6, .int .u8 a0_7, .int .u8 a0_8, .int .u8 a0_9, .slice A0_10 l0_10.length c0_10]) (t := 44) ?hr ?_; (case hd => rfl); (case hg => rfl); (case hr => first | (go_simp; done) | (go_simp; rfl)); intro gb346 hg w29 hbox hb; have n0_ := Aside0.mk (below_step (by repeat (first | (with_reducible first | exact HB.out | apply below_alloc | apply pw_below_drewN | apply below_drew1) | exact HB.out)) hb); have n1_ := Aside0.mk (hbox); have n2_ := Aside0.mk ((by rw [hg]; exact (below_size (by repeat (first | (with_reducible first | exact HB.out | apply below_alloc | apply pw_below_drewN | apply below_drew1) | exact HB.out))) : w.heap.size ≤ gb346)); have n3_ := Aside0.mk ((by rw [hg]; exact (below_size (by repeat (first | (with_reducible first | exact HB.out | apply below_alloc | apply pw_below_drewN | apply below_drew1) | exact HB.out))) : w.heap.size ≤ gb346)); clear HB; have HB := n0_; have BK346 := n1_; have GW346 := n2_; have GE346 := n3_; clear n0_ n1_ n2_ n3_; clear hb hbox hg) | ((with_reducible refine gate_dst (N := 3) rfl ?_); refine box_event ?hg (N := 3) ?hd (cs := #[.int .i64 a1_0, .int .i64 a1_1, .int .i64 a1_2, .int .u8 a1_3, .int .i64 a1_4, .int .u16 a1_5, .int .u8 a1_6, .int .u8 a1_7, .int .u8 a1_8, .int .u8 a1_9, .slice A1_10 l1_10.length c1_10]) (t := 44) ?hr ?_; (case hd => rfl); (case hg => rfl); (case hr => first | (go_simp; done) | (go_simp; rfl)); intro gb347 hg w30 hbox hb; have n0_ := Aside0.mk (blk_below (g := gb346) (o := .cells #[.int .i64 a0_0, .int .i64 a0_1, .int .i64 a0_2, .int .u8 a0_3, .int .i64 a0_4, .int .u16 a0_5, .int .u8 a0_6, .int .u8 a0_7, .int .u8 a0_8, .int .u8 a0_9, .slice A0_10 l0_10.length c0_10] 44 (0, 0)) (by (with_reducible repeat (first | refine blk_drewN ?_ _ | refine blk_drew ?_ | refine blk_alloc ?_ _)); exact BK346.out) hb); have n1_ := Aside0.mk (below_step (by repeat (first | (with_reducible first | exact HB.out | apply below_alloc | apply pw_below_drewN | apply below_drew1 | refine below_set ?_ GE346.out) | exact HB.out)) hb); have n2_ := Aside0.mk (hbox); have n3_ := Aside0.mk ((by rw [hg]; exact (below_size (by repeat (first | (with_reducible first | exact HB.out | apply below_alloc | apply pw_below_drewN | apply below_drew1 | refine below_set ?_ GE346.out) | exact HB.out))) : w.heap.size ≤ gb347)); have n4_ := Aside0.mk ((by rw [hg]; exact (below_size (by repeat (first | (with_reducible first | exact HB.out | apply below_alloc | apply pw_below_drewN | apply below_drew1 | refine below_set ?_ GE346.out) | exact HB.out))) : w.heap.size ≤ gb347)); have n5_ := Aside0.mk ((by rw [hg]; exact Nat.ne_of_lt (blk_lt (g := gb346) (o := .cells #[.int .i64 a0_0, .int .i64 a0_1, .int .i64 a0_2, .int .u8 a0_3, .int .i64 a0_4, .int .u16 a0_5, .int .u8 a0_6, .int .u8 a0_7, .int .u8 a0_8, .int .u8 a0_9, .slice A0_10 l0_10.length c0_10] 44 (0, 0)) (by (with_reducible repeat (first | refine blk_drewN ?_ _ | refine blk_drew ?_ | refine blk_alloc ?_ _)); exact BK346.out)) : gb346 ≠ gb347)); have n6_ := Aside0.mk ((by rw [hg]; exact Nat.ne_of_gt (blk_lt (g := gb346) (o := .cells #[.int .i64 a0_0, .int .i64 a0_1, .int .i64 a0_2, .int .u8 a0_3, .int .i64 a0_4, .int .u16 a0_5, .int .u8 a0_6, .int .u8 a0_7, .int .u8 a0_8, .int .u8 a0_9, .slice A0_10 l0_10.length c0_10] 44 (0, 0)) (by (with_reducible repeat (first | refine blk_drewN ?_ _ | refine blk_drew ?_ | refine blk_alloc ?_ _)); exact BK346.out)) : gb347 ≠ gb346)); clear BK346; clear HB; have BK346 := n0_; have HB := n1_; have BK347 := n2_; have GW347 := n3_; have GE347 := n4_; have NB346_347 := n5_; have NB347_346 := n6_; clear n0_ n1_ n2_ n3_ n4_ n5_ n6_; clear hb hbox hg; have hnb31 := NB346_347.out; have hnc31 := NB347_346.out; have hcz32_0 : w30.cell? ⟨gb346, 0, none⟩ = some (.int .i64 a0_0) := (blk_cell BK346.out 0).trans rfl; have hcz32_1 : w30.cell? ⟨gb346, 1, none⟩ = some (.int .i64 a0_1) := (blk_cell BK346.out 1).trans rfl; have hcz32_2 : w30.cell? ⟨gb346, 2, none⟩ = some (.int .i64 a0_2) := (blk_cell BK346.out 2).trans rfl; have hcz32_3 : w30.cell? ⟨gb346, 3, none⟩ = some (.int .u8 a0_3) := (blk_cell BK346.out 3).trans rfl; have hcz32_4 : w30.cell? ⟨gb346, 4, none⟩ = some (.int .i64 a0_4) := (blk_cell BK346.out 4).trans rfl; have hcz32_5 : w30.cell? ⟨gb346, 5, none⟩ = some (.int .u16 a0_5) := (blk_cell BK346.out 5).trans rfl; have hcz32_6 : w30.cell? ⟨gb346, 6, none⟩ = some (.int .u8 a0_6) := (blk_cell BK346.out 6).trans rfl; have hcz32_7 : w30.cell? ⟨gb346, 7, none⟩ = some (.int .u8 a0_7) := (blk_cell BK346.out 7).trans rfl; have hcz32_8 : w30.cell? ⟨gb346, 8, none⟩ = some (.int .u8 a0_8) := (blk_cell BK346.out 8).trans rfl; have hcz32_9 : w30.cell? ⟨gb346, 9, none⟩ = some (.int .u8 a0_9) := (blk_cell BK346.out 9).trans rfl; have hcz32_10 : w30.cell? ⟨gb346, 10, none⟩ = some (.slice A0_10 l0_10.length c0_10) := (blk_cell BK346.out 10).trans rfl; have hfz32_0 := blk_frozen BK346.out 0; have hfz32_1 := blk_frozen BK346.out 1; have hfz32_2 := blk_frozen BK346.out 2; have hfz32_3 := blk_frozen BK346.out 3; have hfz32_4 := blk_frozen BK346.out 4; have hfz32_5 := blk_frozen BK346.out 5; have hfz32_6 := blk_frozen BK346.out 6; have hfz32_7 := blk_frozen BK346.out 7; have hfz32_8 := blk_frozen BK346.out 8; have hfz32_9 := blk_frozen BK346.out 9; have hfz32_10 := blk_frozen BK346.out 10; have hcz33_0 : w30.cell? ⟨gb347, 0, none⟩ = some (.int .i64 a1_0) := (blk_cell BK347.out 0).trans rfl; have hcz33_1 : w30.cell? ⟨gb347, 1, none⟩ = some (.int .i64 a1_1) := (blk_cell BK347.out 1).trans rfl; have hcz33_2 : w30.cell? ⟨gb347, 2, none⟩ = some (.int .i64 a1_2) := (blk_cell BK347.out 2).trans rfl; have hcz33_3 : w30.cell? ⟨gb347, 3, none⟩ = some (.int .u8 a1_3) := (blk_cell BK347.out 3).trans rfl; have hcz33_4 : w30.cell? ⟨gb347, 4, none⟩ = some (.int .i64 a1_4) := (blk_cell BK347.out 4).trans rfl; have hcz33_5 : w30.cell? ⟨gb347, 5, none⟩ = some (.int .u16 a1_5) := (blk_cell BK347.out 5).trans rfl; have hcz33_6 : w30.cell? ⟨gb347, 6, none⟩ = some (.int .u8 a1_6) := (blk_cell BK347.out 6).trans rfl; have hcz33_7 : w30.cell? ⟨gb347, 7, none⟩ = some (.int .u8 a1_7) := (blk_cell BK347.out 7).trans rfl; have hcz33_8 : w30.cell? ⟨gb347, 8, none⟩ = some (.int .u8 a1_8) := (blk_cell BK347.out 8).trans rfl; have hcz33_9 : w30.cell? ⟨gb347, 9, none⟩ = some (.int .u8 a1_9) := (blk_cell BK347.out 9).trans rfl; have hcz33_10 : w30.cell? ⟨gb347, 10, none⟩ = some (.slice A1_10 l1_10.length c1_10) := (blk_cell BK347.out 10).trans rfl; have hfz33_0 := blk_frozen BK347.out 0; have hfz33_1 := blk_frozen BK347.out 1; have hfz33_2 := blk_frozen BK347.out 2; have hfz33_3 := blk_frozen BK347.out 3; have hfz33_4 := blk_frozen BK347.out 4; have hfz33_5 := blk_frozen BK347.out 5; have hfz33_6 := blk_frozen BK347.out 6; have hfz33_7 := blk_frozen BK347.out 7; have hfz33_8 := blk_frozen BK347.out 8; have hfz33_9 := blk_frozen BK347.out 9; have hfz33_10 := blk_frozen BK347.out 10))
      go_ret
      exact ⟨by first | rfl | (simp [errW_none, errW_some] <;> rfl) | (simp [*, errW_none, errW_some] <;> rfl), by repeat (first | (with_reducible first | exact HB.out | apply below_alloc | apply pw_below_drewN | apply below_drew1 | refine below_set ?_ GE346.out | refine below_set ?_ GE347.out) | exact HB.out)⟩
  · rw [if_neg c3] at H
    have c3b0 : (a0_0 == a1_0) = false := beq_eq_false_iff_ne.mpr c3
    have c3b1 : (a0_0 != a1_0) = true := bne_iff_ne.mpr c3
    obtain rfl := Option.some.inj H
    go_enter Try.func21, Try.ntmps21
    go_wp2_with (first | ((with_reducible refine gate_dst (N := 2) rfl ?_); refine box_event ?hg (N := 2) ?hd (cs := #[.int .i64 a0_0, .int .i64 a0_1, .int .i64 a0_2, .int .u8 a0_3, .int .i64 a0_4, .int .u16 a0_5, .int .u8 a0_6, .int .u8 a0_7, .int .u8 a0_8, .int .u8 a0_9, .slice A0_10 l0_10.length c0_10]) (t := 44) ?hr ?_; (case hd => rfl); (case hg => rfl); (case hr => first | (go_simp; done) | (go_simp; rfl)); intro gb346 hg w34 hbox hb; have n0_ := Aside0.mk (below_step (by repeat (first | (with_reducible first | exact HB.out | apply below_alloc | apply pw_below_drewN | apply below_drew1) | exact HB.out)) hb); have n1_ := Aside0.mk (hbox); have n2_ := Aside0.mk ((by rw [hg]; exact (below_size (by repeat (first | (with_reducible first | exact HB.out | apply below_alloc | apply pw_below_drewN | apply below_drew1) | exact HB.out))) : w.heap.size ≤ gb346)); have n3_ := Aside0.mk ((by rw [hg]; exact (below_size (by repeat (first | (with_reducible first | exact HB.out | apply below_alloc | apply pw_below_drewN | apply below_drew1) | exact HB.out))) : w.heap.size ≤ gb346)); clear HB; have HB := n0_; have BK346 := n1_; have GW346 := n2_; have GE346 := n3_; clear n0_ n1_ n2_ n3_; clear hb hbox hg) | ((with_reducible refine gate_dst (N := 3) rfl ?_); refine box_event ?hg (N := 3) ?hd (cs := #[.int .i64 a1_0, .int .i64 a1_1, .int .i64 a1_2, .int .u8 a1_3, .int .i64 a1_4, .int .u16 a1_5, .int .u8 a1_6, .int .u8 a1_7, .int .u8 a1_8, .int .u8 a1_9, .slice A1_10 l1_10.length c1_10]) (t := 44) ?hr ?_; (case hd => rfl); (case hg => rfl); (case hr => first | (go_simp; done) | (go_simp; rfl)); intro gb347 hg w35 hbox hb; have n0_ := Aside0.mk (blk_below (g := gb346) (o := .cells #[.int .i64 a0_0, .int .i64 a0_1, .int .i64 a0_2, .int .u8 a0_3, .int .i64 a0_4, .int .u16 a0_5, .int .u8 a0_6, .int .u8 a0_7, .int .u8 a0_8, .int .u8 a0_9, .slice A0_10 l0_10.length c0_10] 44 (0, 0)) (by (with_reducible repeat (first | refine blk_drewN ?_ _ | refine blk_drew ?_ | refine blk_alloc ?_ _)); exact BK346.out) hb); have n1_ := Aside0.mk (below_step (by repeat (first | (with_reducible first | exact HB.out | apply below_alloc | apply pw_below_drewN | apply below_drew1 | refine below_set ?_ GE346.out) | exact HB.out)) hb); have n2_ := Aside0.mk (hbox); have n3_ := Aside0.mk ((by rw [hg]; exact (below_size (by repeat (first | (with_reducible first | exact HB.out | apply below_alloc | apply pw_below_drewN | apply below_drew1 | refine below_set ?_ GE346.out) | exact HB.out))) : w.heap.size ≤ gb347)); have n4_ := Aside0.mk ((by rw [hg]; exact (below_size (by repeat (first | (with_reducible first | exact HB.out | apply below_alloc | apply pw_below_drewN | apply below_drew1 | refine below_set ?_ GE346.out) | exact HB.out))) : w.heap.size ≤ gb347)); have n5_ := Aside0.mk ((by rw [hg]; exact Nat.ne_of_lt (blk_lt (g := gb346) (o := .cells #[.int .i64 a0_0, .int .i64 a0_1, .int .i64 a0_2, .int .u8 a0_3, .int .i64 a0_4, .int .u16 a0_5, .int .u8 a0_6, .int .u8 a0_7, .int .u8 a0_8, .int .u8 a0_9, .slice A0_10 l0_10.length c0_10] 44 (0, 0)) (by (with_reducible repeat (first | refine blk_drewN ?_ _ | refine blk_drew ?_ | refine blk_alloc ?_ _)); exact BK346.out)) : gb346 ≠ gb347)); have n6_ := Aside0.mk ((by rw [hg]; exact Nat.ne_of_gt (blk_lt (g := gb346) (o := .cells #[.int .i64 a0_0, .int .i64 a0_1, .int .i64 a0_2, .int .u8 a0_3, .int .i64 a0_4, .int .u16 a0_5, .int .u8 a0_6, .int .u8 a0_7, .int .u8 a0_8, .int .u8 a0_9, .slice A0_10 l0_10.length c0_10] 44 (0, 0)) (by (with_reducible repeat (first | refine blk_drewN ?_ _ | refine blk_drew ?_ | refine blk_alloc ?_ _)); exact BK346.out)) : gb347 ≠ gb346)); clear BK346; clear HB; have BK346 := n0_; have HB := n1_; have BK347 := n2_; have GW347 := n3_; have GE347 := n4_; have NB346_347 := n5_; have NB347_346 := n6_; clear n0_ n1_ n2_ n3_ n4_ n5_ n6_; clear hb hbox hg; have hnb36 := NB346_347.out; have hnc36 := NB347_346.out; have hcz37_0 : w35.cell? ⟨gb346, 0, none⟩ = some (.int .i64 a0_0) := (blk_cell BK346.out 0).trans rfl; have hcz37_1 : w35.cell? ⟨gb346, 1, none⟩ = some (.int .i64 a0_1) := (blk_cell BK346.out 1).trans rfl; have hcz37_2 : w35.cell? ⟨gb346, 2, none⟩ = some (.int .i64 a0_2) := (blk_cell BK346.out 2).trans rfl; have hcz37_3 : w35.cell? ⟨gb346, 3, none⟩ = some (.int .u8 a0_3) := (blk_cell BK346.out 3).trans rfl; have hcz37_4 : w35.cell? ⟨gb346, 4, none⟩ = some (.int .i64 a0_4) := (blk_cell BK346.out 4).trans rfl; have hcz37_5 : w35.cell? ⟨gb346, 5, none⟩ = some (.int .u16 a0_5) := (blk_cell BK346.out 5).trans rfl; have hcz37_6 : w35.cell? ⟨gb346, 6, none⟩ = some (.int .u8 a0_6) := (blk_cell BK346.out 6).trans rfl; have hcz37_7 : w35.cell? ⟨gb346, 7, none⟩ = some (.int .u8 a0_7) := (blk_cell BK346.out 7).trans rfl; have hcz37_8 : w35.cell? ⟨gb346, 8, none⟩ = some (.int .u8 a0_8) := (blk_cell BK346.out 8).trans rfl; have hcz37_9 : w35.cell? ⟨gb346, 9, none⟩ = some (.int .u8 a0_9) := (blk_cell BK346.out 9).trans rfl; have hcz37_10 : w35.cell? ⟨gb346, 10, none⟩ = some (.slice A0_10 l0_10.length c0_10) := (blk_cell BK346.out 10).trans rfl; have hfz37_0 := blk_frozen BK346.out 0; have hfz37_1 := blk_frozen BK346.out 1; have hfz37_2 := blk_frozen BK346.out 2; have hfz37_3 := blk_frozen BK346.out 3; have hfz37_4 := blk_frozen BK346.out 4; have hfz37_5 := blk_frozen BK346.out 5; have hfz37_6 := blk_frozen BK346.out 6; have hfz37_7 := blk_frozen BK346.out 7; have hfz37_8 := blk_frozen BK346.out 8; have hfz37_9 := blk_frozen BK346.out 9; have hfz37_10 := blk_frozen BK346.out 10; have hcz38_0 : w35.cell? ⟨gb347, 0, none⟩ = some (.int .i64 a1_0) := (blk_cell BK347.out 0).trans rfl; have hcz38_1 : w35.cell? ⟨gb347, 1, none⟩ = some (.int .i64 a1_1) := (blk_cell BK347.out 1).trans rfl; have hcz38_2 : w35.cell? ⟨gb347, 2, none⟩ = some (.int .i64 a1_2) := (blk_cell BK347.out 2).trans rfl; have hcz38_3 : w35.cell? ⟨gb347, 3, none⟩ = some (.int .u8 a1_3) := (blk_cell BK347.out 3).trans rfl; have hcz38_4 : w35.cell? ⟨gb347, 4, none⟩ = some (.int .i64 a1_4) := (blk_cell BK347.out 4).trans rfl; have hcz38_5 : w35.cell? ⟨gb347, 5, none⟩ = some (.int .u16 a1_5) := (blk_cell BK347.out 5).trans rfl; have hcz38_6 : w35.cell? ⟨gb347, 6, none⟩ = some (.int .u8 a1_6) := (blk_cell BK347.out 6).trans rfl; have hcz38_7 : w35.cell? ⟨gb347, 7, none⟩ = some (.int .u8 a1_7) := (blk_cell BK347.out 7).trans rfl; have hcz38_8 : w35.cell? ⟨gb347, 8, none⟩ = some (.int .u8 a1_8) := (blk_cell BK347.out 8).trans rfl; have hcz38_9 : w35.cell? ⟨gb347, 9, none⟩ = some (.int .u8 a1_9) := (blk_cell BK347.out 9).trans rfl; have hcz38_10 : w35.cell? ⟨gb347, 10, none⟩ = some (.slice A1_10 l1_10.length c1_10) := (blk_cell BK347.out 10).trans rfl; have hfz38_0 := blk_frozen BK347.out 0; have hfz38_1 := blk_frozen BK347.out 1; have hfz38_2 := blk_frozen BK347.out 2; have hfz38_3 := blk_frozen BK347.out 3; have hfz38_4 := blk_frozen BK347.out 4; have hfz38_5 := blk_frozen BK347.out 5; have hfz38_6 := blk_frozen BK347.out 6; have hfz38_7 := blk_frozen BK347.out 7; have hfz38_8 := blk_frozen BK347.out 8; have hfz38_9 := blk_frozen BK347.out 9; have hfz38_10 := blk_frozen BK347.out 10))
    go_ret
    exact ⟨by first | rfl | (simp [errW_none, errW_some] <;> rfl) | (simp [*, errW_none, errW_some] <;> rfl), by repeat (first | (with_reducible first | exact HB.out | apply below_alloc | apply pw_below_drewN | apply below_drew1 | refine below_set ?_ GE346.out | refine below_set ?_ GE347.out) | exact HB.out)⟩

end Go.Proofs.Ytgjckdkpkgmbkaa.P

/- Contracts, by hand, of slices.EqualFunc at script.same, and script.Same. -/
namespace Go.Proofs.Ytgjckdkpkgmbkaa.Hand
open Go.RowKit Go.Proofs.Ytgjckdkpkgmbkaa.P Go.Proofs.YtgjckdkpkgmbkaaW Go.Proofs.YtgjckdkpkgmbkaaW.PrintWords Go.Proofs.YtgjckdkpkgmbkaaW.PrintLast Go.Proofs.YtgjckdkpkgmbkaaW.PrintMore
set_option linter.unusedVariables false
set_option linter.unusedSimpArgs false
def sameAt (l0 l1 : List S44) (x : Int) : Option Bool :=
  script_same.f (rd_T44 l0 x).f0 (rd_T44 l0 x).f1 (rd_T44 l0 x).f2 (rd_T44 l0 x).f3 (rd_T44 l0 x).f4.f0 (rd_T44 l0 x).f4.f1 (rd_T44 l0 x).f4.f2.f0 (rd_T44 l0 x).f4.f2.f1 (rd_T44 l0 x).f4.f2.f2 (rd_T44 l0 x).f4.f2.f3 (rd_T44 l0 x).f5
    (rd_T44 l1 x).f0 (rd_T44 l1 x).f1 (rd_T44 l1 x).f2 (rd_T44 l1 x).f3 (rd_T44 l1 x).f4.f0 (rd_T44 l1 x).f4.f1 (rd_T44 l1 x).f4.f2.f0 (rd_T44 l1 x).f4.f2.f1 (rd_T44 l1 x).f4.f2.f2 (rd_T44 l1 x).f4.f2.f3 (rd_T44 l1 x).f5
def script_Same.l0 (l0 l1 : List S44) : Nat → Int → Option Bool
  | 0, x => if x < (l0.length : Int) then none else some true
  | n + 1, x => if x < (l0.length : Int) then (sameAt l0 l1 x).bind fun t => if t = true then script_Same.l0 l0 l1 n (x + 1) else some false else some true
def script_Same.f (l0 l1 : List S44) : Option Bool := if l0.length = l1.length then script_Same.l0 l0 l1 l0.length 0 else some false
set_option maxHeartbeats 8000000 in
set_option maxRecDepth 100000 in
theorem equalFunc.calls (A0 : Option Addr) (c0 : Nat) (l0 : List S44) (A1 : Option Addr) (c1 : Nat) (l1 : List S44) (r : Bool) (w : World) (hr0 : Kd.C k44 w A0 l0.length l0) (hr1 : Kd.C k44 w A1 l1.length l1) (h : script_Same.f l0 l1 = some r) :
    Calls Try.prog 20 #[.slice A0 l0.length c0, .slice A1 l1.length c1, .func (.func 21) #[] #[]] w fun e w' => e = .returned (.bool r) ∧ Below w.heap.size w w' := by
  have HR0 := Aside0.mk hr0
  have HR1 := Aside0.mk hr1
  have hm0 : l0.length ≤ 9223372036854775807 := Kd.C_max hr0
  clear hr0 hr1
  unfold script_Same.f at h
  by_cases hl : l0.length = l1.length
  · rw [if_pos hl] at h
    have HH := Aside0.mk h
    have HL := Aside0.mk hl
    have hl0 : ((l0.length : Int) != (l1.length : Int)) = false := by simp [hl]
    clear h hl
    go_enter Try.func20, Try.ntmps20
    go_wp2
    go_loopg [17] l0.length (fun kq v17 w' => ∃ (x : Int), v17 = .int .i64 x ∧ Aside0 (script_Same.l0 l0 l1 kq x = some r) ∧ Aside0 (0 ≤ x ∧ x ≤ l0.length) ∧ Aside0 (Below w.heap.size w w'))
    case atStart => exact ⟨0, rfl, HH, ⟨by omega, by omega⟩, ⟨Below.refl _ _⟩⟩
    case round =>
      obtain ⟨x, rfl, HA, HX, HB⟩ := hrel
      have hx0 := HX.out.1
      cases gk with
      | zero =>
        have H := HA.out
        clear HA
        simp only [script_Same.l0] at H
        by_cases c : x < (l0.length : Int)
        · rw [if_pos c] at H
          cases H
        · rw [if_neg c] at H
          have c0b : decide (x < (l0.length : Int)) = false := decide_eq_false c
          obtain rfl := Option.some.inj H
          clear c H hx0
          go_wp2
          go_ret
          exact ⟨rfl, HB.out⟩
      | succ n =>
        have H := HA.out
        clear HA
        simp only [script_Same.l0] at H
        by_cases c : x < (l0.length : Int)
        · rw [if_pos c] at H
          obtain ⟨t, ht, H⟩ := Option.bind_eq_some_iff.1 H
          unfold sameAt at ht
          have HT := Aside0.mk ht
          have H' := Aside0.mk H
          have pa : 0 ≤ x := HX.out.1
          have pb : 0 ≤ x := HX.out.1
          have qa : x < (l0.length : Int) := c
          have qb : x < (l1.length : Int) := by have := HL.out; omega
          have c0b : decide (x < (l0.length : Int)) = true := decide_eq_true c
          clear c ht H HL hx0
          obtain ⟨ada, Aa, ca, ea, ha0, ha1, ha2, ha3, ha4, ha5, ha6, ha7, ha8, ha9, ha10, hla, hia⟩ := at_T44 HR0.out x pa qa
          cases ea
          replace ha0 := (HB.out.cell (World.block_lt_of_cell? w _ ha0)).trans ha0
          replace ha1 := (HB.out.cell (World.block_lt_of_cell? w _ ha1)).trans ha1
          replace ha2 := (HB.out.cell (World.block_lt_of_cell? w _ ha2)).trans ha2
          replace ha3 := (HB.out.cell (World.block_lt_of_cell? w _ ha3)).trans ha3
          replace ha4 := (HB.out.cell (World.block_lt_of_cell? w _ ha4)).trans ha4
          replace ha5 := (HB.out.cell (World.block_lt_of_cell? w _ ha5)).trans ha5
          replace ha6 := (HB.out.cell (World.block_lt_of_cell? w _ ha6)).trans ha6
          replace ha7 := (HB.out.cell (World.block_lt_of_cell? w _ ha7)).trans ha7
          replace ha8 := (HB.out.cell (World.block_lt_of_cell? w _ ha8)).trans ha8
          replace ha9 := (HB.out.cell (World.block_lt_of_cell? w _ ha9)).trans ha9
          replace ha10 := (HB.out.cell (World.block_lt_of_cell? w _ ha10)).trans ha10
          have hlta := World.block_lt_of_cell? _ _ ha0
          have HIa := Aside0.mk hia
          have HCa := Aside0.mk hla
          clear hia hla
          obtain ⟨adb, Ab, cb, eb, hb0, hb1, hb2, hb3, hb4, hb5, hb6, hb7, hb8, hb9, hb10, hlb, hib⟩ := at_T44 HR1.out x pb qb
          cases eb
          replace hb0 := (HB.out.cell (World.block_lt_of_cell? w _ hb0)).trans hb0
          replace hb1 := (HB.out.cell (World.block_lt_of_cell? w _ hb1)).trans hb1
          replace hb2 := (HB.out.cell (World.block_lt_of_cell? w _ hb2)).trans hb2
          replace hb3 := (HB.out.cell (World.block_lt_of_cell? w _ hb3)).trans hb3
          replace hb4 := (HB.out.cell (World.block_lt_of_cell? w _ hb4)).trans hb4
          replace hb5 := (HB.out.cell (World.block_lt_of_cell? w _ hb5)).trans hb5
          replace hb6 := (HB.out.cell (World.block_lt_of_cell? w _ hb6)).trans hb6
          replace hb7 := (HB.out.cell (World.block_lt_of_cell? w _ hb7)).trans hb7
          replace hb8 := (HB.out.cell (World.block_lt_of_cell? w _ hb8)).trans hb8
          replace hb9 := (HB.out.cell (World.block_lt_of_cell? w _ hb9)).trans hb9
          replace hb10 := (HB.out.cell (World.block_lt_of_cell? w _ hb10)).trans hb10
          have hltb := World.block_lt_of_cell? _ _ hb0
          have HIb := Aside0.mk hib
          have HCb := Aside0.mk hlb
          clear hib hlb
          replace pa := eq_true pa
          replace qa := eq_true qa
          replace qb := eq_true qb
          clear pb
          cases t
          · have hr_ : some false = some r := by have h_ := H'.out; simpa using h_
            obtain rfl := Option.some.inj hr_
            clear hr_ H'
            go_wp2_with (go_at_call 21; (with_reducible refine (script_same.calls _ _ _ _ _ _ _ _ _ _ _ _ _ _ _ _ _ _ _ _ _ _ _ _ _ _ false _ ?s1 HCa.out ?s2 HCb.out HT.out).mono ?_); (case s1 => repeat (first | exact Kd.C_below HIa.out HB.out | (with_reducible refine Kd.C_alloc ?_ _))); (case s2 => repeat (first | exact Kd.C_below HIb.out HB.out | (with_reducible refine Kd.C_alloc ?_ _))); rintro e w9 ⟨rfl, hb⟩; have HB9 := Aside0.mk (below_step (by repeat (first | exact HB.out | apply below_alloc)) hb : Below w.heap.size w w9); clear hb)
            go_ret
            exact ⟨rfl, HB9.out⟩
          · have H2 := Aside0.mk (show script_Same.l0 l0 l1 n (x + 1) = some r by have h_ := H'.out; simpa using h_)
            have hx1 : x + 1 ≤ 9223372036854775807 := by have := of_eq_true qa; omega
            clear H'
            go_wp2_with (go_at_call 21; (with_reducible refine (script_same.calls _ _ _ _ _ _ _ _ _ _ _ _ _ _ _ _ _ _ _ _ _ _ _ _ _ _ true _ ?s1 HCa.out ?s2 HCb.out HT.out).mono ?_); (case s1 => repeat (first | exact Kd.C_below HIa.out HB.out | (with_reducible refine Kd.C_alloc ?_ _))); (case s2 => repeat (first | exact Kd.C_below HIb.out HB.out | (with_reducible refine Kd.C_alloc ?_ _))); rintro e w9 ⟨rfl, hb⟩; have HB9 := Aside0.mk (below_step (by repeat (first | exact HB.out | apply below_alloc)) hb : Below w.heap.size w w9); clear hb)
            go_roundg n
            case measure => omega
            case rel => exact ⟨x + 1, by first | rfl | (have h1_ := of_eq_true pa; have h2_ := of_eq_true qa; refine congrArg (Value.int .i64) ?_; unfold wrap64; omega) | (simp; done), H2, ⟨by have := of_eq_true pa; omega, by have := of_eq_true qa; omega⟩, HB9⟩
        · rw [if_neg c] at H
          have c0b : decide (x < (l0.length : Int)) = false := decide_eq_false c
          obtain rfl := Option.some.inj H
          clear c H hx0
          go_wp2
          go_ret
          exact ⟨rfl, HB.out⟩
  · rw [if_neg hl] at h
    obtain rfl := Option.some.inj h
    have hl0 : ((l0.length : Int) != (l1.length : Int)) = true := by simp only [bne_iff_ne, ne_eq, Int.ofNat_inj]; exact hl
    clear h hl
    go_enter Try.func20, Try.ntmps20
    go_wp2
    go_ret
    exact ⟨rfl, Below.refl _ _⟩
set_option maxHeartbeats 8000000 in
set_option maxRecDepth 100000 in
theorem script_Same.calls (A0 : Option Addr) (c0 : Nat) (l0 : List S44) (A1 : Option Addr) (c1 : Nat) (l1 : List S44) (r : Bool) (w : World) (hr0 : Kd.C k44 w A0 l0.length l0) (hc0 : l0.length ≤ c0) (hr1 : Kd.C k44 w A1 l1.length l1) (hc1 : l1.length ≤ c1) (h : script_Same.f l0 l1 = some r) :
    Calls Try.prog 9 #[.slice A0 l0.length c0, .slice A1 l1.length c1] w fun e w' => e = .returned (.bool r) ∧ Below w.heap.size w w' := by
  have HR0 := Aside0.mk hr0
  have HR1 := Aside0.mk hr1
  have HH := Aside0.mk h
  clear hr0 hr1 h hc0 hc1
  go_enter Try.func9, Try.ntmps9
  go_wp2_with (go_at_call 20; (with_reducible refine (equalFunc.calls _ _ _ _ _ _ r _ HR0.out HR1.out HH.out).mono ?_); rintro e w9 ⟨rfl, hb⟩; have HB9 := Aside0.mk hb; clear hb)
  go_ret
  exact ⟨rfl, HB9.out⟩
end Go.Proofs.Ytgjckdkpkgmbkaa.Hand

-- Written by xprint.py (a program of this session's, over the kit's printer) out of the translation. Not trusted: Lean checks it.
namespace Go.Proofs.Ytgjckdkpkgmbkaa.P
open Go.RowKit Go.Proofs.YtgjckdkpkgmbkaaW.PrintWords Go.Proofs.YtgjckdkpkgmbkaaW.PrintLast Go.Proofs.YtgjckdkpkgmbkaaW.PrintMore Go.Proofs.Ytgjckdkpkgmbkaa.Hand
attribute [local go_sem] max2_int min2_int max_two min_two max_three min_three max_four min_four   -- for this text's walks alone
set_option linter.unusedVariables false
set_option linter.unusedSimpArgs false

/-! ### thwartlaw33_ScriptBack: function 3 -/
mutual
def thwartlaw33_ScriptBack.j0 : Nat → List (S41) → List Int → Bool → Option (Bool)
  | 0, _, _, _ => none
  | k + 1, x0, x1, x19 => if x19 = true then ((thwartlaw33_alive.f k).bind fun t319 => (some t319)) else ((thwartlaw33_all.f k x0).bind fun t320 => ((script_Lay.f k t320).bind fun bt323 => (if bt323.2 = 0 then ((script_Parse.f k bt323.1).bind fun bt327 => ((thwartlaw33_all.f k x0).bind fun t331 => ((script_Same.f bt327.1 t331).bind fun t334 => (if t334 = true then (if bt327.2 = 0 then (thwartlaw33_ScriptBack.j1 k x1) else (some false)) else (some false))))) else (thwartlaw33_ScriptBack.j1 k x1))))
def thwartlaw33_ScriptBack.j1 : Nat → List Int → Option (Bool)
  | 0, _ => none
  | k + 1, x1 => (script_Parse.f k x1).bind fun bt335 => (if bt335.2 = 0 then ((script_Lay.f k bt335.1).bind fun bt339 => (if bt339.2 = 0 then ((thwartref01_Same.f k bt339.1 x1).bind fun t343 => (if t343 = true then ((thwartlaw33_alive.f k).bind fun t344 => (some t344)) else (some false))) else (some false))) else (if (bt335.1.length : Int) = 0 then ((thwartlaw33_alive.f k).bind fun t345 => (some t345)) else (some false)))
end
def thwartlaw33_ScriptBack.f (k : Nat) (l0 : List (S41)) (l1 : List Int) : Option (Bool) := (thwartlaw33_far.f k l0).bind fun t318 => (if t318 = true then (thwartlaw33_ScriptBack.j0 k l0 l1 true) else (thwartlaw33_ScriptBack.j0 k l0 l1 (decide ((l1.length : Int) > 2000))))
theorem thwartlaw33_ScriptBack.mono_l : ∀ k, (∀ y0 y1 y2, LeO (thwartlaw33_ScriptBack.j0 k y0 y1 y2) (thwartlaw33_ScriptBack.j0 (k + 1) y0 y1 y2)) ∧ (∀ y0, LeO (thwartlaw33_ScriptBack.j1 k y0) (thwartlaw33_ScriptBack.j1 (k + 1) y0))
  | 0 => ⟨fun _ _ _ r h => by simp [thwartlaw33_ScriptBack.j0] at h, fun _ r h => by simp [thwartlaw33_ScriptBack.j1] at h⟩
  | k + 1 => by
    obtain ⟨ih0, ih1⟩ := thwartlaw33_ScriptBack.mono_l k
    refine ⟨?_, ?_⟩
    · intro y0 y1 y2
      unfold thwartlaw33_ScriptBack.j0
      repeat' first
      | (with_reducible exact ih0 _ _ _)
      | (with_reducible exact ih1 _)
      | (with_reducible exact script_Lay.mono _ _)
      | (with_reducible exact script_Parse.mono _ _)
      | (with_reducible exact thwartlaw33_alive.mono _)
      | (with_reducible exact thwartlaw33_all.mono _ _)
      | (with_reducible exact thwartlaw33_far.mono _ _)
      | (with_reducible exact thwartref01_Same.mono _ _ _)
      | (with_reducible exact LeO.refl _)
      | (with_reducible exact LeO.none _)
      | (with_reducible refine LeO.ite ?_ ?_)
      | (with_reducible refine LeO.bind ?_ (fun _ => ?_))
      | exact ih0 _ _ _
      | exact ih1 _
      | exact script_Lay.mono _ _
      | exact script_Parse.mono _ _
      | exact thwartlaw33_alive.mono _
      | exact thwartlaw33_all.mono _ _
      | exact thwartlaw33_far.mono _ _
      | exact thwartref01_Same.mono _ _ _
      | exact LeO.none _
      | refine LeO.ite ?_ ?_
      | refine LeO.bind ?_ (fun _ => ?_)
    · intro y0
      unfold thwartlaw33_ScriptBack.j1
      repeat' first
      | (with_reducible exact ih0 _ _ _)
      | (with_reducible exact ih1 _)
      | (with_reducible exact script_Lay.mono _ _)
      | (with_reducible exact script_Parse.mono _ _)
      | (with_reducible exact thwartlaw33_alive.mono _)
      | (with_reducible exact thwartlaw33_all.mono _ _)
      | (with_reducible exact thwartlaw33_far.mono _ _)
      | (with_reducible exact thwartref01_Same.mono _ _ _)
      | (with_reducible exact LeO.refl _)
      | (with_reducible exact LeO.none _)
      | (with_reducible refine LeO.ite ?_ ?_)
      | (with_reducible refine LeO.bind ?_ (fun _ => ?_))
      | exact ih0 _ _ _
      | exact ih1 _
      | exact script_Lay.mono _ _
      | exact script_Parse.mono _ _
      | exact thwartlaw33_alive.mono _
      | exact thwartlaw33_all.mono _ _
      | exact thwartlaw33_far.mono _ _
      | exact thwartref01_Same.mono _ _ _
      | exact LeO.none _
      | refine LeO.ite ?_ ?_
      | refine LeO.bind ?_ (fun _ => ?_)
theorem thwartlaw33_ScriptBack.mono : ∀ a0 a1 k, LeO (thwartlaw33_ScriptBack.f k a0 a1) (thwartlaw33_ScriptBack.f (k + 1) a0 a1) := by
  intro a0 a1 k
  obtain ⟨ih0, ih1⟩ := thwartlaw33_ScriptBack.mono_l k
  unfold thwartlaw33_ScriptBack.f
  repeat' first
      | (with_reducible exact ih0 _ _ _)
      | (with_reducible exact ih1 _)
      | (with_reducible exact script_Lay.mono _ _)
      | (with_reducible exact script_Parse.mono _ _)
      | (with_reducible exact thwartlaw33_alive.mono _)
      | (with_reducible exact thwartlaw33_all.mono _ _)
      | (with_reducible exact thwartlaw33_far.mono _ _)
      | (with_reducible exact thwartref01_Same.mono _ _ _)
      | (with_reducible exact LeO.refl _)
      | (with_reducible exact LeO.none _)
      | (with_reducible refine LeO.ite ?_ ?_)
      | (with_reducible refine LeO.bind ?_ (fun _ => ?_))
      | exact ih0 _ _ _
      | exact ih1 _
      | exact script_Lay.mono _ _
      | exact script_Parse.mono _ _
      | exact thwartlaw33_alive.mono _
      | exact thwartlaw33_all.mono _ _
      | exact thwartlaw33_far.mono _ _
      | exact thwartref01_Same.mono _ _ _
      | exact LeO.none _
      | refine LeO.ite ?_ ?_
      | refine LeO.bind ?_ (fun _ => ?_)
set_option maxHeartbeats 8000000 in
set_option maxRecDepth 100000 in
theorem thwartlaw33_ScriptBack.calls (k : Nat) (A0 : Option Addr) (c0 : Nat) (l0 : List (S41)) (A1 : Option Addr) (c1 : Nat) (l1 : List Int) (r : Bool) (w : World) (hr0 : Kd.C k41 w A0 l0.length l0) (hc0 : l0.length ≤ c0) (hr1 : Kd.C (Kd.int .u8) w A1 l1.length l1) (hc1 : l1.length ≤ c1) (htrue : r = true) (h : thwartlaw33_ScriptBack.f k l0 l1 = some r) :
    Calls Try.prog 3 #[.slice A0 l0.length c0, .slice A1 l1.length c1] w fun e w' => e = .returned (.bool r) ∧ Below w.heap.size w w' := by
  have HT := Aside0.mk htrue
  clear htrue
  have HR0 := Aside0.mk hr0
  have HC0 := Aside0.mk hc0
  clear hr0 hc0
  have HR1 := Aside0.mk hr1
  have HC1 := Aside0.mk hc1
  clear hr1 hc1
  have HB := Aside0.mk (Below.refl w.heap.size w)
  have H : ((thwartlaw33_far.f k l0).bind fun t318 => (if t318 = true then (thwartlaw33_ScriptBack.j0 k l0 l1 true) else (thwartlaw33_ScriptBack.j0 k l0 l1 (decide ((l1.length : Int) > 2000))))) = some r := h
  clear h
  have HC3 := Aside0.mk H
  clear H
  go_enter Try.func3, Try.ntmps3
  go_upto_region 1 with (fail)
  go_cut [19] (fun v19 wc => ∃ (kq : Nat) (x19_2 : Bool), v19 = .bool x19_2 ∧ Aside0 (thwartlaw33_ScriptBack.j0 kq l0 l1 x19_2 = some r) ∧ Aside0 (kq ≤ k) ∧ Aside0 (Below w.heap.size w wc))
  case first =>
    have H := HC3.out
    clear HC3
    replace H := Option.bind_eq_some_iff.mp H
    obtain ⟨t318, A40, H⟩ := H
    replace H : (if t318 = true then (thwartlaw33_ScriptBack.j0 k l0 l1 true) else (thwartlaw33_ScriptBack.j0 k l0 l1 (decide ((l1.length : Int) > 2000)))) = some r := H
    have A4 := Aside0.mk A40
    clear A40
    by_cases c5 : t318 = true
    · subst c5
      have H1 : (thwartlaw33_ScriptBack.j0 k l0 l1 true) = some r := by rw [if_pos rfl] at H; exact H
      clear H
      have H := H1
      clear H1
      have H' := Aside0.mk H
      clear H
      go_wp2_with (first | ((with_reducible refine gate_callee (f := 4) rfl ?_); refine goesL_ (some 14) rfl rfl Try.func4 (by kernel_rfl) rfl #[.slice A0 l0.length c0] rfl (by (try simp only [List.map_toArray, List.map_cons, List.map_nil]); first | done | rfl | (simp only [List.length_drop, List.length_take]; rfl)) ?_; (with_reducible refine (thwartlaw33_far.calls k _ _ l0 true _ ?side1 ?side2 A4.out).mono ?_); (case side1 => repeat (first | exact (Kd.C_below HR0.out HB.out) | (with_reducible refine Kd.C_alloc ?_ _) | (with_reducible refine Kd.C_drewN ?_ _) | (with_reducible refine Kd.C_drew ?_))); (case side2 => exact HC0.out); rintro e w6 ⟨rfl, hb⟩; refine ⟨_, rfl, ?_⟩; have n0_ := Aside0.mk (below_step (by repeat (first | (with_reducible first | exact HB.out | apply below_alloc | apply pw_below_drewN | apply below_drew1) | exact HB.out)) hb); clear HB; have HB := n0_; clear n0_; (try clear hb); (try clear hb2); (try clear hk); (try clear hi)))
      go_meet
      case rel => exact ⟨_, (true), (by first | rfl | (simp; done) | (simp [*]; done)), H', ⟨by first | omega | exact Nat.le_refl _⟩, ⟨by repeat (first | (with_reducible first | exact HB.out | apply below_alloc | apply pw_below_drewN | apply below_drew1) | exact HB.out)⟩⟩
    · replace c5 := Bool.eq_false_iff.mpr c5
      subst c5
      have H1 : (thwartlaw33_ScriptBack.j0 k l0 l1 (decide ((l1.length : Int) > 2000))) = some r := by rw [if_neg (show ¬ (false = true) by decide)] at H; exact H
      clear H
      have H := H1
      clear H1
      have H' := Aside0.mk H
      clear H
      go_wp2_with (first | ((with_reducible refine gate_callee (f := 4) rfl ?_); refine goesL_ (some 14) rfl rfl Try.func4 (by kernel_rfl) rfl #[.slice A0 l0.length c0] rfl (by (try simp only [List.map_toArray, List.map_cons, List.map_nil]); first | done | rfl | (simp only [List.length_drop, List.length_take]; rfl)) ?_; (with_reducible refine (thwartlaw33_far.calls k _ _ l0 false _ ?side1 ?side2 A4.out).mono ?_); (case side1 => repeat (first | exact (Kd.C_below HR0.out HB.out) | (with_reducible refine Kd.C_alloc ?_ _) | (with_reducible refine Kd.C_drewN ?_ _) | (with_reducible refine Kd.C_drew ?_))); (case side2 => exact HC0.out); rintro e w7 ⟨rfl, hb⟩; refine ⟨_, rfl, ?_⟩; have n0_ := Aside0.mk (below_step (by repeat (first | (with_reducible first | exact HB.out | apply below_alloc | apply pw_below_drewN | apply below_drew1) | exact HB.out)) hb); clear HB; have HB := n0_; clear n0_; (try clear hb); (try clear hb2); (try clear hk); (try clear hi)))
      go_meet
      case rel => exact ⟨_, (decide ((l1.length : Int) > 2000)), (by first | rfl | (simp; done) | (simp [*]; done)), H', ⟨by first | omega | exact Nat.le_refl _⟩, ⟨by repeat (first | (with_reducible first | exact HB.out | apply below_alloc | apply pw_below_drewN | apply below_drew1) | exact HB.out)⟩⟩
  case rest =>
    clear HC3
    try clear c1
    try clear p2
    try clear c3
    try clear c4
    try clear c5
    obtain ⟨kq, x19_2, rfl, HA, HJ2, HB⟩ := hcut
    cases kq with
    | zero => exact absurd HA.out (by simp [thwartlaw33_ScriptBack.j0])
    | succ kj2 =>
      have H := HA.out
      clear HA
      simp only [thwartlaw33_ScriptBack.j0] at H
      by_cases c8 : x19_2 = true
      · subst c8
        have H1 : ((thwartlaw33_alive.f kj2).bind fun t319 => (some t319)) = some r := by rw [if_pos rfl] at H; exact H
        clear H
        have H := H1
        clear H1
        replace H := Option.bind_eq_some_iff.mp H
        obtain ⟨t319, A90, H⟩ := H
        replace H : (some t319) = some r := H
        have A9 := Aside0.mk A90
        clear A90
        obtain rfl := Option.some.inj H
        go_wp2_with (first | ((with_reducible refine gate_callee (f := 5) rfl ?_); refine goesL_ (some 20) rfl rfl Try.func5 (by kernel_rfl) rfl #[] rfl (by (try simp only [List.map_toArray, List.map_cons, List.map_nil]); first | done | rfl | (simp only [List.length_drop, List.length_take]; rfl)) ?_; (with_reducible refine (thwartlaw33_alive.calls kj2  t319 _ HT.out A9.out).mono ?_); rintro e w10 ⟨rfl, hb⟩; refine ⟨_, rfl, ?_⟩; have n0_ := Aside0.mk (below_step (by repeat (first | (with_reducible first | exact HB.out | apply below_alloc | apply pw_below_drewN | apply below_drew1) | exact HB.out)) hb); clear HB; have HB := n0_; clear n0_; (try clear hb); (try clear hb2); (try clear hk); (try clear hi)))
        go_ret
        exact ⟨by first | rfl | (simp [errW_none, errW_some] <;> rfl) | (simp [*, errW_none, errW_some] <;> rfl), by repeat (first | (with_reducible first | exact HB.out | apply below_alloc | apply pw_below_drewN | apply below_drew1) | exact HB.out)⟩
      · replace c8 := Bool.eq_false_iff.mpr c8
        subst c8
        have H1 : ((thwartlaw33_all.f kj2 l0).bind fun t320 => ((script_Lay.f kj2 t320).bind fun bt323 => (if bt323.2 = 0 then ((script_Parse.f kj2 bt323.1).bind fun bt327 => ((thwartlaw33_all.f kj2 l0).bind fun t331 => ((script_Same.f bt327.1 t331).bind fun t334 => (if t334 = true then (if bt327.2 = 0 then (thwartlaw33_ScriptBack.j1 kj2 l1) else (some false)) else (some false))))) else (thwartlaw33_ScriptBack.j1 kj2 l1)))) = some r := by rw [if_neg (show ¬ (false = true) by decide)] at H; exact H
        clear H
        have H := H1
        clear H1
        replace H := Option.bind_eq_some_iff.mp H
        obtain ⟨t320, A110, H⟩ := H
        replace H : ((script_Lay.f kj2 t320).bind fun bt323 => (if bt323.2 = 0 then ((script_Parse.f kj2 bt323.1).bind fun bt327 => ((thwartlaw33_all.f kj2 l0).bind fun t331 => ((script_Same.f bt327.1 t331).bind fun t334 => (if t334 = true then (if bt327.2 = 0 then (thwartlaw33_ScriptBack.j1 kj2 l1) else (some false)) else (some false))))) else (thwartlaw33_ScriptBack.j1 kj2 l1))) = some r := H
        have A11 := Aside0.mk A110
        clear A110
        replace H := Option.bind_eq_some_iff.mp H
        obtain ⟨⟨t323, t324⟩, A120, H⟩ := H
        replace H : (if t324 = 0 then ((script_Parse.f kj2 t323).bind fun bt327 => ((thwartlaw33_all.f kj2 l0).bind fun t331 => ((script_Same.f bt327.1 t331).bind fun t334 => (if t334 = true then (if bt327.2 = 0 then (thwartlaw33_ScriptBack.j1 kj2 l1) else (some false)) else (some false))))) else (thwartlaw33_ScriptBack.j1 kj2 l1)) = some r := H
        have A12 := Aside0.mk A120
        clear A120
        have HC13 := Aside0.mk H
        clear H
        go_upto_if 28 with (first | ((with_reducible refine gate_callee (f := 7) rfl ?_); refine goesL_ (some 23) rfl rfl Try.func7 (by kernel_rfl) rfl #[.slice A0 l0.length c0] rfl (by (try simp only [List.map_toArray, List.map_cons, List.map_nil]); first | done | rfl | (simp only [List.length_drop, List.length_take]; rfl)) ?_; (with_reducible refine (thwartlaw33_all.calls kj2 (fun k_ => k_ < w.heap.size) _ _ l0 t320 _ ?side1 A11.out).mono ?_); (case side1 => exact Kd.V_mk HC0.out (Kd.F_below (Kd.C_F k41_heap HR0.out) (by repeat (first | (with_reducible first | exact HB.out | apply below_alloc | apply pw_below_drewN | apply below_drew1) | exact HB.out)))); rintro e w14 ⟨v321, rfl, ho0, hb⟩; refine ⟨_, rfl, ?_⟩; have n0_ := Aside0.mk (Kd.N_lower (Kd.N_mono (ok' := fun k_ => True) ho0 (fun k_ hk_ => trivial)) (below_size (by repeat (first | (with_reducible first | exact HB.out | apply below_alloc | apply pw_below_drewN | apply below_drew1) | exact HB.out)))); have n1_ := Aside0.mk (below_step (by repeat (first | (with_reducible first | exact HB.out | apply below_alloc | apply pw_below_drewN | apply below_drew1) | exact HB.out)) hb); clear HB; have HO322 := n0_; have HB := n1_; clear n0_ n1_; (try clear hb); (try clear hb2); (try clear hk); (try clear hi); (try clear ho0); obtain ⟨Ao15, co15, eo15⟩ := Kd.N_slice HO322.out; subst eo15) | ((with_reducible refine gate_callee (f := 6) rfl ?_); refine goesL_ (some 24) rfl rfl Try.func6 (by kernel_rfl) rfl #[.slice Ao15 t320.length co15] rfl (by (try simp only [List.map_toArray, List.map_cons, List.map_nil]); first | done | rfl | (simp only [List.length_drop, List.length_take]; rfl)) ?_; (with_reducible refine (script_Lay.calls kj2 _ _ t320 t323 t324 _ ?side1 ?side2 A12.out).mono ?_); (case side1 => repeat (first | exact (Kd.N_reads' HO322.out).2.2 | (with_reducible refine Kd.C_alloc ?_ _) | (with_reducible refine Kd.C_drewN ?_ _) | (with_reducible refine Kd.C_drew ?_))); (case side2 => exact (Kd.N_reads' HO322.out).2.1); rintro e w16 ⟨v325, rfl, ho0, hb⟩; refine ⟨_, rfl, ?_⟩; have n0_ := Aside0.mk (Kd.N_elder' (by (with_reducible repeat (first | apply Kd.N_alloc | apply Kd.N_drewN | apply Kd.N_drew)); exact HO322.out) (Kd.R_base ho0) hb); have n1_ := Aside0.mk (Kd.R_lower ho0 (below_size (by repeat (first | (with_reducible first | exact HB.out | apply below_alloc | apply pw_below_drewN | apply below_drew1) | exact HB.out)))); have n2_ := Aside0.mk (below_step (by repeat (first | (with_reducible first | exact HB.out | apply below_alloc | apply pw_below_drewN | apply below_drew1) | exact HB.out)) hb); clear HO322; clear HB; have HO322 := n0_; have HO326 := n1_; have HB := n2_; clear n0_ n1_ n2_; (try clear hb); (try clear hb2); (try clear hk); (try clear hi); (try clear ho0)))
        (try simp only [Act.put, List.setIfInBounds_toArray, List.set_cons_zero, List.set_cons_succ])
        go_cut [] (fun wc => ∃ (kq : Nat), Aside0 (thwartlaw33_ScriptBack.j1 kq l1 = some r) ∧ Aside0 (kq ≤ kj2) ∧ Aside0 (Below w.heap.size w wc))
        case first =>
          have H := HC13.out
          clear HC13
          by_cases c17 : t324 = 0
          · rw [if_pos c17] at H
            have c17b0 : (t324 == 0) = true := beq_iff_eq.mpr c17
            have c17b1 : (t324 != 0) = false := bne_eq_false_iff_eq.mpr c17
            clear c17
            (first | rw [c17b0] | (simp only [i64_w, i32_w]; rw [c17b0]) | skip)
            replace H := Option.bind_eq_some_iff.mp H
            obtain ⟨⟨t327, t328⟩, A180, H⟩ := H
            replace H : ((thwartlaw33_all.f kj2 l0).bind fun t331 => ((script_Same.f t327 t331).bind fun t334 => (if t334 = true then (if t328 = 0 then (thwartlaw33_ScriptBack.j1 kj2 l1) else (some false)) else (some false)))) = some r := H
            have A18 := Aside0.mk A180
            clear A180
            replace H := Option.bind_eq_some_iff.mp H
            obtain ⟨t331, A190, H⟩ := H
            replace H : ((script_Same.f t327 t331).bind fun t334 => (if t334 = true then (if t328 = 0 then (thwartlaw33_ScriptBack.j1 kj2 l1) else (some false)) else (some false))) = some r := H
            have A19 := Aside0.mk A190
            clear A190
            replace H := Option.bind_eq_some_iff.mp H
            obtain ⟨t334, A200, H⟩ := H
            replace H : (if t334 = true then (if t328 = 0 then (thwartlaw33_ScriptBack.j1 kj2 l1) else (some false)) else (some false)) = some r := H
            have A20 := Aside0.mk A200
            clear A200
            by_cases c21 : t334 = true
            · subst c21
              have H1 : (if t328 = 0 then (thwartlaw33_ScriptBack.j1 kj2 l1) else (some false)) = some r := by rw [if_pos rfl] at H; exact H
              clear H
              have H := H1
              clear H1
              by_cases c22 : t328 = 0
              · rw [if_pos c22] at H
                have c22b0 : (t328 == 0) = true := beq_iff_eq.mpr c22
                have c22b1 : (t328 != 0) = false := bne_eq_false_iff_eq.mpr c22
                clear c22
                have H' := Aside0.mk H
                clear H
                obtain ⟨Ao23, co23, eo23⟩ := Kd.R_slice HO326.out
                subst eo23
                go_wp2_with (first | ((with_reducible refine gate_callee (f := 8) rfl ?_); refine goesL_ (some 31) rfl rfl Try.func8 (by kernel_rfl) rfl #[.slice Ao23 t323.length co23] rfl (by (try simp only [List.map_toArray, List.map_cons, List.map_nil]); first | done | rfl | (simp only [List.length_drop, List.length_take]; rfl)) ?_; (with_reducible refine (script_Parse.calls kj2 _ _ t323 t327 t328 _ ?side1 ?side2 A18.out).mono ?_); (case side1 => repeat (first | exact (Kd.R_reads' HO326.out).2.2 | (with_reducible refine Kd.C_alloc ?_ _) | (with_reducible refine Kd.C_drewN ?_ _) | (with_reducible refine Kd.C_drew ?_))); (case side2 => exact (Kd.R_reads' HO326.out).2.1); rintro e w24 ⟨v329, rfl, ho0, hb⟩; refine ⟨_, rfl, ?_⟩; have n0_ := Aside0.mk (Kd.N_elder' (by (with_reducible repeat (first | apply Kd.N_alloc | apply Kd.N_drewN | apply Kd.N_drew)); exact HO322.out) (Kd.S_base ho0) hb); have n1_ := Aside0.mk (Kd.R_below (by (with_reducible repeat (first | apply Kd.R_alloc | apply Kd.R_drewN | apply Kd.R_drew)); exact HO326.out) hb); have n2_ := Aside0.mk (Kd.N_lower (Kd.N_mono (ok' := fun k_ => some k_ ≠ (.slice Ao15 t320.length co15 : Value).ownBlock ∧ some k_ ≠ (.slice Ao23 t323.length co23 : Value).ownBlock) (Kd.S_N (Kd.S_bound ho0)) (fun k_ hk_ => ⟨(Kd.fresh' (Kd.N_lt (by (with_reducible repeat (first | apply Kd.N_alloc | apply Kd.N_drewN | apply Kd.N_drew)); exact HO322.out)) k_ hk_.2.1), (Kd.fresh' (Kd.R_lt (by (with_reducible repeat (first | apply Kd.R_alloc | apply Kd.R_drewN | apply Kd.R_drew)); exact HO326.out)) k_ hk_.2.1)⟩)) (below_size (by repeat (first | (with_reducible first | exact HB.out | apply below_alloc | apply pw_below_drewN | apply below_drew1) | exact HB.out)))); have n3_ := Aside0.mk (below_step (by repeat (first | (with_reducible first | exact HB.out | apply below_alloc | apply pw_below_drewN | apply below_drew1) | exact HB.out)) hb); clear HO322; clear HO326; clear HB; have HO322 := n0_; have HO326 := n1_; have HO330 := n2_; have HB := n3_; clear n0_ n1_ n2_ n3_; (try clear hb); (try clear hb2); (try clear hk); (try clear hi); (try clear ho0)) | ((with_reducible refine gate_callee (f := 7) rfl ?_); refine goesL_ (some 36) rfl rfl Try.func7 (by kernel_rfl) rfl #[.slice A0 l0.length c0] rfl (by (try simp only [List.map_toArray, List.map_cons, List.map_nil]); first | done | rfl | (simp only [List.length_drop, List.length_take]; rfl)) ?_; (with_reducible refine (thwartlaw33_all.calls kj2 (fun k_ => k_ < w.heap.size) _ _ l0 t331 _ ?side1 A19.out).mono ?_); (case side1 => exact Kd.V_mk HC0.out (Kd.F_below (Kd.C_F k41_heap HR0.out) (by repeat (first | (with_reducible first | exact HB.out | apply below_alloc | apply pw_below_drewN | apply below_drew1) | exact HB.out)))); rintro e w25 ⟨v332, rfl, ho0, hb⟩; refine ⟨_, rfl, ?_⟩; have n0_ := Aside0.mk (Kd.N_elder' (by (with_reducible repeat (first | apply Kd.N_alloc | apply Kd.N_drewN | apply Kd.N_drew)); exact HO322.out) (Kd.N_base ho0) hb); have n1_ := Aside0.mk (Kd.R_below (by (with_reducible repeat (first | apply Kd.R_alloc | apply Kd.R_drewN | apply Kd.R_drew)); exact HO326.out) hb); have n2_ := Aside0.mk (Kd.N_elder' (by (with_reducible repeat (first | apply Kd.N_alloc | apply Kd.N_drewN | apply Kd.N_drew)); exact HO330.out) (Kd.N_base ho0) hb); have n3_ := Aside0.mk (Kd.N_lower (Kd.N_mono (ok' := fun k_ => some k_ ≠ (.slice Ao15 t320.length co15 : Value).ownBlock ∧ some k_ ≠ (.slice Ao23 t323.length co23 : Value).ownBlock ∧ some k_ ≠ (v329 : Value).ownBlock) ho0 (fun k_ hk_ => ⟨Or.elim hk_ (fun hs_ => fun e_ => Nat.not_le.2 hs_ (Kd.N_base HO322.out k_ e_.symm)) (fun hn_ => (Kd.fresh' (Kd.N_lt (by (with_reducible repeat (first | apply Kd.N_alloc | apply Kd.N_drewN | apply Kd.N_drew)); exact HO322.out)) k_ hn_)), Or.elim hk_ (fun hs_ => fun e_ => Nat.not_le.2 hs_ (Kd.R_base HO326.out k_ e_.symm)) (fun hn_ => (Kd.fresh' (Kd.R_lt (by (with_reducible repeat (first | apply Kd.R_alloc | apply Kd.R_drewN | apply Kd.R_drew)); exact HO326.out)) k_ hn_)), Or.elim hk_ (fun hs_ => fun e_ => Nat.not_le.2 hs_ (Kd.N_base HO330.out k_ e_.symm)) (fun hn_ => (Kd.fresh' (Kd.N_lt (by (with_reducible repeat (first | apply Kd.N_alloc | apply Kd.N_drewN | apply Kd.N_drew)); exact HO330.out)) k_ hn_))⟩)) (below_size (by repeat (first | (with_reducible first | exact HB.out | apply below_alloc | apply pw_below_drewN | apply below_drew1) | exact HB.out)))); have n4_ := Aside0.mk (below_step (by repeat (first | (with_reducible first | exact HB.out | apply below_alloc | apply pw_below_drewN | apply below_drew1) | exact HB.out)) hb); clear HO322; clear HO326; clear HO330; clear HB; have HO322 := n0_; have HO326 := n1_; have HO330 := n2_; have HO333 := n3_; have HB := n4_; clear n0_ n1_ n2_ n3_ n4_; (try clear hb); (try clear hb2); (try clear hk); (try clear hi); (try clear ho0); obtain ⟨Ao26, co26, eo26⟩ := Kd.N_slice HO330.out; subst eo26; obtain ⟨Ao27, co27, eo27⟩ := Kd.N_slice HO333.out; subst eo27) | ((with_reducible refine gate_callee (f := 9) rfl ?_); refine goesL_ (some 37) rfl rfl Try.func9 (by kernel_rfl) rfl #[.slice Ao26 t327.length co26, .slice Ao27 t331.length co27] rfl (by (try simp only [List.map_toArray, List.map_cons, List.map_nil]); first | done | rfl | (simp only [List.length_drop, List.length_take]; rfl)) ?_; (with_reducible refine (script_Same.calls _ _ t327 _ _ t331 true _ ?side1 ?side2 ?side3 ?side4 A20.out).mono ?_); (case side1 => repeat (first | exact (Kd.N_reads' HO330.out).2.2 | (with_reducible refine Kd.C_alloc ?_ _) | (with_reducible refine Kd.C_drewN ?_ _) | (with_reducible refine Kd.C_drew ?_))); (case side2 => exact (Kd.N_reads' HO330.out).2.1); (case side3 => repeat (first | exact (Kd.N_reads' HO333.out).2.2 | (with_reducible refine Kd.C_alloc ?_ _) | (with_reducible refine Kd.C_drewN ?_ _) | (with_reducible refine Kd.C_drew ?_))); (case side4 => exact (Kd.N_reads' HO333.out).2.1); rintro e w28 ⟨rfl, hb⟩; refine ⟨_, rfl, ?_⟩; have n0_ := Aside0.mk (Kd.N_below (by (with_reducible repeat (first | apply Kd.N_alloc | apply Kd.N_drewN | apply Kd.N_drew)); exact HO322.out) hb); have n1_ := Aside0.mk (Kd.R_below (by (with_reducible repeat (first | apply Kd.R_alloc | apply Kd.R_drewN | apply Kd.R_drew)); exact HO326.out) hb); have n2_ := Aside0.mk (Kd.N_below (by (with_reducible repeat (first | apply Kd.N_alloc | apply Kd.N_drewN | apply Kd.N_drew)); exact HO330.out) hb); have n3_ := Aside0.mk (Kd.N_below (by (with_reducible repeat (first | apply Kd.N_alloc | apply Kd.N_drewN | apply Kd.N_drew)); exact HO333.out) hb); have n4_ := Aside0.mk (below_step (by repeat (first | (with_reducible first | exact HB.out | apply below_alloc | apply pw_below_drewN | apply below_drew1) | exact HB.out)) hb); clear HO322; clear HO326; clear HO330; clear HO333; clear HB; have HO322 := n0_; have HO326 := n1_; have HO330 := n2_; have HO333 := n3_; have HB := n4_; clear n0_ n1_ n2_ n3_ n4_; (try clear hb); (try clear hb2); (try clear hk); (try clear hi)))
                go_meet
                case rel => exact ⟨_, H', ⟨by have := HJ2.out; first | omega | exact Nat.le_refl _⟩, ⟨by repeat (first | (with_reducible first | exact HB.out | apply below_alloc | apply pw_below_drewN | apply below_drew1) | exact HB.out)⟩⟩
              · rw [if_neg c22] at H
                have c22b0 : (t328 == 0) = false := beq_eq_false_iff_ne.mpr c22
                have c22b1 : (t328 != 0) = true := bne_iff_ne.mpr c22
                exact absurd (H.trans (congrArg some HT.out)) (by simp)
            · replace c21 := Bool.eq_false_iff.mpr c21
              subst c21
              have H1 : (some false) = some r := by rw [if_neg (show ¬ (false = true) by decide)] at H; exact H
              clear H
              have H := H1
              clear H1
              exact absurd (H.trans (congrArg some HT.out)) (by simp)
          · rw [if_neg c17] at H
            have c17b0 : (t324 == 0) = false := beq_eq_false_iff_ne.mpr c17
            have c17b1 : (t324 != 0) = true := bne_iff_ne.mpr c17
            (first | rw [c17b0] | (simp only [i64_w, i32_w]; rw [c17b0]) | skip)
            have H' := Aside0.mk H
            clear H
            go_wp2
            go_meet
            case rel => exact ⟨_, H', ⟨by have := HJ2.out; first | omega | exact Nat.le_refl _⟩, ⟨by repeat (first | (with_reducible first | exact HB.out | apply below_alloc | apply pw_below_drewN | apply below_drew1) | exact HB.out)⟩⟩
        case rest =>
          clear HC13
          try clear c1
          try clear c2
          try clear p2
          try clear c3
          try clear c4
          try clear c5
          try clear c6
          try clear c7
          try clear c8
          try clear c9
          try clear c17
          try clear c17b0
          try clear c17b1
          try clear c21
          try clear c22
          try clear c22b0
          try clear c22b1
          try clear p2
          obtain ⟨kq, HA, HJ12, HB⟩ := hcut
          cases kq with
          | zero => exact absurd HA.out (by simp [thwartlaw33_ScriptBack.j1])
          | succ kj12 =>
            have H := HA.out
            clear HA
            simp only [thwartlaw33_ScriptBack.j1] at H
            replace H := Option.bind_eq_some_iff.mp H
            obtain ⟨⟨t335, t336⟩, A410, H⟩ := H
            replace H : (if t336 = 0 then ((script_Lay.f kj12 t335).bind fun bt339 => (if bt339.2 = 0 then ((thwartref01_Same.f kj12 bt339.1 l1).bind fun t343 => (if t343 = true then ((thwartlaw33_alive.f kj12).bind fun t344 => (some t344)) else (some false))) else (some false))) else (if (t335.length : Int) = 0 then ((thwartlaw33_alive.f kj12).bind fun t345 => (some t345)) else (some false))) = some r := H
            have A41 := Aside0.mk A410
            clear A410
            by_cases c42 : t336 = 0
            · rw [if_pos c42] at H
              have c42b0 : (t336 == 0) = true := beq_iff_eq.mpr c42
              have c42b1 : (t336 != 0) = false := bne_eq_false_iff_eq.mpr c42
              clear c42
              replace H := Option.bind_eq_some_iff.mp H
              obtain ⟨⟨t339, t340⟩, A430, H⟩ := H
              replace H : (if t340 = 0 then ((thwartref01_Same.f kj12 t339 l1).bind fun t343 => (if t343 = true then ((thwartlaw33_alive.f kj12).bind fun t344 => (some t344)) else (some false))) else (some false)) = some r := H
              have A43 := Aside0.mk A430
              clear A430
              by_cases c44 : t340 = 0
              · rw [if_pos c44] at H
                have c44b0 : (t340 == 0) = true := beq_iff_eq.mpr c44
                have c44b1 : (t340 != 0) = false := bne_eq_false_iff_eq.mpr c44
                clear c44
                replace H := Option.bind_eq_some_iff.mp H
                obtain ⟨t343, A450, H⟩ := H
                replace H : (if t343 = true then ((thwartlaw33_alive.f kj12).bind fun t344 => (some t344)) else (some false)) = some r := H
                have A45 := Aside0.mk A450
                clear A450
                by_cases c46 : t343 = true
                · subst c46
                  have H1 : ((thwartlaw33_alive.f kj12).bind fun t344 => (some t344)) = some r := by rw [if_pos rfl] at H; exact H
                  clear H
                  have H := H1
                  clear H1
                  replace H := Option.bind_eq_some_iff.mp H
                  obtain ⟨t344, A470, H⟩ := H
                  replace H : (some t344) = some r := H
                  have A47 := Aside0.mk A470
                  clear A470
                  obtain rfl := Option.some.inj H
                  go_wp2_with (first | ((with_reducible refine gate_callee (f := 8) rfl ?_); refine goesL_ (some 45) rfl rfl Try.func8 (by kernel_rfl) rfl #[.slice A1 l1.length c1] rfl (by (try simp only [List.map_toArray, List.map_cons, List.map_nil]); first | done | rfl | (simp only [List.length_drop, List.length_take]; rfl)) ?_; (with_reducible refine (script_Parse.calls kj12 _ _ l1 t335 t336 _ ?side1 ?side2 A41.out).mono ?_); (case side1 => repeat (first | exact (Kd.C_below HR1.out HB.out) | (with_reducible refine Kd.C_alloc ?_ _) | (with_reducible refine Kd.C_drewN ?_ _) | (with_reducible refine Kd.C_drew ?_))); (case side2 => exact HC1.out); rintro e w48 ⟨v337, rfl, ho0, hb⟩; refine ⟨_, rfl, ?_⟩; have n0_ := Aside0.mk (Kd.N_lower (Kd.N_mono (ok' := fun k_ => True) (Kd.S_N (Kd.S_bound ho0)) (fun k_ hk_ => trivial)) (below_size (by repeat (first | (with_reducible first | exact HB.out | apply below_alloc | apply pw_below_drewN | apply below_drew1) | exact HB.out)))); have n1_ := Aside0.mk (below_step (by repeat (first | (with_reducible first | exact HB.out | apply below_alloc | apply pw_below_drewN | apply below_drew1) | exact HB.out)) hb); clear HB; have HO338 := n0_; have HB := n1_; clear n0_ n1_; (try clear hb); (try clear hb2); (try clear hk); (try clear hi); (try clear ho0); obtain ⟨Ao49, co49, eo49⟩ := Kd.N_slice HO338.out; subst eo49) | ((with_reducible refine gate_callee (f := 6) rfl ?_); refine goesL_ (some 58) rfl rfl Try.func6 (by kernel_rfl) rfl #[.slice Ao49 t335.length co49] rfl (by (try simp only [List.map_toArray, List.map_cons, List.map_nil]); first | done | rfl | (simp only [List.length_drop, List.length_take]; rfl)) ?_; (with_reducible refine (script_Lay.calls kj12 _ _ t335 t339 t340 _ ?side1 ?side2 A43.out).mono ?_); (case side1 => repeat (first | exact (Kd.N_reads' HO338.out).2.2 | (with_reducible refine Kd.C_alloc ?_ _) | (with_reducible refine Kd.C_drewN ?_ _) | (with_reducible refine Kd.C_drew ?_))); (case side2 => exact (Kd.N_reads' HO338.out).2.1); rintro e w50 ⟨v341, rfl, ho0, hb⟩; refine ⟨_, rfl, ?_⟩; have n0_ := Aside0.mk (Kd.N_elder' (by (with_reducible repeat (first | apply Kd.N_alloc | apply Kd.N_drewN | apply Kd.N_drew)); exact HO338.out) (Kd.R_base ho0) hb); have n1_ := Aside0.mk (Kd.R_lower ho0 (below_size (by repeat (first | (with_reducible first | exact HB.out | apply below_alloc | apply pw_below_drewN | apply below_drew1) | exact HB.out)))); have n2_ := Aside0.mk (below_step (by repeat (first | (with_reducible first | exact HB.out | apply below_alloc | apply pw_below_drewN | apply below_drew1) | exact HB.out)) hb); clear HO338; clear HB; have HO338 := n0_; have HO342 := n1_; have HB := n2_; clear n0_ n1_ n2_; (try clear hb); (try clear hb2); (try clear hk); (try clear hi); (try clear ho0); obtain ⟨Ao51, co51, eo51⟩ := Kd.R_slice HO342.out; subst eo51) | (go_at_call 10; (with_reducible refine (thwartref01_Same.calls kj12 _ _ t339 _ _ l1 true _ ?side1 ?side2 ?side3 ?side4 A45.out).mono ?_); (case side1 => repeat (first | exact (Kd.R_reads' HO342.out).2.2 | (with_reducible refine Kd.C_alloc ?_ _) | (with_reducible refine Kd.C_drewN ?_ _) | (with_reducible refine Kd.C_drew ?_))); (case side2 => exact (Kd.R_reads' HO342.out).2.1); (case side3 => repeat (first | exact (Kd.C_below HR1.out HB.out) | (with_reducible refine Kd.C_alloc ?_ _) | (with_reducible refine Kd.C_drewN ?_ _) | (with_reducible refine Kd.C_drew ?_))); (case side4 => exact HC1.out); rintro e w' ⟨rfl, ⟨nd, rfl⟩⟩) | (go_at_call 5; (with_reducible refine (thwartlaw33_alive.calls kj12  t344 _ HT.out A47.out).mono ?_); rintro e w52 ⟨rfl, hb⟩; have n0_ := Aside0.mk (Kd.N_below (by (with_reducible repeat (first | apply Kd.N_alloc | apply Kd.N_drewN | apply Kd.N_drew)); exact HO338.out) hb); have n1_ := Aside0.mk (Kd.R_below (by (with_reducible repeat (first | apply Kd.R_alloc | apply Kd.R_drewN | apply Kd.R_drew)); exact HO342.out) hb); have n2_ := Aside0.mk (below_step (by repeat (first | (with_reducible first | exact HB.out | apply below_alloc | apply pw_below_drewN | apply below_drew1) | exact HB.out)) hb); clear HO338; clear HO342; clear HB; have HO338 := n0_; have HO342 := n1_; have HB := n2_; clear n0_ n1_ n2_; (try clear hb); (try clear hb2); (try clear hk); (try clear hi)))
                  go_ret
                  exact ⟨by first | rfl | (simp [errW_none, errW_some] <;> rfl) | (simp [*, errW_none, errW_some] <;> rfl), by repeat (first | (with_reducible first | exact HB.out | apply below_alloc | apply pw_below_drewN | apply below_drew1) | exact HB.out)⟩
                · replace c46 := Bool.eq_false_iff.mpr c46
                  subst c46
                  have H1 : (some false) = some r := by rw [if_neg (show ¬ (false = true) by decide)] at H; exact H
                  clear H
                  have H := H1
                  clear H1
                  exact absurd (H.trans (congrArg some HT.out)) (by simp)
              · rw [if_neg c44] at H
                have c44b0 : (t340 == 0) = false := beq_eq_false_iff_ne.mpr c44
                have c44b1 : (t340 != 0) = true := bne_iff_ne.mpr c44
                exact absurd (H.trans (congrArg some HT.out)) (by simp)
            · rw [if_neg c42] at H
              have c42b0 : (t336 == 0) = false := beq_eq_false_iff_ne.mpr c42
              have c42b1 : (t336 != 0) = true := bne_iff_ne.mpr c42
              by_cases c60 : (t335.length : Int) = 0
              · rw [if_pos c60] at H
                have c60b0 : ((t335.length : Int) == 0) = true := beq_iff_eq.mpr c60
                have c60b1 : ((t335.length : Int) != 0) = false := bne_eq_false_iff_eq.mpr c60
                clear c60
                replace H := Option.bind_eq_some_iff.mp H
                obtain ⟨t345, A610, H⟩ := H
                replace H : (some t345) = some r := H
                have A61 := Aside0.mk A610
                clear A610
                obtain rfl := Option.some.inj H
                go_wp2_with (first | ((with_reducible refine gate_callee (f := 8) rfl ?_); refine goesL_ (some 45) rfl rfl Try.func8 (by kernel_rfl) rfl #[.slice A1 l1.length c1] rfl (by (try simp only [List.map_toArray, List.map_cons, List.map_nil]); first | done | rfl | (simp only [List.length_drop, List.length_take]; rfl)) ?_; (with_reducible refine (script_Parse.calls kj12 _ _ l1 t335 t336 _ ?side1 ?side2 A41.out).mono ?_); (case side1 => repeat (first | exact (Kd.C_below HR1.out HB.out) | (with_reducible refine Kd.C_alloc ?_ _) | (with_reducible refine Kd.C_drewN ?_ _) | (with_reducible refine Kd.C_drew ?_))); (case side2 => exact HC1.out); rintro e w62 ⟨v337, rfl, ho0, hb⟩; refine ⟨_, rfl, ?_⟩; have n0_ := Aside0.mk (Kd.N_lower (Kd.N_mono (ok' := fun k_ => True) (Kd.S_N (Kd.S_bound ho0)) (fun k_ hk_ => trivial)) (below_size (by repeat (first | (with_reducible first | exact HB.out | apply below_alloc | apply pw_below_drewN | apply below_drew1) | exact HB.out)))); have n1_ := Aside0.mk (below_step (by repeat (first | (with_reducible first | exact HB.out | apply below_alloc | apply pw_below_drewN | apply below_drew1) | exact HB.out)) hb); clear HB; have HO338 := n0_; have HB := n1_; clear n0_ n1_; (try clear hb); (try clear hb2); (try clear hk); (try clear hi); (try clear ho0); obtain ⟨Ao63, co63, eo63⟩ := Kd.N_slice HO338.out; subst eo63) | (go_at_call 5; (with_reducible refine (thwartlaw33_alive.calls kj12  t345 _ HT.out A61.out).mono ?_); rintro e w64 ⟨rfl, hb⟩; have n0_ := Aside0.mk (Kd.N_below (by (with_reducible repeat (first | apply Kd.N_alloc | apply Kd.N_drewN | apply Kd.N_drew)); exact HO338.out) hb); have n1_ := Aside0.mk (below_step (by repeat (first | (with_reducible first | exact HB.out | apply below_alloc | apply pw_below_drewN | apply below_drew1) | exact HB.out)) hb); clear HO338; clear HB; have HO338 := n0_; have HB := n1_; clear n0_ n1_; (try clear hb); (try clear hb2); (try clear hk); (try clear hi)))
                go_ret
                exact ⟨by first | rfl | (simp [errW_none, errW_some] <;> rfl) | (simp [*, errW_none, errW_some] <;> rfl), by repeat (first | (with_reducible first | exact HB.out | apply below_alloc | apply pw_below_drewN | apply below_drew1) | exact HB.out)⟩
              · rw [if_neg c60] at H
                have c60b0 : ((t335.length : Int) == 0) = false := beq_eq_false_iff_ne.mpr c60
                have c60b1 : ((t335.length : Int) != 0) = true := bne_iff_ne.mpr c60
                have c60b2 : ¬ (t335 = []) := fun h_ => c60 (by rw [h_]; rfl)
                exact absurd (H.trans (congrArg some HT.out)) (by simp)
end Go.Proofs.Ytgjckdkpkgmbkaa.P

/- The pure statement of ScriptBack: what the printed function tells. -/
namespace Go.Proofs.Ytgjckdkpkgmbkaa.P
open Go.RowKit Go.Proofs.YtgjckdkpkgmbkaaW.PrintWords
def thwartlaw33_ScriptBack.Pure : Prop := ∀ (l0 : List P.S41) (l1 : List Int), l0.length ≤ 9223372036854775807 → (∀ x ∈ l0, ((Lit.int .i64 x.f0).wf = true) ∧ ((Lit.int .i64 x.f1).wf = true) ∧ ((Lit.int .i64 x.f2).wf = true) ∧ ((Lit.int .u8 x.f3).wf = true) ∧ (((Lit.int .i64 x.f4.f0).wf = true) ∧ ((Lit.int .u16 x.f4.f1).wf = true) ∧ (((Lit.int .u8 x.f4.f2.f0).wf = true) ∧ ((Lit.int .u8 x.f4.f2.f1).wf = true) ∧ ((Lit.int .u8 x.f4.f2.f2).wf = true) ∧ ((Lit.int .u8 x.f4.f2.f3).wf = true))) ∧ (x.f5.length ≤ 9223372036854775807 ∧ ∀ y ∈ x.f5, (Lit.int .u8 y).wf = true)) → l1.length ≤ 9223372036854775807 → (∀ x ∈ l1, (Lit.int .u8 x).wf = true) → ∃ k, thwartlaw33_ScriptBack.f k l0 l1 = some true
end Go.Proofs.Ytgjckdkpkgmbkaa.P

/- Plain facts: scripts: what is laid is parsed, what is parsed is laid as the same. -/
namespace Go.Proofs.Ytgjckdkpkgmbkaa.Q
open Go.RowKit Go.Proofs.Ytgjckdkpkgmbkaa.P Go.Proofs.Ytgjckdkpkgmbkaa.Hand Go.Proofs.YtgjckdkpkgmbkaaW.PrintWords Go.Proofs.YtgjckdkpkgmbkaaW.PrintLast
/-- With rounds enough. -/
def Evt {α : Type} (g : Nat → Option α) (r : α) : Prop := ∃ K, ∀ k, K ≤ k → g k = some r
theorem Evt.bind {α β : Type} {g : Nat → Option α} {h : α → Nat → Option β} {a : α} {b : β} (h1 : Evt g a) (h2 : Evt (h a) b) : Evt (fun k => (g k).bind fun x => h x k) b := by
  obtain ⟨K1, e1⟩ := h1
  obtain ⟨K2, e2⟩ := h2
  exact ⟨K1 + K2, fun k hk => by show (g k).bind _ = _; rw [e1 k (by omega)]; exact e2 k (by omega)⟩
theorem Evt.congr {α : Type} {g h : Nat → Option α} {a : α} (h1 : Evt g a) (e : ∀ k, h k = g k) : Evt h a := by
  obtain ⟨K1, e1⟩ := h1
  exact ⟨K1, fun k hk => (e k).trans (e1 k hk)⟩
theorem wr (i : Int) (h0 : -9223372036854775808 ≤ i) (h : i ≤ 9223372036854775807) : wrap64 i = i := by unfold wrap64; omega
/-! ### the sum -/
theorem step_l0 (d : Nat) : ∀ (x i : Int), i = 8 - d → d ≤ 8 → ∃ r, ∀ k, d < k → check_Step.l0 k x i = some r := by
  induction d with
  | zero =>
    intro x i hi _
    refine ⟨x, fun k hk => ?_⟩
    obtain ⟨k, rfl⟩ : ∃ m, k = m + 1 := ⟨k - 1, by omega⟩
    simp only [check_Step.l0]
    rw [if_neg (by omega)]
  | succ d ih =>
    intro x i hi hd
    obtain ⟨r, hr⟩ := ih (Go.bits .xor .u32 (x / 2) (Go.bits .and .u32 3988292384 ((-(Go.bits .and .u32 x 1)) % 4294967296))) (i + 1) (by omega) (by omega)
    refine ⟨r, fun k hk => ?_⟩
    obtain ⟨k, rfl⟩ : ∃ m, k = m + 1 := ⟨k - 1, by omega⟩
    simp only [check_Step.l0]
    rw [if_pos (by omega), wr (i + 1) (by omega) (by omega)]
    exact hr k (by omega)
theorem step_ev (x c : Int) : ∃ r, ∀ k, 8 < k → check_Step.f k x c = some r := step_l0 8 _ 0 (by omega) (by omega)
theorem of_ev (l : List Int) (hl : l.length ≤ 100000000) (d : Nat) : ∀ (x i : Int), 0 ≤ i → i = l.length - d → ∃ r, ∀ k, d + 10 < k → check_Of.l0 k l x i = some r := by
  induction d with
  | zero =>
    intro x i h0 hi
    refine ⟨Go.bits .xor .u32 4294967295 x, fun k hk => ?_⟩
    obtain ⟨k, rfl⟩ : ∃ m, k = m + 1 := ⟨k - 1, by omega⟩
    simp only [check_Of.l0]
    rw [if_neg (by omega)]
  | succ d ih =>
    intro x i h0 hi
    obtain ⟨t, ht⟩ := step_ev x (rd l i)
    obtain ⟨r, hr⟩ := ih t (i + 1) (by omega) (by omega)
    refine ⟨r, fun k hk => ?_⟩
    obtain ⟨k, rfl⟩ : ∃ m, k = m + 1 := ⟨k - 1, by omega⟩
    simp only [check_Of.l0]
    rw [if_pos (by omega), if_pos (by omega), ht k (by omega), Option.bind_some, wr (i + 1) (by omega) (by omega)]
    exact hr k (by omega)
theorem sum_ev (l : List Int) (hl : l.length ≤ 100000000) : ∃ r, Evt (fun k => check_Sum.f k l) r := by
  obtain ⟨r, hr⟩ := of_ev l hl l.length 4294967295 0 (by omega) (by omega)
  exact ⟨r, l.length + 11, fun k hk => hr k (by omega)⟩
def Bytes (l : List Int) : Prop := ∀ y ∈ l, 0 ≤ y ∧ y < 256
theorem Bytes.app {a b : List Int} (ha : Bytes a) (hb : Bytes b) : Bytes (a ++ b) := fun y hy => by
  rcases List.mem_append.1 hy with h | h
  · exact ha y h
  · exact hb y h
theorem Bytes.left {a b : List Int} (h : Bytes (a ++ b)) : Bytes a := fun y hy => h y (List.mem_append.2 (.inl hy))
theorem Bytes.right {a b : List Int} (h : Bytes (a ++ b)) : Bytes b := fun y hy => h y (List.mem_append.2 (.inr hy))
theorem Bytes.take {a : List Int} (h : Bytes a) (n : Nat) : Bytes (a.take n) := fun y hy => h y (List.mem_of_mem_take hy)
theorem Bytes.drop {a : List Int} (h : Bytes a) (n : Nat) : Bytes (a.drop n) := fun y hy => h y (List.mem_of_mem_drop hy)
theorem lay_ev (s : Int) : ∃ t : List Int, t.length = 4 ∧ Bytes t ∧ Evt (fun k => check_lay.f k s) t := by
  refine ⟨[(shr .u32 s 0) % 256, (shr .u32 s 8) % 256, (shr .u32 s 16) % 256, (shr .u32 s 24) % 256], rfl, ?_, 5, fun k hk => ?_⟩
  · intro y hy
    simp only [List.mem_cons, List.not_mem_nil, or_false] at hy
    rcases hy with rfl | rfl | rfl | rfl <;> omega
  · obtain ⟨k, rfl⟩ : ∃ m, k = m + 5 := ⟨k - 5, by omega⟩
    simp [check_lay.f, check_lay.l0, List.replicate, wr]
open Classical in
/-- The four bytes of the sum. -/
noncomputable def csum (l : List Int) : List Int := if h : ∃ s t, t.length = 4 ∧ Bytes t ∧ Evt (fun k => check_Sum.f k l) s ∧ Evt (fun k => check_lay.f k s) t then h.choose_spec.choose else [0, 0, 0, 0]
theorem csum_spec (l : List Int) (hl : l.length ≤ 100000000) : ∃ s, (csum l).length = 4 ∧ Bytes (csum l) ∧ Evt (fun k => check_Sum.f k l) s ∧ Evt (fun k => check_lay.f k s) (csum l) := by
  have h : ∃ s t, t.length = 4 ∧ Bytes t ∧ Evt (fun k => check_Sum.f k l) s ∧ Evt (fun k => check_lay.f k s) t := by
    obtain ⟨s, hs⟩ := sum_ev l hl
    obtain ⟨t, h1, h2, h3⟩ := lay_ev s
    exact ⟨s, t, h1, h2, hs, h3⟩
  have e : csum l = h.choose_spec.choose := by unfold csum; rw [dif_pos h]
  rw [e]
  exact ⟨h.choose, h.choose_spec.choose_spec⟩
/-! ### bytes that are the same -/
theorem bytesOf_inj : ∀ (a b : List Int), Bytes a → Bytes b → Lib.bytesOf a = Lib.bytesOf b → a = b
  | [], [], _, _, _ => rfl
  | [], y :: b, _, _, h => by simp [Lib.bytesOf] at h
  | x :: a, [], _, _, h => by simp [Lib.bytesOf] at h
  | x :: a, y :: b, ha, hb, h => by
    have hx := ha x (by simp)
    have hy := hb y (by simp)
    simp only [Lib.bytesOf, List.map_cons, List.cons.injEq] at h
    have h1 := congrArg UInt8.toNat h.1
    simp only [UInt8.toNat_ofNat'] at h1
    have e : x = y := by omega
    rw [e, bytesOf_inj a b (fun z hz => ha z (by simp [hz])) (fun z hz => hb z (by simp [hz])) (by simpa [Lib.bytesOf] using h.2)]
theorem equal_self (a : List Int) : bytes_Equal.f a a = some true := by simp [bytes_Equal.f]
theorem equal_is (a b : List Int) (ha : Bytes a) (hb : Bytes b) : bytes_Equal.f a b = some (decide (a = b)) := by
  by_cases e : a = b
  · subst e; rw [equal_self]; simp
  · have : ((strOfNums a).toList == (strOfNums b).toList) = false := by
      rw [beq_eq_false_iff_ne]
      intro h
      rw [Lib.strOfNums_toList, Lib.strOfNums_toList] at h
      exact e (bytesOf_inj a b ha hb h)
    unfold bytes_Equal.f
    rw [this]; simp [e]
/-! ### sealed -/
theorem seal_ev (l : List Int) (hl : l.length ≤ 100000000) : Evt (fun k => check_Seal.f k l) (l ++ csum l) := by
  obtain ⟨s, h4, hb, h1, h2⟩ := csum_spec l hl
  have hc : bytes_Clone.f l = some l := by unfold bytes_Clone.f; rw [if_pos (by omega)]
  refine (Evt.bind (h := fun s k => (check_lay.f k s).bind fun t => if l.length + t.length < 140737488355328 then some (l ++ t) else none) h1 (Evt.bind h2 ⟨0, fun k _ => ?_⟩)).congr fun k => ?_
  · rw [h4, if_pos (by omega)]
  · unfold check_Seal.f; rw [hc]; rfl
theorem open_ev (b : List Int) (hl : b.length ≤ 100000000) (hb : Bytes b) : Evt (fun k => check_Open.f k b) (if b.length < 4 then ([], 4) else if csum (b.take (b.length - 4)) = b.drop (b.length - 4) then (b.take (b.length - 4), 0) else ([], 9)) := by
  by_cases h4 : b.length < 4
  · rw [if_pos h4]
    refine ⟨0, fun k _ => ?_⟩
    show check_Open.f k b = _
    unfold check_Open.f
    rw [wr _ (by omega) (by omega), if_pos (by omega)]
  · rw [if_neg h4]
    obtain ⟨s, e4, eb, h1, h2⟩ := csum_spec (b.take (b.length - 4)) (by rw [List.length_take]; omega)
    have hn : (((b.length : Int) - 4).toNat) = b.length - 4 := by omega
    have hc : bytes_Clone.f (b.take (b.length - 4)) = some (b.take (b.length - 4)) := by unfold bytes_Clone.f; rw [if_pos (by rw [List.length_take]; omega)]
    refine (Evt.bind (h := fun s k => (check_lay.f k s).bind fun t => ((bytes_Equal.f t (b.drop (b.length - 4))).bind fun u => (if u = true then ((bytes_Clone.f (b.take (b.length - 4))).bind fun z => (some (z, (0 : Int)))) else (some (([] : List Int), 9))))) h1 (Evt.bind h2 ⟨0, fun k _ => ?_⟩)).congr fun k => ?_
    · rw [equal_is _ _ eb (hb.drop _), hc]
      by_cases e : csum (b.take (b.length - 4)) = b.drop (b.length - 4)
      · rw [if_pos e]; simp [e]
      · rw [if_neg e]; simp [e]
    · unfold check_Open.f
      rw [wr _ (by omega) (by omega), if_neg (by omega), if_pos (by omega), if_pos (by omega), hn]
end Go.Proofs.Ytgjckdkpkgmbkaa.Q

/- Plain facts: scripts: an event's bytes, laid and parsed. -/
namespace Go.Proofs.Ytgjckdkpkgmbkaa.Q
open Go.RowKit Go.Proofs.Ytgjckdkpkgmbkaa.P Go.Proofs.Ytgjckdkpkgmbkaa.Hand Go.Proofs.YtgjckdkpkgmbkaaW.PrintWords Go.Proofs.YtgjckdkpkgmbkaaW.PrintLast
abbrev Ev := S44
def enc (x : Ev) : List Int := [x.f0 % 256, (x.f1 / 256) % 256, x.f1 % 256, (x.f2 / 256) % 256, x.f2 % 256, x.f3, x.f4.f0 % 256, (x.f4.f1 / 256) % 256, x.f4.f1 % 256, x.f4.f2.f0, x.f4.f2.f1, x.f4.f2.f2, x.f4.f2.f3, ((x.f5.length : Int) / 256) % 256, (x.f5.length : Int) % 256] ++ x.f5
/-- What may be laid. -/
def Right (x : Ev) : Prop := (1 ≤ x.f0 ∧ x.f0 ≤ 8) ∧ (-32768 ≤ x.f1 ∧ x.f1 ≤ 32767) ∧ (-32768 ≤ x.f2 ∧ x.f2 ≤ 32767) ∧ (0 ≤ x.f4.f0 ∧ x.f4.f0 ≤ 255) ∧ x.f5.length ≤ 400
/-- What fits its kinds. -/
def Fits (x : Ev) : Prop := (0 ≤ x.f3 ∧ x.f3 < 256) ∧ (0 ≤ x.f4.f1 ∧ x.f4.f1 < 65536) ∧ (0 ≤ x.f4.f2.f0 ∧ x.f4.f2.f0 < 256) ∧ (0 ≤ x.f4.f2.f1 ∧ x.f4.f2.f1 < 256) ∧ (0 ≤ x.f4.f2.f2 ∧ x.f4.f2.f2 < 256) ∧ (0 ≤ x.f4.f2.f3 ∧ x.f4.f2.f3 < 256) ∧ Bytes x.f5
theorem enc_len (x : Ev) : (enc x).length = 15 + x.f5.length := by simp [enc]; omega
theorem enc_bytes (x : Ev) (h : Fits x) : Bytes (enc x) := by
  obtain ⟨h3, h4, b0, b1, b2, b3, h5⟩ := h
  refine Bytes.app (fun y hy => ?_) h5
  simp only [List.mem_cons, List.not_mem_nil, or_false] at hy
  rcases hy with rfl | rfl | rfl | rfl | rfl | rfl | rfl | rfl | rfl | rfl | rfl | rfl | rfl | rfl | rfl <;> omega
theorem within_is (n a b : Int) : script_within.f n a b = some (decide (a ≤ n ∧ n ≤ b)) := by
  unfold script_within.f
  by_cases h : n ≥ a
  · rw [if_pos h]; simp; omega
  · rw [if_neg h]; simp; omega
theorem may_is (x : Ev) : ∃ e, script_May.f x.f0 x.f1 x.f2 x.f3 x.f4.f0 x.f4.f1 x.f4.f2.f0 x.f4.f2.f1 x.f4.f2.f2 x.f4.f2.f3 x.f5 = some e ∧ (e = 0 ↔ Right x) := by
  unfold script_May.f Right
  simp only [within_is, Option.bind_some, decide_eq_true_eq]
  by_cases h0 : 1 ≤ x.f0 ∧ x.f0 ≤ 8
  · rw [if_pos h0]
    by_cases h1 : -32768 ≤ x.f1 ∧ x.f1 ≤ 32767
    · rw [if_pos h1]
      by_cases h2 : -32768 ≤ x.f2 ∧ x.f2 ≤ 32767
      · rw [if_pos h2]
        by_cases h3 : 0 ≤ x.f4.f0 ∧ x.f4.f0 ≤ 255
        · rw [if_pos h3]
          by_cases h4 : (x.f5.length : Int) > 400
          · rw [if_pos h4]; exact ⟨_, rfl, by omega⟩
          · rw [if_neg h4]; exact ⟨_, rfl, by omega⟩
        · rw [if_neg h3]; exact ⟨_, rfl, by omega⟩
      · rw [if_neg h2]; exact ⟨_, rfl, by omega⟩
    · rw [if_neg h1]; exact ⟨_, rfl, by omega⟩
  · rw [if_neg h0]; exact ⟨_, rfl, by omega⟩
theorem two_is (l : List Int) (n : Int) (h : l.length ≤ 140737488355000) : script_two.f l n = some (l ++ [(n / 256) % 256, n % 256]) := by
  unfold script_two.f
  simp only [Option.bind_some]
  rw [if_pos (by simp only [List.length_cons, List.length_nil]; omega)]
theorem one_is (l : List Int) (x : Ev) (hl : l.length ≤ 100000000) (hr : Right x) (hf : Fits x) : script_one.f l x.f0 x.f1 x.f2 x.f3 x.f4.f0 x.f4.f1 x.f4.f2.f0 x.f4.f2.f1 x.f4.f2.f2 x.f4.f2.f3 x.f5 = some (l ++ enc x) := by
  obtain ⟨_, _, _, _, h5⟩ := hr
  have hw : wrap64 x.f4.f1 = x.f4.f1 := wr _ (by have := hf.2.1; omega) (by have := hf.2.1; omega)
  unfold script_one.f
  rw [if_pos (by omega), two_is _ _ (by simp; omega), Option.bind_some, two_is _ _ (by simp; omega), Option.bind_some, Option.bind_some, if_pos (by simp; omega), two_is _ _ (by simp; omega), Option.bind_some, if_pos (by simp; omega), two_is _ _ (by simp; omega), Option.bind_some, if_pos (by simp; omega), hw]
  simp [enc]
theorem i64_or_small2 (a b : Nat) (ha : a < 2 ^ 62) (hb : b < 2 ^ 62) : Go.bits .or .i64 (a : Int) (b : Int) = ((a ||| b : Nat) : Int) := by
  have hx : a ||| b < 2 ^ 62 := Nat.or_lt_two_pow ha hb
  show IntKind.i64.wrap ((BitVec.ofInt 64 (a : Int) ||| BitVec.ofInt 64 (b : Int)).toNat : Int) = _
  rw [BitVec.toNat_or, BitVec.ofInt_natCast, BitVec.ofInt_natCast, BitVec.toNat_ofNat, BitVec.toNat_ofNat, Nat.mod_eq_of_lt (by omega), Nat.mod_eq_of_lt (by omega)]
  rw [IntKind.wrap_i64]
  omega
theorem or_bytes (a b : Int) (ha : 0 ≤ a ∧ a < 256) (hb : 0 ≤ b ∧ b < 256) : Go.bits .or .i64 (wrap64 ((wrap64 a) * 256)) (wrap64 b) = a * 256 + b := by
  rw [wr a (by omega) (by omega), wr (a * 256) (by omega) (by omega), wr b (by omega) (by omega)]
  obtain ⟨n, rfl⟩ : ∃ n : Nat, a = n := ⟨a.toNat, by omega⟩
  obtain ⟨m, rfl⟩ : ∃ m : Nat, b = m := ⟨b.toNat, by omega⟩
  have h1 : ((n : Int) * 256) = ((2 ^ 8 * n : Nat) : Int) := by omega
  have h2 := Nat.two_pow_add_eq_or_of_lt (b := m) (i := 8) (by omega) n
  rw [h1, i64_or_small2 _ _ (by omega) (by omega), ← h2]
  omega
theorem number_is (a b : Int) (t : List Int) (ha : 0 ≤ a ∧ a < 256) (hb : 0 ≤ b ∧ b < 256) : script_number.f (a :: b :: t) = some (a * 256 + b) := by
  unfold script_number.f
  rw [if_pos (by simp only [List.length_cons]; omega), if_pos (by simp only [List.length_cons]; omega)]
  exact congrArg some (or_bytes a b ha hb)
/-- A number of two bytes, with a sign. -/
def sgn (n : Int) : Int := if n < 32768 then n else n - 65536
theorem signed_is (a b : Int) (t : List Int) (ha : 0 ≤ a ∧ a < 256) (hb : 0 ≤ b ∧ b < 256) : script_signed.f (a :: b :: t) = some (sgn (a * 256 + b)) := by
  unfold script_signed.f
  rw [number_is a b t ha hb, Option.bind_some]
  have hw : IntKind.i16.wrap (a * 256 + b) = sgn (a * 256 + b) := by
    have h1 : IntKind.i16.wrap (a * 256 + b) = if decide ((a * 256 + b) % 65536 ≥ 32768) = true then (a * 256 + b) % 65536 - 65536 else (a * 256 + b) % 65536 := rfl
    rw [h1]
    unfold sgn
    by_cases h : a * 256 + b < 32768
    · rw [if_neg (by rw [decide_eq_true_eq]; omega), if_pos h]; omega
    · rw [if_pos (by rw [decide_eq_true_eq]; omega), if_neg h]; omega
  rw [hw, wr _ (by unfold sgn; split <;> omega) (by unfold sgn; split <;> omega)]
/-- What first hands back. -/
def pack (x : Ev) (left : List Int) (e : Int) : Int × Int × Int × Int × Int × Int × Int × Int × Int × Int × List Int × List Int × Int := (x.f0, x.f1, x.f2, x.f3, x.f4.f0, x.f4.f1, x.f4.f2.f0, x.f4.f2.f1, x.f4.f2.f2, x.f4.f2.f3, x.f5, left, e)
def none44 : Ev := ⟨0, 0, 0, 0, ⟨0, 0, ⟨0, 0, 0, 0⟩⟩, []⟩
/-- The event of fifteen bytes and what follows. -/
def evOf (c0 c1 c2 c3 c4 c5 c6 c7 c8 c9 c10 c11 c12 c13 c14 : Int) (t : List Int) : Ev := ⟨c0, sgn (c1 * 256 + c2), sgn (c3 * 256 + c4), c5, ⟨c6, c7 * 256 + c8, ⟨c9, c10, c11, c12⟩⟩, t.take (c13 * 256 + c14).toNat⟩
theorem first_long (c0 c1 c2 c3 c4 c5 c6 c7 c8 c9 c10 c11 c12 c13 c14 : Int) (t : List Int) (hb : Bytes (c0 :: c1 :: c2 :: c3 :: c4 :: c5 :: c6 :: c7 :: c8 :: c9 :: c10 :: c11 :: c12 :: c13 :: c14 :: t)) (hl : t.length ≤ 100000000) :
    script_first.f (c0 :: c1 :: c2 :: c3 :: c4 :: c5 :: c6 :: c7 :: c8 :: c9 :: c10 :: c11 :: c12 :: c13 :: c14 :: t) = some (if 1 ≤ c0 ∧ c0 ≤ 8 then (if c13 * 256 + c14 > 400 then pack none44 [] 10 else if (t.length : Int) < c13 * 256 + c14 then pack none44 [] 4 else pack (evOf c0 c1 c2 c3 c4 c5 c6 c7 c8 c9 c10 c11 c12 c13 c14 t) (t.drop (c13 * 256 + c14).toNat) 0) else pack none44 [] 11) := by
  have h0 := hb c0 (by simp)
  have h1 := hb c1 (by simp)
  have h2 := hb c2 (by simp)
  have h3 := hb c3 (by simp)
  have h4 := hb c4 (by simp)
  have h6 := hb c6 (by simp)
  have h7 := hb c7 (by simp)
  have h8 := hb c8 (by simp)
  have h13 := hb c13 (by simp)
  have h14 := hb c14 (by simp)
  generalize hL : c0 :: c1 :: c2 :: c3 :: c4 :: c5 :: c6 :: c7 :: c8 :: c9 :: c10 :: c11 :: c12 :: c13 :: c14 :: t = L
  have e : L.length = 15 + t.length := by rw [← hL]; simp only [List.length_cons]; omega
  have r0 : rd L 0 = c0 := by rw [← hL]; rfl
  have r5 : rd L 5 = c5 := by rw [← hL]; rfl
  have r6 : rd L 6 = c6 := by rw [← hL]; rfl
  have r9 : rd L 9 = c9 := by rw [← hL]; rfl
  have r10 : rd L 10 = c10 := by rw [← hL]; rfl
  have r11 : rd L 11 = c11 := by rw [← hL]; rfl
  have r12 : rd L 12 = c12 := by rw [← hL]; rfl
  have d1 : L.drop 1 = c1 :: c2 :: L.drop 3 := by rw [← hL]; rfl
  have d3 : L.drop 3 = c3 :: c4 :: L.drop 5 := by rw [← hL]; rfl
  have d7 : L.drop 7 = c7 :: c8 :: L.drop 9 := by rw [← hL]; rfl
  have d13 : L.drop 13 = c13 :: c14 :: L.drop 15 := by rw [← hL]; rfl
  have d15 : L.drop 15 = t := by rw [← hL]; rfl
  unfold script_first.f
  rw [if_pos (by omega), r0, wr c0 (by omega) (by omega), within_is, Option.bind_some]
  by_cases hk : 1 ≤ c0 ∧ c0 ≤ 8
  · rw [if_pos (by simpa using hk), if_pos hk, if_neg (by omega), if_pos (by omega), d13, number_is c13 c14 _ h13 h14, Option.bind_some, if_pos (by omega), Option.bind_some, d15]
    by_cases hm : c13 * 256 + c14 > 400
    · rw [if_pos hm, if_pos hm]; rfl
    · rw [if_neg hm, if_neg hm]
      by_cases hs : (t.length : Int) < c13 * 256 + c14
      · rw [if_pos hs, if_pos hs]; rfl
      · have hc : bytes_Clone.f (t.take (c13 * 256 + c14).toNat) = some (t.take (c13 * 256 + c14).toNat) := by unfold bytes_Clone.f; rw [if_pos (by rw [List.length_take]; omega)]
        have hu : IntKind.u16.wrap (c7 * 256 + c8) = c7 * 256 + c8 := by
          unfold IntKind.wrap
          simp only [IntKind.signed, IntKind.bits]
          first | omega | (simp; omega)
        rw [if_neg hs, if_neg hs, if_pos (by omega), d1, signed_is c1 c2 _ h1 h2, Option.bind_some, if_pos (by omega), d3, signed_is c3 c4 _ h3 h4, Option.bind_some, if_pos (by omega), if_pos (by omega), if_pos (by omega), hc, Option.bind_some, if_pos (by omega), if_pos (by omega), d7, number_is c7 c8 _ h7 h8, Option.bind_some, if_pos (by omega), r5, r6, r9, r10, r11, r12, wr c6 (by omega) (by omega), hu]
        rfl
  · rw [if_neg (by simpa using hk), if_neg hk]; rfl
theorem first_short (r : List Int) (hb : Bytes r) (h0 : 0 < r.length) (h : r.length < 15) : ∃ e, e ≠ 0 ∧ script_first.f r = some (pack none44 [] e) := by
  have hr : 0 ≤ rd r 0 ∧ rd r 0 < 256 := by
    cases r with
    | nil => simp at h0
    | cons c r => exact hb c (by simp)
  unfold script_first.f
  rw [if_pos (by omega), wr (rd r 0) (by omega) (by omega), within_is, Option.bind_some]
  by_cases hk : 1 ≤ rd r 0 ∧ rd r 0 ≤ 8
  · rw [if_pos (by simpa using hk), if_pos (by omega)]
    exact ⟨4, by omega, rfl⟩
  · rw [if_neg (by simpa using hk)]
    exact ⟨11, by omega, rfl⟩
end Go.Proofs.Ytgjckdkpkgmbkaa.Q

/- Plain facts: scripts: lists of events, laid and parsed. -/
namespace Go.Proofs.Ytgjckdkpkgmbkaa.Q
open Go.RowKit Go.Proofs.Ytgjckdkpkgmbkaa.P Go.Proofs.Ytgjckdkpkgmbkaa.Hand Go.Proofs.YtgjckdkpkgmbkaaW.PrintWords Go.Proofs.YtgjckdkpkgmbkaaW.PrintLast
theorem first_enc (x : Ev) (rest : List Int) (hr : Right x) (hf : Fits x) (hb : Bytes rest) (hl : rest.length ≤ 90000000) : script_first.f (enc x ++ rest) = some (pack x rest 0) := by
  have hB : Bytes (enc x ++ rest) := (enc_bytes x hf).app hb
  obtain ⟨h0, h1, h2, h4, h5⟩ := hr
  obtain ⟨g3, g4, b0, b1, b2, b3, g5⟩ := hf
  have e : enc x ++ rest = (x.f0 % 256) :: ((x.f1 / 256) % 256) :: (x.f1 % 256) :: ((x.f2 / 256) % 256) :: (x.f2 % 256) :: x.f3 :: (x.f4.f0 % 256) :: ((x.f4.f1 / 256) % 256) :: (x.f4.f1 % 256) :: x.f4.f2.f0 :: x.f4.f2.f1 :: x.f4.f2.f2 :: x.f4.f2.f3 :: (((x.f5.length : Int) / 256) % 256) :: ((x.f5.length : Int) % 256) :: (x.f5 ++ rest) := by simp [enc]
  rw [e] at hB ⊢
  rw [first_long _ _ _ _ _ _ _ _ _ _ _ _ _ _ _ _ hB (by simp only [List.length_append]; omega)]
  have hn : (((x.f5.length : Int) / 256) % 256) * 256 + (x.f5.length : Int) % 256 = x.f5.length := by omega
  rw [hn, if_pos (by omega), if_neg (by omega), if_neg (by simp only [List.length_append]; omega)]
  have hx : evOf (x.f0 % 256) ((x.f1 / 256) % 256) (x.f1 % 256) ((x.f2 / 256) % 256) (x.f2 % 256) x.f3 (x.f4.f0 % 256) ((x.f4.f1 / 256) % 256) (x.f4.f1 % 256) x.f4.f2.f0 x.f4.f2.f1 x.f4.f2.f2 x.f4.f2.f3 (((x.f5.length : Int) / 256) % 256) ((x.f5.length : Int) % 256) (x.f5 ++ rest) = x := by
    unfold evOf
    rw [hn, Int.toNat_natCast, List.take_left]
    rw [show x.f0 % 256 = x.f0 by omega, show sgn (x.f1 / 256 % 256 * 256 + x.f1 % 256) = x.f1 by unfold sgn; split <;> omega, show sgn (x.f2 / 256 % 256 * 256 + x.f2 % 256) = x.f2 by unfold sgn; split <;> omega, show x.f4.f0 % 256 = x.f4.f0 by omega, show x.f4.f1 / 256 % 256 * 256 + x.f4.f1 % 256 = x.f4.f1 by omega]
  rw [hx, Int.toNat_natCast, List.drop_left]
theorem first_back (r : List Int) (hb : Bytes r) (h0 : 0 < r.length) (hl : r.length ≤ 90000000) : ∃ x left e, script_first.f r = some (pack x left e) ∧ (e = 0 → Right x ∧ Fits x ∧ r = enc x ++ left) := by
  by_cases h15 : r.length < 15
  · obtain ⟨e, he, h⟩ := first_short r hb h0 h15
    exact ⟨_, _, e, h, fun h => absurd h he⟩
  · obtain ⟨c0, c1, c2, c3, c4, c5, c6, c7, c8, c9, c10, c11, c12, c13, c14, t, rfl⟩ : ∃ c0 c1 c2 c3 c4 c5 c6 c7 c8 c9 c10 c11 c12 c13 c14 t, r = c0 :: c1 :: c2 :: c3 :: c4 :: c5 :: c6 :: c7 :: c8 :: c9 :: c10 :: c11 :: c12 :: c13 :: c14 :: t := by
      match r, h15 with
      | c0 :: c1 :: c2 :: c3 :: c4 :: c5 :: c6 :: c7 :: c8 :: c9 :: c10 :: c11 :: c12 :: c13 :: c14 :: t, _ => exact ⟨c0, c1, c2, c3, c4, c5, c6, c7, c8, c9, c10, c11, c12, c13, c14, t, rfl⟩
      | [], h | [_], h | [_, _], h | [_, _, _], h | [_, _, _, _], h | [_, _, _, _, _], h | [_, _, _, _, _, _], h | [_, _, _, _, _, _, _], h | [_, _, _, _, _, _, _, _], h | [_, _, _, _, _, _, _, _, _], h | [_, _, _, _, _, _, _, _, _, _], h | [_, _, _, _, _, _, _, _, _, _, _], h | [_, _, _, _, _, _, _, _, _, _, _, _], h | [_, _, _, _, _, _, _, _, _, _, _, _, _], h | [_, _, _, _, _, _, _, _, _, _, _, _, _, _], h => exact absurd (by simp) h
    simp only [List.length_cons] at hl
    rw [first_long _ _ _ _ _ _ _ _ _ _ _ _ _ _ _ _ hb (by omega)]
    have k0 := hb c0 (by simp)
    have k1 := hb c1 (by simp)
    have k2 := hb c2 (by simp)
    have k3 := hb c3 (by simp)
    have k4 := hb c4 (by simp)
    have k5 := hb c5 (by simp)
    have k6 := hb c6 (by simp)
    have k7 := hb c7 (by simp)
    have k8 := hb c8 (by simp)
    have k9 := hb c9 (by simp)
    have k10 := hb c10 (by simp)
    have k11 := hb c11 (by simp)
    have k12 := hb c12 (by simp)
    have k13 := hb c13 (by simp)
    have k14 := hb c14 (by simp)
    have kt : Bytes t := fun y hy => hb y (by simp [hy])
    split
    · split
      · exact ⟨_, _, _, rfl, fun h => by omega⟩
      · split
        · exact ⟨_, _, _, rfl, fun h => by omega⟩
        · rename_i hk hm hs
          refine ⟨_, _, _, rfl, fun _ => ⟨?_, ?_, ?_⟩⟩
          · simp only [Right, evOf, List.length_take]
            refine ⟨hk, ?_, ?_, by omega, by omega⟩
            · unfold sgn; split <;> omega
            · unfold sgn; split <;> omega
          · exact ⟨k5, by show 0 ≤ c7 * 256 + c8 ∧ c7 * 256 + c8 < 65536; omega, k9, k10, k11, k12, kt.take _⟩
          · have hlen : ((t.take (c13 * 256 + c14).toNat).length : Int) = c13 * 256 + c14 := by rw [List.length_take]; omega
            simp only [enc, evOf, hlen]
            rw [List.append_assoc, List.take_append_drop]
            have q1 : sgn (c1 * 256 + c2) / 256 % 256 = c1 := by unfold sgn; split <;> omega
            have q2 : sgn (c1 * 256 + c2) % 256 = c2 := by unfold sgn; split <;> omega
            have q3 : sgn (c3 * 256 + c4) / 256 % 256 = c3 := by unfold sgn; split <;> omega
            have q4 : sgn (c3 * 256 + c4) % 256 = c4 := by unfold sgn; split <;> omega
            rw [q1, q2, q3, q4, show c0 % 256 = c0 by omega, show c6 % 256 = c6 by omega, show (c7 * 256 + c8) / 256 % 256 = c7 by omega, show (c7 * 256 + c8) % 256 = c8 by omega, show (c13 * 256 + c14) / 256 % 256 = c13 by omega, show (c13 * 256 + c14) % 256 = c14 by omega]
            rfl
    · exact ⟨_, _, _, rfl, fun h => by omega⟩
def encs (l : List Ev) : List Int := l.flatMap enc
theorem encs_len : ∀ (l : List Ev), (∀ x ∈ l, Right x) → (encs l).length ≤ 415 * l.length
  | [], _ => by simp [encs]
  | x :: l, h => by
    have := encs_len l (fun y hy => h y (by simp [hy]))
    have h5 := (h x (by simp)).2.2.2.2
    simp only [encs, List.flatMap_cons, List.length_append, enc_len, List.length_cons] at *
    omega
theorem encs_bytes (l : List Ev) (h : ∀ x ∈ l, Fits x) : Bytes (encs l) := fun y hy => by
  obtain ⟨x, hx, hy⟩ := List.mem_flatMap.1 hy
  exact enc_bytes x (h x hx) y hy
theorem parse_encs : ∀ (l acc : List Ev), (∀ x ∈ l, Right x ∧ Fits x) → acc.length + l.length ≤ 3000 → ∀ k, l.length < k → script_Parse.l0 k (encs l) acc = some (acc ++ l, 0)
  | [], acc, _, _, k, hk => by
    obtain ⟨k, rfl⟩ : ∃ m, k = m + 1 := ⟨k - 1, by omega⟩
    simp [script_Parse.l0, encs]
  | x :: l, acc, h, hn, k, hk => by
    obtain ⟨k, rfl⟩ : ∃ m, k = m + 1 := ⟨k - 1, by omega⟩
    simp only [List.length_cons] at hn hk
    have hx := h x (by simp)
    have hl := encs_len l (fun y hy => (h y (by simp [hy])).1)
    have ih := parse_encs l (acc ++ [x]) (fun y hy => h y (by simp [hy])) (by simp; omega) k (by omega)
    have e : encs (x :: l) = enc x ++ encs l := by simp [encs]
    rw [e]
    simp only [script_Parse.l0]
    rw [if_pos (by rw [List.length_append, enc_len]; omega), if_neg (by omega), first_enc x (encs l) hx.1 hx.2 (encs_bytes l (fun y hy => (h y (by simp [hy])).2)) (by omega), Option.bind_some, if_pos (show (pack x (encs l) 0).2.2.2.2.2.2.2.2.2.2.2.2 = 0 from rfl), if_pos (by omega)]
    show script_Parse.l0 k (encs l) (acc ++ [x]) = _
    rw [ih]
    simp
theorem parse_any (n : Nat) : ∀ (r : List Int) (acc : List Ev), r.length ≤ n → r.length ≤ 90000000 → Bytes r → acc.length ≤ 3000 → ∃ res : List Ev × Int, (∀ k, n < k → script_Parse.l0 k r acc = some res) ∧ (res.2 ≠ 0 → res.1 = []) ∧ (res.2 = 0 → ∃ l, (∀ x ∈ l, Right x ∧ Fits x) ∧ res.1 = acc ++ l ∧ r = encs l ∧ (acc ++ l).length ≤ 3000) := by
  induction n with
  | zero =>
    intro r acc h1 h2 hb ha
    obtain rfl : r = [] := List.eq_nil_of_length_eq_zero (by omega)
    refine ⟨(acc, 0), fun k hk => ?_, fun h => absurd rfl h, fun _ => ⟨[], by simp, by simp, rfl, by simpa using ha⟩⟩
    obtain ⟨k, rfl⟩ : ∃ m, k = m + 1 := ⟨k - 1, by omega⟩
    simp [script_Parse.l0]
  | succ n ih =>
    intro r acc h1 h2 hb ha
    by_cases h0 : 0 < r.length
    · by_cases hm : acc.length = 3000
      · refine ⟨([], 5), fun k hk => ?_, fun _ => rfl, fun h => by simp at h⟩
        obtain ⟨k, rfl⟩ : ∃ m, k = m + 1 := ⟨k - 1, by omega⟩
        simp only [script_Parse.l0]
        rw [if_pos (by omega), if_pos (by omega)]
      · obtain ⟨x, left, e, hf, hx⟩ := first_back r hb h0 h2
        by_cases he : e = 0
        · obtain ⟨hr, hfi, rfl⟩ := hx he
          subst he
          rw [List.length_append, enc_len] at h1 h2
          obtain ⟨res, g1, g2, g3⟩ := ih left (acc ++ [x]) (by omega) (by omega) hb.right (by simp; omega)
          refine ⟨res, fun k hk => ?_, g2, fun h => ?_⟩
          · obtain ⟨k, rfl⟩ : ∃ m, k = m + 1 := ⟨k - 1, by omega⟩
            simp only [script_Parse.l0]
            rw [if_pos (by omega), if_neg (by omega), hf, Option.bind_some, if_pos (show (pack x left 0).2.2.2.2.2.2.2.2.2.2.2.2 = 0 from rfl), if_pos (by omega)]
            exact g1 k (by omega)
          · obtain ⟨l, q1, q2, q3, q4⟩ := g3 h
            refine ⟨x :: l, ?_, by rw [q2]; simp, by rw [q3]; simp [encs], by simpa using q4⟩
            intro y hy
            rcases List.mem_cons.1 hy with rfl | hy
            · exact ⟨hr, hfi⟩
            · exact q1 y hy
        · refine ⟨([], e), fun k hk => ?_, fun _ => rfl, fun h => absurd h he⟩
          obtain ⟨k, rfl⟩ : ∃ m, k = m + 1 := ⟨k - 1, by omega⟩
          simp only [script_Parse.l0]
          rw [if_pos (by omega), if_neg (by omega), hf, Option.bind_some, if_neg (show ¬ (pack x left e).2.2.2.2.2.2.2.2.2.2.2.2 = 0 from he)]
          rfl
    · obtain rfl : r = [] := List.eq_nil_of_length_eq_zero (by omega)
      refine ⟨(acc, 0), fun k hk => ?_, fun h => absurd rfl h, fun _ => ⟨[], by simp, by simp, rfl, by simpa using ha⟩⟩
      obtain ⟨k, rfl⟩ : ∃ m, k = m + 1 := ⟨k - 1, by omega⟩
      simp [script_Parse.l0]
end Go.Proofs.Ytgjckdkpkgmbkaa.Q

/- Plain facts: scripts laid, and parsed, whole. -/
namespace Go.Proofs.Ytgjckdkpkgmbkaa.Q
open Go.RowKit Go.Proofs.Ytgjckdkpkgmbkaa.P Go.Proofs.Ytgjckdkpkgmbkaa.Hand Go.Proofs.YtgjckdkpkgmbkaaW.PrintWords Go.Proofs.YtgjckdkpkgmbkaaW.PrintLast
theorem rd_mid (pre suf : List Ev) (x : Ev) : rd_T44 (pre ++ x :: suf) (pre.length : Int) = x := by
  simp [rd_T44]
noncomputable def sealed (l : List Int) : List Int := l ++ csum l
theorem lay_loop : ∀ (suf pre : List Ev) (acc : List Int), (∀ x ∈ suf, Fits x) → acc.length + 415 * suf.length ≤ 80000000 → pre.length + suf.length ≤ 3000 →
    ∃ res : List Int × Int, Evt (fun k => script_Lay.l0 k acc (pre ++ suf) ((pre ++ suf).length : Int) (pre.length : Int)) res ∧ ((∀ x ∈ suf, Right x) → res = (sealed (acc ++ encs suf), 0)) ∧ (¬ (∀ x ∈ suf, Right x) → res.2 ≠ 0)
  | [], pre, acc, _, ha, hn => by
    obtain ⟨K, hK⟩ := seal_ev acc (by simp at ha; omega)
    refine ⟨(sealed acc, 0), ⟨K + 1, fun k hk => ?_⟩, fun _ => by simp [encs], fun h => absurd (by simp) h⟩
    obtain ⟨k, rfl⟩ : ∃ m, k = m + 1 := ⟨k - 1, by omega⟩
    simp only [script_Lay.l0, List.append_nil]
    rw [if_neg (by omega), (show check_Seal.f k acc = _ from hK k (by omega))]
    rfl
  | x :: suf, pre, acc, hf, ha, hn => by
    simp only [List.length_cons] at ha hn
    obtain ⟨e, he, hr⟩ := may_is x
    by_cases h0 : e = 0
    · have hx := hr.1 h0
      have h5 := hx.2.2.2.2
      obtain ⟨res, ⟨K, hK⟩, g1, g2⟩ := lay_loop suf (pre ++ [x]) (acc ++ enc x) (fun y hy => hf y (by simp [hy])) (by rw [List.length_append, enc_len]; omega) (by simp; omega)
      refine ⟨res, ⟨K + 1, fun k hk => ?_⟩, fun h => ?_, fun h => ?_⟩
      · obtain ⟨k, rfl⟩ : ∃ m, k = m + 1 := ⟨k - 1, by omega⟩
        have hk' := hK k (by omega)
        simp only [script_Lay.l0]
        rw [rd_mid, if_pos (by simp only [List.length_append, List.length_cons]; omega), if_pos (by omega), if_pos (by simp only [List.length_append, List.length_cons]; omega), he, Option.bind_some, if_pos h0, one_is acc x (by omega) hx (hf x (by simp)), Option.bind_some, wr _ (by omega) (by omega)]
        have e1 : pre ++ [x] ++ suf = pre ++ x :: suf := by simp
        have e2 : (((pre ++ [x]).length : Nat) : Int) = (pre.length : Int) + 1 := by simp
        rw [e1, e2] at hk'
        exact hk'
      · rw [g1 (fun y hy => h y (by simp [hy]))]
        simp [encs, List.append_assoc]
      · exact g2 (fun h2 => h (fun y hy => by
          rcases List.mem_cons.1 hy with rfl | hy
          · exact hx
          · exact h2 y hy))
    · refine ⟨([], e), ⟨1, fun k hk => ?_⟩, fun h => absurd (hr.2 (h x (by simp))) h0, fun _ => h0⟩
      obtain ⟨k, rfl⟩ : ∃ m, k = m + 1 := ⟨k - 1, by omega⟩
      simp only [script_Lay.l0]
      rw [rd_mid, if_pos (by simp only [List.length_append, List.length_cons]; omega), if_pos (by omega), if_pos (by simp only [List.length_append, List.length_cons]; omega), he, Option.bind_some, if_neg h0]
theorem lay_any (l : List Ev) (hf : ∀ x ∈ l, Fits x) : ∃ res : List Int × Int, Evt (fun k => script_Lay.f k l) res ∧ ((∀ x ∈ l, Right x) → l.length ≤ 3000 → res = (sealed ([87, 83] ++ encs l), 0)) ∧ (res.2 = 0 → (∀ x ∈ l, Right x) ∧ l.length ≤ 3000) := by
  by_cases hn : l.length ≤ 3000
  · obtain ⟨res, hE, g1, g2⟩ := lay_loop l [] [87, 83] hf (by simp; omega) (by simpa using hn)
    refine ⟨res, hE.congr fun k => ?_, fun h _ => g1 h, fun h => ⟨?_, hn⟩⟩
    · unfold script_Lay.f
      rw [if_neg (by omega)]
      rfl
    · exact Classical.byContradiction fun h2 => g2 h2 h
  · refine ⟨([], 5), ⟨0, fun k _ => ?_⟩, fun _ h => absurd h hn, fun h => by simp at h⟩
    show script_Lay.f k l = _
    unfold script_Lay.f
    rw [if_pos (by omega)]
theorem cut_yes (t : List Int) : bytes_CutPrefix.f (87 :: 83 :: t) [87, 83] = some (t, true) := by
  have h : bytes_HasPrefix.f (87 :: 83 :: t) [87, 83] = some true := by simp [bytes_HasPrefix.f, Lib.hasPrefix, Lib.bytesOf, List.isPrefixOf]
  unfold bytes_CutPrefix.f
  rw [h, Option.bind_some, if_pos rfl, if_pos (by simp), if_pos (by simp; omega)]
  rfl
theorem cut_any (r : List Int) (hb : Bytes r) : ∃ res, bytes_CutPrefix.f r [87, 83] = some res ∧ (res.2 = true → r = 87 :: 83 :: res.1) := by
  by_cases h : ∃ t, r = 87 :: 83 :: t
  · obtain ⟨t, rfl⟩ := h
    exact ⟨_, cut_yes t, fun _ => rfl⟩
  · have hp : bytes_HasPrefix.f r [87, 83] = some false := by
      unfold bytes_HasPrefix.f Lib.hasPrefix
      congr 1
      rw [Bool.eq_false_iff]
      intro h2
      apply h
      rw [List.isPrefixOf_iff_prefix] at h2
      obtain ⟨t, ht⟩ := h2
      match r, hb with
      | [], _ => simp [Lib.bytesOf] at ht
      | [a], _ => simp [Lib.bytesOf] at ht
      | a :: b :: t', hb =>
        have ha := hb a (by simp)
        have hb' := hb b (by simp)
        simp only [Lib.bytesOf, List.map_cons, List.map_nil, List.cons_append, List.nil_append, List.cons.injEq] at ht
        have h1 := congrArg UInt8.toNat ht.1
        have h2 := congrArg UInt8.toNat ht.2.1
        simp only [UInt8.toNat_ofNat'] at h1 h2
        exact ⟨t', by rw [show a = 87 by omega, show b = 83 by omega]⟩
    refine ⟨(r, false), ?_, fun h => by simp at h⟩
    unfold bytes_CutPrefix.f
    rw [hp, Option.bind_some, if_neg (by simp)]
theorem sealed_open (c : List Int) (hl : c.length ≤ 80000000) (hb : Bytes c) : Bytes (sealed c) ∧ Evt (fun k => check_Open.f k (sealed c)) (c, 0) := by
  obtain ⟨s, h4, hcb, _, _⟩ := csum_spec c (by omega)
  have hB : Bytes (sealed c) := hb.app hcb
  refine ⟨hB, ?_⟩
  have h := open_ev (sealed c) (by simp [sealed]; omega) hB
  have e : (sealed c).length - 4 = c.length := by simp [sealed, h4]
  have e1 : (sealed c).take c.length = c := by simp [sealed]
  have e2 : (sealed c).drop c.length = csum c := by simp [sealed]
  rw [if_neg (by simp [sealed, h4]), e, e1, e2, if_pos rfl] at h
  exact h
theorem parse_laid (l : List Ev) (h : ∀ x ∈ l, Right x ∧ Fits x) (hn : l.length ≤ 3000) : Evt (fun k => script_Parse.f k (sealed ([87, 83] ++ encs l))) (l, 0) := by
  have hl := encs_len l (fun x hx => (h x hx).1)
  have hb : Bytes ([87, 83] ++ encs l) := Bytes.app (fun y hy => by simp at hy; omega) (encs_bytes l (fun x hx => (h x hx).2))
  obtain ⟨hB, hO⟩ := sealed_open ([87, 83] ++ encs l) (by simp; omega) hb
  have hp : Evt (fun k => script_Parse.l0 k (encs l) []) (l, 0) := ⟨l.length + 1, fun k hk => by simpa using parse_encs l [] h (by simpa using hn) k (by omega)⟩
  refine (Evt.bind (h := fun bt k => if bt.2 = 0 then ((bytes_CutPrefix.f bt.1 [87, 83]).bind fun bt => (if bt.2 = true then (script_Parse.l0 k bt.1 []) else (some ([], 3)))) else (some ([], bt.2))) hO (hp.congr fun k => ?_)).congr fun k => ?_
  · rw [if_pos rfl, show [87, 83] ++ encs l = 87 :: 83 :: encs l from rfl, cut_yes, Option.bind_some, if_pos rfl]
  · rfl
theorem parse_all (b : List Int) (hl : b.length ≤ 80000000) (hb : Bytes b) : ∃ res : List Ev × Int, Evt (fun k => script_Parse.f k b) res ∧ (res.2 ≠ 0 → res.1 = []) ∧ (res.2 = 0 → (∀ x ∈ res.1, Right x ∧ Fits x) ∧ res.1.length ≤ 3000 ∧ b = sealed ([87, 83] ++ encs res.1)) := by
  have hO := open_ev b (by omega) hb
  have fin : ∀ (bt : List Int × Int) (res : List Ev × Int), Evt (fun k => check_Open.f k b) bt → Evt (fun k => if bt.2 = 0 then ((bytes_CutPrefix.f bt.1 [87, 83]).bind fun bt => (if bt.2 = true then (script_Parse.l0 k bt.1 []) else (some ([], 3)))) else (some ([], bt.2))) res → Evt (fun k => script_Parse.f k b) res := fun bt res h1 h2 =>
    (Evt.bind (h := fun bt k => if bt.2 = 0 then ((bytes_CutPrefix.f bt.1 [87, 83]).bind fun bt => (if bt.2 = true then (script_Parse.l0 k bt.1 []) else (some ([], 3)))) else (some ([], bt.2))) h1 h2).congr fun k => rfl
  by_cases h4 : b.length < 4
  · rw [if_pos h4] at hO
    exact ⟨([], 4), fin _ _ hO ⟨0, fun k _ => by dsimp only; rw [if_neg (by decide)]⟩, fun _ => rfl, fun h => by simp at h⟩
  · rw [if_neg h4] at hO
    by_cases hs : csum (b.take (b.length - 4)) = b.drop (b.length - 4)
    · rw [if_pos hs] at hO
      obtain ⟨cp, hc, hcy⟩ := cut_any (b.take (b.length - 4)) (hb.take _)
      by_cases hy : cp.2 = true
      · have hr := hcy hy
        have hB : Bytes cp.1 := fun y hy' => hb.take _ y (by rw [hr]; simp [hy'])
        have hlen : cp.1.length ≤ b.length := by
          have := congrArg List.length hr
          simp only [List.length_take, List.length_cons] at this
          omega
        obtain ⟨res, g1, g2, g3⟩ := parse_any cp.1.length cp.1 [] (Nat.le_refl _) (by omega) hB (by simp)
        refine ⟨res, fin _ _ hO ⟨cp.1.length + 1, fun k hk => by dsimp only; rw [if_pos rfl, hc, Option.bind_some, if_pos hy]; exact g1 k (by omega)⟩, g2, fun h => ?_⟩
        obtain ⟨l, q1, q2, q3, q4⟩ := g3 h
        rw [List.nil_append] at q2 q4
        subst q2
        refine ⟨q1, q4, ?_⟩
        have hcut : b.take (b.length - 4) = [87, 83] ++ encs res.1 := by rw [hr, q3]; rfl
        rw [← hcut]
        unfold sealed
        rw [hs, List.take_append_drop]
      · exact ⟨([], 3), fin _ _ hO ⟨0, fun k _ => by dsimp only; rw [if_pos rfl, hc, Option.bind_some, if_neg hy]⟩, fun _ => rfl, fun h => by simp at h⟩
    · rw [if_neg hs] at hO
      exact ⟨([], 9), fin _ _ hO ⟨0, fun k _ => by dsimp only; rw [if_neg (by decide)]⟩, fun _ => rfl, fun h => by simp at h⟩
end Go.Proofs.Ytgjckdkpkgmbkaa.Q
