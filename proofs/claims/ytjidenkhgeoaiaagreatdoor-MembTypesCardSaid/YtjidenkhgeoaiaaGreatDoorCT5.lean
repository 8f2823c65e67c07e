import Derived.Test.YtjidenkhgeoaiaaGreatDoorCT4
-- F31
-- Written by xprint.py (a program of this session's, over the kit's printer) out of the translation. Not trusted: Lean checks it.
namespace Go.Proofs.YtjidenkhgeoaiaaGreatDoor.P
open Go.RowKit Go.Proofs.YtjidenkhgeoaiaaGreatDoorW.PrintWords Go.Proofs.YtjidenkhgeoaiaaGreatDoorW.PrintLast Go.Proofs.YtjidenkhgeoaiaaGreatDoorW.PrintMore Go.Proofs.YtjidenkhgeoaiaaGreatDoor.Hand
attribute [local go_sem] max2_int min2_int max_two min_two max_three min_three max_four min_four   -- for this text's walks alone
set_option linter.unusedVariables false
set_option linter.unusedSimpArgs false

/-! ### memb_header: function 31 -/
def memb_header.f (a0_0 : ByteArray) (a0_1 : Int) (a0_2 : Int) (a0_3 : Int) (a0_4 : Int) (a0_5 : Int) (a0_6 : ByteArray) (l0_7 : List Int) : Option (ByteArray × ByteArray × Int × Int × Int × Int × Int × Int × ByteArray) := (strf_Split.f a0_0).bind fun bt187 => (if bt187.2.2 = true then ((memb_Type.f a0_1).bind fun t190 => ((memb_first.f a0_6).bind fun t191 => (some (bt187.1, bt187.2.1, a0_2, a0_3, a0_4, a0_5, (l0_7.length : Int), t190, t191)))) else ((memb_first.f a0_0).bind fun t192 => ((memb_Type.f a0_1).bind fun t193 => ((memb_first.f a0_6).bind fun t194 => (some (bt187.1, t192, a0_2, a0_3, a0_4, a0_5, (l0_7.length : Int), t193, t194))))))
def memb_header.T4 : Bool × List (List Nat × List Nat) := (true, [([], []), ([], []), ([], []), ([2], [2]), ([], []), ([4], [4]), ([5], [5]), ([], []), ([7], [7]), ([8], [8]), ([], []), ([10], [10]), ([11, 9], [11]), ([0, 1, 3, 6, 9, 12], [0, 1, 3, 6, 9, 12]), ([13, 12, 0, 1, 2, 3, 4, 5, 6, 7, 8, 9, 10, 11, 12, 13], [13])])
def memb_header.B4 : List Nat := [0, 0, 0, 4, 0, 16, 48, 0, 128, 384, 0, 1024, 3968, 8191, 16383]
theorem memb_header.tab4 : rtab .any (opsOf Tryz.f31 4) = memb_header.T4 := by kernel_rfl
theorem memb_header.bits4 : waitsOk memb_header.T4.2 memb_header.B4 = true := by kernel_rfl
set_option maxHeartbeats 8000000 in
set_option maxRecDepth 100000 in
theorem memb_header.calls (a0_0 : ByteArray) (a0_1 : Int) (a0_2 : Int) (a0_3 : Int) (a0_4 : Int) (a0_5 : Int) (a0_6 : ByteArray) (A0_7 : Option Addr) (c0_7 : Nat) (l0_7 : List Int) (r1 : ByteArray) (r2 : ByteArray) (r3 : Int) (r4 : Int) (r5 : Int) (r6 : Int) (r7 : Int) (r8 : Int) (r9 : ByteArray) (w : World) (hr0_7 : Kd.C (Kd.int .u8) w A0_7 l0_7.length l0_7) (hc0_7 : l0_7.length ≤ c0_7) (h : memb_header.f a0_0 a0_1 a0_2 a0_3 a0_4 a0_5 a0_6 l0_7 = some (r1, r2, r3, r4, r5, r6, r7, r8, r9)) :
    Calls Tryz.prog 31 #[.agg #[.string a0_0, .int .i64 a0_1, .int .i64 a0_2, .int .i64 a0_3, .int .i64 a0_4, .int .i64 a0_5, .string a0_6, .slice A0_7 l0_7.length c0_7]] w fun e w' => e = .returned (.agg #[.string r1, .string r2, .int .i64 r3, .int .i64 r4, .int .i64 r5, .int .i64 r6, .int .i64 r7, .int .u8 r8, .string r9]) ∧ Below w.heap.size w w' := by
  have hu38 := Tryz.underlying38
  have hu43 := Tryz.underlying43
  have hu36 := Tryz.underlying36
  have HR0_7 := Aside0.mk hr0_7
  have HC0_7 := Aside0.mk hc0_7
  clear hr0_7 hc0_7
  have HB := Aside0.mk (Below.refl w.heap.size w)
  have H : ((strf_Split.f a0_0).bind fun bt187 => (if bt187.2.2 = true then ((memb_Type.f a0_1).bind fun t190 => ((memb_first.f a0_6).bind fun t191 => (some (bt187.1, bt187.2.1, a0_2, a0_3, a0_4, a0_5, (l0_7.length : Int), t190, t191)))) else ((memb_first.f a0_0).bind fun t192 => ((memb_Type.f a0_1).bind fun t193 => ((memb_first.f a0_6).bind fun t194 => (some (bt187.1, t192, a0_2, a0_3, a0_4, a0_5, (l0_7.length : Int), t193, t194))))))) = some (r1, r2, r3, r4, r5, r6, r7, r8, r9) := h
  clear h
  replace H := Option.bind_eq_some_iff.mp H
  obtain ⟨⟨t187, t188, t189⟩, A20, H⟩ := H
  replace H : (if t189 = true then ((memb_Type.f a0_1).bind fun t190 => ((memb_first.f a0_6).bind fun t191 => (some (t187, t188, a0_2, a0_3, a0_4, a0_5, (l0_7.length : Int), t190, t191)))) else ((memb_first.f a0_0).bind fun t192 => ((memb_Type.f a0_1).bind fun t193 => ((memb_first.f a0_6).bind fun t194 => (some (t187, t192, a0_2, a0_3, a0_4, a0_5, (l0_7.length : Int), t193, t194)))))) = some (r1, r2, r3, r4, r5, r6, r7, r8, r9) := H
  have A2 := Aside0.mk A20
  clear A20
  by_cases c3 : t189 = true
  · subst c3
    have H1 : ((memb_Type.f a0_1).bind fun t190 => ((memb_first.f a0_6).bind fun t191 => (some (t187, t188, a0_2, a0_3, a0_4, a0_5, (l0_7.length : Int), t190, t191)))) = some (r1, r2, r3, r4, r5, r6, r7, r8, r9) := by rw [if_pos rfl] at H; exact H
    clear H
    have H := H1
    clear H1
    replace H := Option.bind_eq_some_iff.mp H
    obtain ⟨t190, A40, H⟩ := H
    replace H : ((memb_first.f a0_6).bind fun t191 => (some (t187, t188, a0_2, a0_3, a0_4, a0_5, (l0_7.length : Int), t190, t191))) = some (r1, r2, r3, r4, r5, r6, r7, r8, r9) := H
    have A4 := Aside0.mk A40
    clear A40
    replace H := Option.bind_eq_some_iff.mp H
    obtain ⟨t191, A50, H⟩ := H
    replace H : (some (t187, t188, a0_2, a0_3, a0_4, a0_5, (l0_7.length : Int), t190, t191)) = some (r1, r2, r3, r4, r5, r6, r7, r8, r9) := H
    have A5 := Aside0.mk A50
    clear A50
    simp only [Option.some.injEq, Prod.mk.injEq] at H
    obtain ⟨rfl, rfl, rfl, rfl, rfl, rfl, rfl, rfl, rfl⟩ := H
    go_enter Tryz.func31, Tryz.ntmps31
    try go_wp2_with (first | ((with_reducible refine gate_dst (N := 1) rfl ?_); refine box_event ?hg (N := 1) ?hd (cs := #[.string a0_0, .int .i64 a0_1, .int .i64 a0_2, .int .i64 a0_3, .int .i64 a0_4, .int .i64 a0_5, .string a0_6, .slice A0_7 l0_7.length c0_7]) (t := 38) ?hr ?_; (case hd => rfl); (case hg => rfl); (case hr => first | (go_simp; done) | (go_simp; rfl)); intro gb185 hg w6 hbox hb; have n0_ := Aside0.mk (below_step (by repeat (first | (with_reducible first | exact HB.out | apply below_alloc | apply pw_below_drewN | apply below_drew1) | exact HB.out)) hb); have n1_ := Aside0.mk (hbox); have n2_ := Aside0.mk ((by rw [hg]; exact (below_size (by repeat (first | (with_reducible first | exact HB.out | apply below_alloc | apply pw_below_drewN | apply below_drew1) | exact HB.out))) : w.heap.size ≤ gb185)); have n3_ := Aside0.mk ((by rw [hg]; exact (below_size (by repeat (first | (with_reducible first | exact HB.out | apply below_alloc | apply pw_below_drewN | apply below_drew1) | exact HB.out))) : w.heap.size ≤ gb185)); clear HB; have HB := n0_; have BK185 := n1_; have GW185 := n2_; have GE185 := n3_; clear n0_ n1_ n2_ n3_; clear hb hbox hg) | ((with_reducible refine gate_dst (N := 2) rfl ?_); refine box_event ?hg (N := 2) ?hd (cs := #[.string (⟨#[]⟩ : ByteArray), .string (⟨#[]⟩ : ByteArray), .int .i64 0, .int .i64 0, .int .i64 0, .int .i64 0, .int .i64 0, .int .u8 0, .string (⟨#[]⟩ : ByteArray)]) (t := 43) ?hr ?_; (case hd => rfl); (case hg => rfl); (case hr => first | (go_simp; done) | (go_simp; rfl)); intro gb186 hg w7 hbox hb; have n0_ := Aside0.mk (blk_below (g := gb185) (o := .cells #[.string a0_0, .int .i64 a0_1, .int .i64 a0_2, .int .i64 a0_3, .int .i64 a0_4, .int .i64 a0_5, .string a0_6, .slice A0_7 l0_7.length c0_7] 38 (0, 0)) (by (with_reducible repeat (first | refine blk_drewN ?_ _ | refine blk_drew ?_ | refine blk_alloc ?_ _)); exact BK185.out) hb); have n1_ := Aside0.mk (below_step (by repeat (first | (with_reducible first | exact HB.out | apply below_alloc | apply pw_below_drewN | apply below_drew1 | refine below_set ?_ GE185.out) | exact HB.out)) hb); have n2_ := Aside0.mk (hbox); have n3_ := Aside0.mk ((by rw [hg]; exact (below_size (by repeat (first | (with_reducible first | exact HB.out | apply below_alloc | apply pw_below_drewN | apply below_drew1 | refine below_set ?_ GE185.out) | exact HB.out))) : w.heap.size ≤ gb186)); have n4_ := Aside0.mk ((by rw [hg]; exact (below_size (by repeat (first | (with_reducible first | exact HB.out | apply below_alloc | apply pw_below_drewN | apply below_drew1 | refine below_set ?_ GE185.out) | exact HB.out))) : w.heap.size ≤ gb186)); have n5_ := Aside0.mk ((by rw [hg]; exact Nat.ne_of_lt (blk_lt (g := gb185) (o := .cells #[.string a0_0, .int .i64 a0_1, .int .i64 a0_2, .int .i64 a0_3, .int .i64 a0_4, .int .i64 a0_5, .string a0_6, .slice A0_7 l0_7.length c0_7] 38 (0, 0)) (by (with_reducible repeat (first | refine blk_drewN ?_ _ | refine blk_drew ?_ | refine blk_alloc ?_ _)); exact BK185.out)) : gb185 ≠ gb186)); have n6_ := Aside0.mk ((by rw [hg]; exact Nat.ne_of_gt (blk_lt (g := gb185) (o := .cells #[.string a0_0, .int .i64 a0_1, .int .i64 a0_2, .int .i64 a0_3, .int .i64 a0_4, .int .i64 a0_5, .string a0_6, .slice A0_7 l0_7.length c0_7] 38 (0, 0)) (by (with_reducible repeat (first | refine blk_drewN ?_ _ | refine blk_drew ?_ | refine blk_alloc ?_ _)); exact BK185.out)) : gb186 ≠ gb185)); clear BK185; clear HB; have BK185 := n0_; have HB := n1_; have BK186 := n2_; have GW186 := n3_; have GE186 := n4_; have NB185_186 := n5_; have NB186_185 := n6_; clear n0_ n1_ n2_ n3_ n4_ n5_ n6_; clear hb hbox hg; have hnb8 := NB185_186.out; have hnc8 := NB186_185.out; have hcz9_0 : w7.cell? ⟨gb185, 0, none⟩ = some (.string a0_0) := (blk_cell BK185.out 0).trans rfl; have hcz9_1 : w7.cell? ⟨gb185, 1, none⟩ = some (.int .i64 a0_1) := (blk_cell BK185.out 1).trans rfl; have hcz9_2 : w7.cell? ⟨gb185, 2, none⟩ = some (.int .i64 a0_2) := (blk_cell BK185.out 2).trans rfl; have hcz9_3 : w7.cell? ⟨gb185, 3, none⟩ = some (.int .i64 a0_3) := (blk_cell BK185.out 3).trans rfl; have hcz9_4 : w7.cell? ⟨gb185, 4, none⟩ = some (.int .i64 a0_4) := (blk_cell BK185.out 4).trans rfl; have hcz9_5 : w7.cell? ⟨gb185, 5, none⟩ = some (.int .i64 a0_5) := (blk_cell BK185.out 5).trans rfl; have hcz9_6 : w7.cell? ⟨gb185, 6, none⟩ = some (.string a0_6) := (blk_cell BK185.out 6).trans rfl; have hcz9_7 : w7.cell? ⟨gb185, 7, none⟩ = some (.slice A0_7 l0_7.length c0_7) := (blk_cell BK185.out 7).trans rfl; have hfz9_0 := blk_frozen BK185.out 0; have hfz9_1 := blk_frozen BK185.out 1; have hfz9_2 := blk_frozen BK185.out 2; have hfz9_3 := blk_frozen BK185.out 3; have hfz9_4 := blk_frozen BK185.out 4; have hfz9_5 := blk_frozen BK185.out 5; have hfz9_6 := blk_frozen BK185.out 6; have hfz9_7 := blk_frozen BK185.out 7) | ((with_reducible refine gate_callee (f := 53) rfl ?_); refine goesL_ (some 9) rfl rfl Tryz.func53 (by kernel_rfl) rfl #[.string a0_0] rfl (by (try simp only [List.map_toArray, List.map_cons, List.map_nil]); first | done | rfl | (simp only [List.length_drop, List.length_take]; rfl)) ?_; (with_reducible refine (strf_Split.calls a0_0 t187 t188 true _ A2.out).mono ?_); rintro e w10 ⟨rfl, hb⟩; refine ⟨_, rfl, ?_⟩; have n0_ := Aside0.mk (blk_below (g := gb185) (o := .cells #[.string a0_0, .int .i64 a0_1, .int .i64 a0_2, .int .i64 a0_3, .int .i64 a0_4, .int .i64 a0_5, .string a0_6, .slice A0_7 l0_7.length c0_7] 38 (0, 0)) (by (with_reducible repeat (first | refine blk_drewN ?_ _ | refine blk_drew ?_ | refine blk_alloc ?_ _)); exact BK185.out) hb); have n1_ := Aside0.mk (blk_below (g := gb186) (o := .cells #[.string (⟨#[]⟩ : ByteArray), .string (⟨#[]⟩ : ByteArray), .int .i64 0, .int .i64 0, .int .i64 0, .int .i64 0, .int .i64 0, .int .u8 0, .string (⟨#[]⟩ : ByteArray)] 43 (0, 0)) (by (with_reducible repeat (first | refine blk_drewN ?_ _ | refine blk_drew ?_ | refine blk_alloc ?_ _)); exact BK186.out) hb); have n2_ := Aside0.mk (below_step (by repeat (first | (with_reducible first | exact HB.out | apply below_alloc | apply pw_below_drewN | apply below_drew1 | refine below_set ?_ GE185.out | refine below_set ?_ GE186.out) | exact HB.out)) hb); clear BK185; clear BK186; clear HB; have BK185 := n0_; have BK186 := n1_; have HB := n2_; clear n0_ n1_ n2_; (try clear hb); (try clear hb2); (try clear hk); (try clear hi)))
    have n0_ := Aside0.mk (blk_drew BK185.out)
    have n1_ := Aside0.mk (blk_drew BK186.out)
    have n2_ := Aside0.mk (below_drew1 HB.out)
    clear BK185
    clear BK186
    clear HB
    have BK185 := n0_
    have BK186 := n1_
    have HB := n2_
    clear n0_ n1_ n2_
    refine start_ (n := 15) (S := fun w' => w'.cell? ⟨gb185, 0, none⟩ = some (.string a0_0) ∧ w'.cell? ⟨gb185, 1, none⟩ = some (.int .i64 a0_1) ∧ w'.cell? ⟨gb185, 2, none⟩ = some (.int .i64 a0_2) ∧ w'.cell? ⟨gb185, 3, none⟩ = some (.int .i64 a0_3) ∧ w'.cell? ⟨gb185, 4, none⟩ = some (.int .i64 a0_4) ∧ w'.cell? ⟨gb185, 5, none⟩ = some (.int .i64 a0_5) ∧ w'.cell? ⟨gb185, 6, none⟩ = some (.string a0_6) ∧ w'.cell? ⟨gb185, 7, none⟩ = some (.slice A0_7 l0_7.length c0_7)) (ds := []) #[false, false, false, false, false, false, false, false, false, false, false, false, false, false, false] (by kernel_rfl) rfl rfl ⟨(blk_cell BK185.out 0).trans rfl, (blk_cell BK185.out 1).trans rfl, (blk_cell BK185.out 2).trans rfl, (blk_cell BK185.out 3).trans rfl, (blk_cell BK185.out 4).trans rfl, (blk_cell BK185.out 5).trans rfl, (blk_cell BK185.out 6).trans rfl, (blk_cell BK185.out 7).trans rfl⟩ (fun hHeld => ?_); refine with_tabW memb_header.tab4 memb_header.bits4 (fun HT_ HW_ => ?_)
    generalize w10.drew = w11 at BK185 BK186 HB hHeld ⊢
    refine pure_ (i := 0) (N := some 18) (v := ?_) (a' := ?_) #[true, false, false, false, false, false, false, false, false, false, false, false, false, false, false] rfl rfl (any_of HT_.out (by kernel_rfl)) (fun _ _ _ h => h) (Or.inl ⟨by rfl, ?_⟩) ?_ ?_
    rotate_left
    · intro w'
      go_simp
      with_reducible rfl
    rotate_left
    · simp only [Act.put, List.setIfInBounds_toArray, List.set_cons_zero, List.set_cons_succ, i64_w, i32_w]
      rfl
    refine pure_ (i := 1) (N := some 19) (v := ?_) (a' := ?_) #[true, true, false, false, false, false, false, false, false, false, false, false, false, false, false] rfl rfl (any_of HT_.out (by kernel_rfl)) (fun _ _ _ h => h) (Or.inl ⟨by rfl, ?_⟩) ?_ ?_
    rotate_left
    · intro w'
      go_simp
      with_reducible rfl
    rotate_left
    · simp only [Act.put, List.setIfInBounds_toArray, List.set_cons_zero, List.set_cons_succ, i64_w, i32_w]
      rfl
    refine pure_ (i := 2) (N := some 20) (v := ?_) (a' := ?_) #[true, true, true, false, false, false, false, false, false, false, false, false, false, false, false] rfl rfl (any_of HT_.out (by kernel_rfl)) (fun _ _ _ h => h) (Or.inl ⟨by rfl, ?_⟩) ?_ ?_
    rotate_left
    · intro w'
      go_simp
      with_reducible rfl
    rotate_left
    · simp only [Act.put, List.setIfInBounds_toArray, List.set_cons_zero, List.set_cons_succ, i64_w, i32_w]
      rfl
    refine pure_ (i := 4) (N := some 22) (v := ?_) (a' := ?_) #[true, true, true, false, true, false, false, false, false, false, false, false, false, false, false] rfl rfl (any_of HT_.out (by kernel_rfl)) (fun _ _ _ h => h) (Or.inl ⟨by rfl, ?_⟩) ?_ ?_
    rotate_left
    · intro w'
      go_simp
      with_reducible rfl
    rotate_left
    · simp only [Act.put, List.setIfInBounds_toArray, List.set_cons_zero, List.set_cons_succ, i64_w, i32_w]
      rfl
    refine pure_ (i := 7) (N := some 25) (v := ?_) (a' := ?_) #[true, true, true, false, true, false, false, true, false, false, false, false, false, false, false] rfl rfl (any_of HT_.out (by kernel_rfl)) (fun _ _ _ h => h) (Or.inl ⟨by rfl, ?_⟩) ?_ ?_
    rotate_left
    · intro w'
      go_simp
      with_reducible rfl
    rotate_left
    · simp only [Act.put, List.setIfInBounds_toArray, List.set_cons_zero, List.set_cons_succ, i64_w, i32_w]
      rfl
    refine pure_ (i := 10) (N := some 28) (v := ?_) (a' := ?_) #[true, true, true, false, true, false, false, true, false, false, true, false, false, false, false] rfl rfl (any_of HT_.out (by kernel_rfl)) (fun _ _ _ h => h) (Or.inl ⟨by rfl, ?_⟩) ?_ ?_
    rotate_left
    · intro w'
      go_simp
      with_reducible rfl
    rotate_left
    · simp only [Act.put, List.setIfInBounds_toArray, List.set_cons_zero, List.set_cons_succ, i64_w, i32_w]
      rfl
    refine take_ (i := 3) (N := some 21) (v := ?_) (a' := ?_) #[true, true, true, true, true, false, false, true, false, false, true, false, false, false, false] rfl rfl (take_ofW HT_.out HW_.out (by kernel_rfl)) (fun _ _ _ h => h) (Or.inl ⟨by rfl, ?_⟩) hHeld ?_ ?_
    rotate_left
    · rintro w' ⟨s0, s1, s2, s3, s4, s5, s6, s7⟩
      go_simp
      with_reducible rfl
    rotate_left
    · simp only [Act.put, List.setIfInBounds_toArray, List.set_cons_zero, List.set_cons_succ, i64_w, i32_w]
      rfl
    refine take_ (i := 5) (N := some 23) (v := ?_) (a' := ?_) #[true, true, true, true, true, true, false, true, false, false, true, false, false, false, false] rfl rfl (take_ofW HT_.out HW_.out (by kernel_rfl)) (fun _ _ _ h => h) (Or.inl ⟨by rfl, ?_⟩) hHeld ?_ ?_
    rotate_left
    · rintro w' ⟨s0, s1, s2, s3, s4, s5, s6, s7⟩
      go_simp
      with_reducible rfl
    rotate_left
    · simp only [Act.put, List.setIfInBounds_toArray, List.set_cons_zero, List.set_cons_succ, i64_w, i32_w]
      rfl
    refine pure_ (i := 6) (N := some 24) (v := ?_) (a' := ?_) #[true, true, true, true, true, true, true, true, false, false, true, false, false, false, false] rfl rfl (any_of HT_.out (by kernel_rfl)) (fun _ _ _ h => h) (Or.inl ⟨by rfl, ?_⟩) ?_ ?_
    rotate_left
    · intro w'
      go_simp
      with_reducible rfl
    rotate_left
    · simp only [Act.put, List.setIfInBounds_toArray, List.set_cons_zero, List.set_cons_succ, i64_w, i32_w]
      rfl
    refine take_ (i := 8) (N := some 26) (v := ?_) (a' := ?_) #[true, true, true, true, true, true, true, true, true, false, true, false, false, false, false] rfl rfl (take_ofW HT_.out HW_.out (by kernel_rfl)) (fun _ _ _ h => h) (Or.inl ⟨by rfl, ?_⟩) hHeld ?_ ?_
    rotate_left
    · rintro w' ⟨s0, s1, s2, s3, s4, s5, s6, s7⟩
      go_simp
      with_reducible rfl
    rotate_left
    · simp only [Act.put, List.setIfInBounds_toArray, List.set_cons_zero, List.set_cons_succ, i64_w, i32_w]
      rfl
    refine take_ (i := 11) (N := some 29) (v := ?_) (a' := ?_) #[true, true, true, true, true, true, true, true, true, false, true, true, false, false, false] rfl rfl (take_ofW HT_.out HW_.out (by kernel_rfl)) (fun _ _ _ h => h) (Or.inl ⟨by rfl, ?_⟩) hHeld ?_ ?_
    rotate_left
    · rintro w' ⟨s0, s1, s2, s3, s4, s5, s6, s7⟩
      go_simp
      with_reducible rfl
    rotate_left
    · simp only [Act.put, List.setIfInBounds_toArray, List.set_cons_zero, List.set_cons_succ, i64_w, i32_w]
      rfl
    refine one_ (i := 9) (N := some 27) #[true, true, true, true, true, true, true, true, true, true, true, true, false, false, false] rfl rfl (one_of HT_.out (by kernel_rfl)) (by decide) (fun K hK => ?_)
    refine goes_ Tryz.func6 (by kernel_rfl) rfl #[.int .i64 a0_1] (by rfl) rfl rfl (by (try simp only [List.map_toArray, List.map_cons, List.map_nil]); first | done | rfl | (simp only [List.length_drop, List.length_take]; rfl)) ?_
    with_reducible refine (memb_Type.calls a0_1 t190 _ A4.out).mono ?_
    rintro e w' ⟨rfl, ⟨nd, rfl⟩⟩
    refine ⟨_, rfl, ?_⟩
    refine hK.out _ _ ⟨(blk_cell BK185.out 0).trans rfl, (blk_cell BK185.out 1).trans rfl, (blk_cell BK185.out 2).trans rfl, (blk_cell BK185.out 3).trans rfl, (blk_cell BK185.out 4).trans rfl, (blk_cell BK185.out 5).trans rfl, (blk_cell BK185.out 6).trans rfl, (blk_cell BK185.out 7).trans rfl⟩ (fun hHeld => ?_)
    clear hK K
    refine norm_ (a' := ?_) ?_ ?_
    rotate_left
    · show Act.put _ (some 27) _ = _
      simp only [Act.put, List.setIfInBounds_toArray, List.set_cons_zero, List.set_cons_succ, i64_w, i32_w]
      rfl
    refine one_ (i := 12) (N := some 30) #[true, true, true, true, true, true, true, true, true, true, true, true, true, false, false] rfl rfl (one_of HT_.out (by kernel_rfl)) (by decide) (fun K hK => ?_)
    refine goes_ Tryz.func54 (by kernel_rfl) rfl #[.string a0_6] (by rfl) rfl rfl (by (try simp only [List.map_toArray, List.map_cons, List.map_nil]); first | done | rfl | (simp only [List.length_drop, List.length_take]; rfl)) ?_
    with_reducible refine (memb_first.calls a0_6 t191 _ A5.out).mono ?_
    rintro e w12 ⟨rfl, hb⟩
    refine ⟨_, rfl, ?_⟩
    have n0_ := Aside0.mk (blk_below (g := gb185) (o := .cells #[.string a0_0, .int .i64 a0_1, .int .i64 a0_2, .int .i64 a0_3, .int .i64 a0_4, .int .i64 a0_5, .string a0_6, .slice A0_7 l0_7.length c0_7] 38 (0, 0)) (by (with_reducible repeat (first | refine blk_drewN ?_ _ | refine blk_drew ?_ | refine blk_alloc ?_ _)); exact BK185.out) hb)
    have n1_ := Aside0.mk (blk_below (g := gb186) (o := .cells #[.string (⟨#[]⟩ : ByteArray), .string (⟨#[]⟩ : ByteArray), .int .i64 0, .int .i64 0, .int .i64 0, .int .i64 0, .int .i64 0, .int .u8 0, .string (⟨#[]⟩ : ByteArray)] 43 (0, 0)) (by (with_reducible repeat (first | refine blk_drewN ?_ _ | refine blk_drew ?_ | refine blk_alloc ?_ _)); exact BK186.out) hb)
    have n2_ := Aside0.mk (below_step (by repeat (first | (with_reducible first | exact HB.out | apply below_alloc | apply pw_below_drewN | apply below_drew1 | refine below_set ?_ GE185.out | refine below_set ?_ GE186.out) | exact HB.out)) hb)
    clear BK185
    clear BK186
    clear HB
    have BK185 := n0_
    have BK186 := n1_
    have HB := n2_
    clear n0_ n1_ n2_
    (try clear hb)
    (try clear hb2)
    (try clear hk)
    (try clear hi)
    refine hK.out _ _ ⟨(blk_cell BK185.out 0).trans rfl, (blk_cell BK185.out 1).trans rfl, (blk_cell BK185.out 2).trans rfl, (blk_cell BK185.out 3).trans rfl, (blk_cell BK185.out 4).trans rfl, (blk_cell BK185.out 5).trans rfl, (blk_cell BK185.out 6).trans rfl, (blk_cell BK185.out 7).trans rfl⟩ (fun hHeld => ?_)
    clear hK K
    refine norm_ (a' := ?_) ?_ ?_
    rotate_left
    · show Act.put _ (some 30) _ = _
      simp only [Act.put, List.setIfInBounds_toArray, List.set_cons_zero, List.set_cons_succ, i64_w, i32_w]
      rfl
    refine pure_ (i := 13) (N := some 31) (v := ?_) (a' := ?_) #[true, true, true, true, true, true, true, true, true, true, true, true, true, true, false] rfl rfl (any_of HT_.out (by kernel_rfl)) (fun _ _ _ h => h) (Or.inl ⟨by rfl, ?_⟩) ?_ ?_
    rotate_left
    · intro w'
      go_simp
      with_reducible rfl
    rotate_left
    · simp only [Act.put, List.setIfInBounds_toArray, List.set_cons_zero, List.set_cons_succ, i64_w, i32_w]
      rfl
    refine one_ (i := 14) (N := none) #[true, true, true, true, true, true, true, true, true, true, true, true, true, true, true] rfl rfl (one_of HT_.out (by kernel_rfl)) (by decide) (fun K hK => ?_)
    have hs13 : w12.cell? ⟨gb186, 0, none⟩ = some (.string (⟨#[]⟩ : ByteArray)) := (blk_cell BK186.out 0).trans rfl
    have hfs13 := blk_frozen BK186.out 0
    have hns13_0 := NB185_186.out
    have hms13_0 := NB186_185.out
    have hs14 : w12.cell? ⟨gb186, 1, none⟩ = some (.string (⟨#[]⟩ : ByteArray)) := (blk_cell BK186.out 1).trans rfl
    have hfs14 := blk_frozen BK186.out 1
    have hns14_0 := NB185_186.out
    have hms14_0 := NB186_185.out
    have hs15 : w12.cell? ⟨gb186, 2, none⟩ = some (.int .i64 0) := (blk_cell BK186.out 2).trans rfl
    have hfs15 := blk_frozen BK186.out 2
    have hns15_0 := NB185_186.out
    have hms15_0 := NB186_185.out
    have hs16 : w12.cell? ⟨gb186, 3, none⟩ = some (.int .i64 0) := (blk_cell BK186.out 3).trans rfl
    have hfs16 := blk_frozen BK186.out 3
    have hns16_0 := NB185_186.out
    have hms16_0 := NB186_185.out
    have hs17 : w12.cell? ⟨gb186, 4, none⟩ = some (.int .i64 0) := (blk_cell BK186.out 4).trans rfl
    have hfs17 := blk_frozen BK186.out 4
    have hns17_0 := NB185_186.out
    have hms17_0 := NB186_185.out
    have hs18 : w12.cell? ⟨gb186, 5, none⟩ = some (.int .i64 0) := (blk_cell BK186.out 5).trans rfl
    have hfs18 := blk_frozen BK186.out 5
    have hns18_0 := NB185_186.out
    have hms18_0 := NB186_185.out
    have hs19 : w12.cell? ⟨gb186, 6, none⟩ = some (.int .i64 0) := (blk_cell BK186.out 6).trans rfl
    have hfs19 := blk_frozen BK186.out 6
    have hns19_0 := NB185_186.out
    have hms19_0 := NB186_185.out
    have hs20 : w12.cell? ⟨gb186, 7, none⟩ = some (.int .u8 0) := (blk_cell BK186.out 7).trans rfl
    have hfs20 := blk_frozen BK186.out 7
    have hns20_0 := NB185_186.out
    have hms20_0 := NB186_185.out
    have hs21 : w12.cell? ⟨gb186, 8, none⟩ = some (.string (⟨#[]⟩ : ByteArray)) := (blk_cell BK186.out 8).trans rfl
    have hfs21 := blk_frozen BK186.out 8
    have hns21_0 := NB185_186.out
    have hms21_0 := NB186_185.out
    refine skip_ (w1 := ?_) (by rfl) rfl ?_ ?_
    rotate_left
    · go_simp
      rfl
    refine hK.out _ _ ⟨((cell_far (p := ⟨gb186, _, none⟩) NB185_186.out _).trans (((cell_far (p := ⟨gb186, _, none⟩) NB185_186.out _).trans (((cell_far (p := ⟨gb186, _, none⟩) NB185_186.out _).trans (((cell_far (p := ⟨gb186, _, none⟩) NB185_186.out _).trans (((cell_far (p := ⟨gb186, _, none⟩) NB185_186.out _).trans (((cell_far (p := ⟨gb186, _, none⟩) NB185_186.out _).trans (((cell_far (p := ⟨gb186, _, none⟩) NB185_186.out _).trans (((cell_far (p := ⟨gb186, _, none⟩) NB185_186.out _).trans (((cell_far (p := ⟨gb186, _, none⟩) NB185_186.out _).trans (hHeld.1)))))))))))))))))), ((cell_far (p := ⟨gb186, _, none⟩) NB185_186.out _).trans (((cell_far (p := ⟨gb186, _, none⟩) NB185_186.out _).trans (((cell_far (p := ⟨gb186, _, none⟩) NB185_186.out _).trans (((cell_far (p := ⟨gb186, _, none⟩) NB185_186.out _).trans (((cell_far (p := ⟨gb186, _, none⟩) NB185_186.out _).trans (((cell_far (p := ⟨gb186, _, none⟩) NB185_186.out _).trans (((cell_far (p := ⟨gb186, _, none⟩) NB185_186.out _).trans (((cell_far (p := ⟨gb186, _, none⟩) NB185_186.out _).trans (((cell_far (p := ⟨gb186, _, none⟩) NB185_186.out _).trans (hHeld.2.1)))))))))))))))))), ((cell_far (p := ⟨gb186, _, none⟩) NB185_186.out _).trans (((cell_far (p := ⟨gb186, _, none⟩) NB185_186.out _).trans (((cell_far (p := ⟨gb186, _, none⟩) NB185_186.out _).trans (((cell_far (p := ⟨gb186, _, none⟩) NB185_186.out _).trans (((cell_far (p := ⟨gb186, _, none⟩) NB185_186.out _).trans (((cell_far (p := ⟨gb186, _, none⟩) NB185_186.out _).trans (((cell_far (p := ⟨gb186, _, none⟩) NB185_186.out _).trans (((cell_far (p := ⟨gb186, _, none⟩) NB185_186.out _).trans (((cell_far (p := ⟨gb186, _, none⟩) NB185_186.out _).trans (hHeld.2.2.1)))))))))))))))))), ((cell_far (p := ⟨gb186, _, none⟩) NB185_186.out _).trans (((cell_far (p := ⟨gb186, _, none⟩) NB185_186.out _).trans (((cell_far (p := ⟨gb186, _, none⟩) NB185_186.out _).trans (((cell_far (p := ⟨gb186, _, none⟩) NB185_186.out _).trans (((cell_far (p := ⟨gb186, _, none⟩) NB185_186.out _).trans (((cell_far (p := ⟨gb186, _, none⟩) NB185_186.out _).trans (((cell_far (p := ⟨gb186, _, none⟩) NB185_186.out _).trans (((cell_far (p := ⟨gb186, _, none⟩) NB185_186.out _).trans (((cell_far (p := ⟨gb186, _, none⟩) NB185_186.out _).trans (hHeld.2.2.2.1)))))))))))))))))), ((cell_far (p := ⟨gb186, _, none⟩) NB185_186.out _).trans (((cell_far (p := ⟨gb186, _, none⟩) NB185_186.out _).trans (((cell_far (p := ⟨gb186, _, none⟩) NB185_186.out _).trans (((cell_far (p := ⟨gb186, _, none⟩) NB185_186.out _).trans (((cell_far (p := ⟨gb186, _, none⟩) NB185_186.out _).trans (((cell_far (p := ⟨gb186, _, none⟩) NB185_186.out _).trans (((cell_far (p := ⟨gb186, _, none⟩) NB185_186.out _).trans (((cell_far (p := ⟨gb186, _, none⟩) NB185_186.out _).trans (((cell_far (p := ⟨gb186, _, none⟩) NB185_186.out _).trans (hHeld.2.2.2.2.1)))))))))))))))))), ((cell_far (p := ⟨gb186, _, none⟩) NB185_186.out _).trans (((cell_far (p := ⟨gb186, _, none⟩) NB185_186.out _).trans (((cell_far (p := ⟨gb186, _, none⟩) NB185_186.out _).trans (((cell_far (p := ⟨gb186, _, none⟩) NB185_186.out _).trans (((cell_far (p := ⟨gb186, _, none⟩) NB185_186.out _).trans (((cell_far (p := ⟨gb186, _, none⟩) NB185_186.out _).trans (((cell_far (p := ⟨gb186, _, none⟩) NB185_186.out _).trans (((cell_far (p := ⟨gb186, _, none⟩) NB185_186.out _).trans (((cell_far (p := ⟨gb186, _, none⟩) NB185_186.out _).trans (hHeld.2.2.2.2.2.1)))))))))))))))))), ((cell_far (p := ⟨gb186, _, none⟩) NB185_186.out _).trans (((cell_far (p := ⟨gb186, _, none⟩) NB185_186.out _).trans (((cell_far (p := ⟨gb186, _, none⟩) NB185_186.out _).trans (((cell_far (p := ⟨gb186, _, none⟩) NB185_186.out _).trans (((cell_far (p := ⟨gb186, _, none⟩) NB185_186.out _).trans (((cell_far (p := ⟨gb186, _, none⟩) NB185_186.out _).trans (((cell_far (p := ⟨gb186, _, none⟩) NB185_186.out _).trans (((cell_far (p := ⟨gb186, _, none⟩) NB185_186.out _).trans (((cell_far (p := ⟨gb186, _, none⟩) NB185_186.out _).trans (hHeld.2.2.2.2.2.2.1)))))))))))))))))), ((cell_far (p := ⟨gb186, _, none⟩) NB185_186.out _).trans (((cell_far (p := ⟨gb186, _, none⟩) NB185_186.out _).trans (((cell_far (p := ⟨gb186, _, none⟩) NB185_186.out _).trans (((cell_far (p := ⟨gb186, _, none⟩) NB185_186.out _).trans (((cell_far (p := ⟨gb186, _, none⟩) NB185_186.out _).trans (((cell_far (p := ⟨gb186, _, none⟩) NB185_186.out _).trans (((cell_far (p := ⟨gb186, _, none⟩) NB185_186.out _).trans (((cell_far (p := ⟨gb186, _, none⟩) NB185_186.out _).trans (((cell_far (p := ⟨gb186, _, none⟩) NB185_186.out _).trans (hHeld.2.2.2.2.2.2.2))))))))))))))))))⟩ (fun hHeld => ?_)
    clear hK K
    refine done_ (done_of HT_.out (by kernel_rfl)) ?_
    try go_wp2
    refine bodyPost_ret (results_cell_row rfl _ _ gb186 43 #[.string t187, .string t188, .int .i64 a0_2, .int .i64 a0_3, .int .i64 a0_4, .int .i64 a0_5, .int .i64 (l0_7.length : Int), .int .u8 t190, .string t191] (0, 0) _ rfl (by (with_reducible repeat (first | refine blk_drewN ?_ _ | refine blk_drew ?_ | refine blk_alloc ?_ _)); refine blk_put (cs := #[.string t187, .string t188, .int .i64 a0_2, .int .i64 a0_3, .int .i64 a0_4, .int .i64 a0_5, .int .i64 (l0_7.length : Int), .int .u8 t190, .string (⟨#[]⟩ : ByteArray)]) ?_ 8 _ rfl; (with_reducible repeat (first | refine blk_drewN ?_ _ | refine blk_drew ?_ | refine blk_alloc ?_ _)); refine blk_put (cs := #[.string t187, .string t188, .int .i64 a0_2, .int .i64 a0_3, .int .i64 a0_4, .int .i64 a0_5, .int .i64 (l0_7.length : Int), .int .u8 0, .string (⟨#[]⟩ : ByteArray)]) ?_ 7 _ rfl; (with_reducible repeat (first | refine blk_drewN ?_ _ | refine blk_drew ?_ | refine blk_alloc ?_ _)); refine blk_put (cs := #[.string t187, .string t188, .int .i64 a0_2, .int .i64 a0_3, .int .i64 a0_4, .int .i64 a0_5, .int .i64 0, .int .u8 0, .string (⟨#[]⟩ : ByteArray)]) ?_ 6 _ rfl; (with_reducible repeat (first | refine blk_drewN ?_ _ | refine blk_drew ?_ | refine blk_alloc ?_ _)); refine blk_put (cs := #[.string t187, .string t188, .int .i64 a0_2, .int .i64 a0_3, .int .i64 a0_4, .int .i64 0, .int .i64 0, .int .u8 0, .string (⟨#[]⟩ : ByteArray)]) ?_ 5 _ rfl; (with_reducible repeat (first | refine blk_drewN ?_ _ | refine blk_drew ?_ | refine blk_alloc ?_ _)); refine blk_put (cs := #[.string t187, .string t188, .int .i64 a0_2, .int .i64 a0_3, .int .i64 0, .int .i64 0, .int .i64 0, .int .u8 0, .string (⟨#[]⟩ : ByteArray)]) ?_ 4 _ rfl; (with_reducible repeat (first | refine blk_drewN ?_ _ | refine blk_drew ?_ | refine blk_alloc ?_ _)); refine blk_put (cs := #[.string t187, .string t188, .int .i64 a0_2, .int .i64 0, .int .i64 0, .int .i64 0, .int .i64 0, .int .u8 0, .string (⟨#[]⟩ : ByteArray)]) ?_ 3 _ rfl; (with_reducible repeat (first | refine blk_drewN ?_ _ | refine blk_drew ?_ | refine blk_alloc ?_ _)); refine blk_put (cs := #[.string t187, .string t188, .int .i64 0, .int .i64 0, .int .i64 0, .int .i64 0, .int .i64 0, .int .u8 0, .string (⟨#[]⟩ : ByteArray)]) ?_ 2 _ rfl; (with_reducible repeat (first | refine blk_drewN ?_ _ | refine blk_drew ?_ | refine blk_alloc ?_ _)); refine blk_put (cs := #[.string t187, .string (⟨#[]⟩ : ByteArray), .int .i64 0, .int .i64 0, .int .i64 0, .int .i64 0, .int .i64 0, .int .u8 0, .string (⟨#[]⟩ : ByteArray)]) ?_ 1 _ rfl; (with_reducible repeat (first | refine blk_drewN ?_ _ | refine blk_drew ?_ | refine blk_alloc ?_ _)); refine blk_put (cs := #[.string (⟨#[]⟩ : ByteArray), .string (⟨#[]⟩ : ByteArray), .int .i64 0, .int .i64 0, .int .i64 0, .int .i64 0, .int .i64 0, .int .u8 0, .string (⟨#[]⟩ : ByteArray)]) ?_ 0 _ rfl; (with_reducible repeat (first | refine blk_drewN ?_ _ | refine blk_drew ?_ | refine blk_alloc ?_ _)); exact BK186.out) Tryz.underlying43 rfl (by kernel_rfl)) rfl ?_
    exact ⟨by first | rfl | (simp [errW_none, errW_some] <;> rfl) | (simp [*, errW_none, errW_some] <;> rfl), by repeat (first | (with_reducible first | exact HB.out | apply below_alloc | apply pw_below_drewN | apply below_drew1 | refine below_set ?_ GE185.out | refine below_set ?_ GE186.out) | exact HB.out)⟩
  · replace c3 := Bool.eq_false_iff.mpr c3
    subst c3
    have H1 : ((memb_first.f a0_0).bind fun t192 => ((memb_Type.f a0_1).bind fun t193 => ((memb_first.f a0_6).bind fun t194 => (some (t187, t192, a0_2, a0_3, a0_4, a0_5, (l0_7.length : Int), t193, t194))))) = some (r1, r2, r3, r4, r5, r6, r7, r8, r9) := by rw [if_neg (show ¬ (false = true) by decide)] at H; exact H
    clear H
    have H := H1
    clear H1
    replace H := Option.bind_eq_some_iff.mp H
    obtain ⟨t192, A220, H⟩ := H
    replace H : ((memb_Type.f a0_1).bind fun t193 => ((memb_first.f a0_6).bind fun t194 => (some (t187, t192, a0_2, a0_3, a0_4, a0_5, (l0_7.length : Int), t193, t194)))) = some (r1, r2, r3, r4, r5, r6, r7, r8, r9) := H
    have A22 := Aside0.mk A220
    clear A220
    replace H := Option.bind_eq_some_iff.mp H
    obtain ⟨t193, A230, H⟩ := H
    replace H : ((memb_first.f a0_6).bind fun t194 => (some (t187, t192, a0_2, a0_3, a0_4, a0_5, (l0_7.length : Int), t193, t194))) = some (r1, r2, r3, r4, r5, r6, r7, r8, r9) := H
    have A23 := Aside0.mk A230
    clear A230
    replace H := Option.bind_eq_some_iff.mp H
    obtain ⟨t194, A240, H⟩ := H
    replace H : (some (t187, t192, a0_2, a0_3, a0_4, a0_5, (l0_7.length : Int), t193, t194)) = some (r1, r2, r3, r4, r5, r6, r7, r8, r9) := H
    have A24 := Aside0.mk A240
    clear A240
    simp only [Option.some.injEq, Prod.mk.injEq] at H
    obtain ⟨rfl, rfl, rfl, rfl, rfl, rfl, rfl, rfl, rfl⟩ := H
    go_enter Tryz.func31, Tryz.ntmps31
    try go_wp2_with (first | ((with_reducible refine gate_dst (N := 1) rfl ?_); refine box_event ?hg (N := 1) ?hd (cs := #[.string a0_0, .int .i64 a0_1, .int .i64 a0_2, .int .i64 a0_3, .int .i64 a0_4, .int .i64 a0_5, .string a0_6, .slice A0_7 l0_7.length c0_7]) (t := 38) ?hr ?_; (case hd => rfl); (case hg => rfl); (case hr => first | (go_simp; done) | (go_simp; rfl)); intro gb185 hg w25 hbox hb; have n0_ := Aside0.mk (below_step (by repeat (first | (with_reducible first | exact HB.out | apply below_alloc | apply pw_below_drewN | apply below_drew1) | exact HB.out)) hb); have n1_ := Aside0.mk (hbox); have n2_ := Aside0.mk ((by rw [hg]; exact (below_size (by repeat (first | (with_reducible first | exact HB.out | apply below_alloc | apply pw_below_drewN | apply below_drew1) | exact HB.out))) : w.heap.size ≤ gb185)); have n3_ := Aside0.mk ((by rw [hg]; exact (below_size (by repeat (first | (with_reducible first | exact HB.out | apply below_alloc | apply pw_below_drewN | apply below_drew1) | exact HB.out))) : w.heap.size ≤ gb185)); clear HB; have HB := n0_; have BK185 := n1_; have GW185 := n2_; have GE185 := n3_; clear n0_ n1_ n2_ n3_; clear hb hbox hg) | ((with_reducible refine gate_dst (N := 2) rfl ?_); refine box_event ?hg (N := 2) ?hd (cs := #[.string (⟨#[]⟩ : ByteArray), .string (⟨#[]⟩ : ByteArray), .int .i64 0, .int .i64 0, .int .i64 0, .int .i64 0, .int .i64 0, .int .u8 0, .string (⟨#[]⟩ : ByteArray)]) (t := 43) ?hr ?_; (case hd => rfl); (case hg => rfl); (case hr => first | (go_simp; done) | (go_simp; rfl)); intro gb186 hg w26 hbox hb; have n0_ := Aside0.mk (blk_below (g := gb185) (o := .cells #[.string a0_0, .int .i64 a0_1, .int .i64 a0_2, .int .i64 a0_3, .int .i64 a0_4, .int .i64 a0_5, .string a0_6, .slice A0_7 l0_7.length c0_7] 38 (0, 0)) (by (with_reducible repeat (first | refine blk_drewN ?_ _ | refine blk_drew ?_ | refine blk_alloc ?_ _)); exact BK185.out) hb); have n1_ := Aside0.mk (below_step (by repeat (first | (with_reducible first | exact HB.out | apply below_alloc | apply pw_below_drewN | apply below_drew1 | refine below_set ?_ GE185.out) | exact HB.out)) hb); have n2_ := Aside0.mk (hbox); have n3_ := Aside0.mk ((by rw [hg]; exact (below_size (by repeat (first | (with_reducible first | exact HB.out | apply below_alloc | apply pw_below_drewN | apply below_drew1 | refine below_set ?_ GE185.out) | exact HB.out))) : w.heap.size ≤ gb186)); have n4_ := Aside0.mk ((by rw [hg]; exact (below_size (by repeat (first | (with_reducible first | exact HB.out | apply below_alloc | apply pw_below_drewN | apply below_drew1 | refine below_set ?_ GE185.out) | exact HB.out))) : w.heap.size ≤ gb186)); have n5_ := Aside0.mk ((by rw [hg]; exact Nat.ne_of_lt (blk_lt (g := gb185) (o := .cells #[.string a0_0, .int .i64 a0_1, .int .i64 a0_2, .int .i64 a0_3, .int .i64 a0_4, .int .i64 a0_5, .string a0_6, .slice A0_7 l0_7.length c0_7] 38 (0, 0)) (by (with_reducible repeat (first | refine blk_drewN ?_ _ | refine blk_drew ?_ | refine blk_alloc ?_ _)); exact BK185.out)) : gb185 ≠ gb186)); have n6_ := Aside0.mk ((by rw [hg]; exact Nat.ne_of_gt (blk_lt (g := gb185) (o := .cells #[.string a0_0, .int .i64 a0_1, .int .i64 a0_2, .int .i64 a0_3, .int .i64 a0_4, .int .i64 a0_5, .string a0_6, .slice A0_7 l0_7.length c0_7] 38 (0, 0)) (by (with_reducible repeat (first | refine blk_drewN ?_ _ | refine blk_drew ?_ | refine blk_alloc ?_ _)); exact BK185.out)) : gb186 ≠ gb185)); clear BK185; clear HB; have BK185 := n0_; have HB := n1_; have BK186 := n2_; have GW186 := n3_; have GE186 := n4_; have NB185_186 := n5_; have NB186_185 := n6_; clear n0_ n1_ n2_ n3_ n4_ n5_ n6_; clear hb hbox hg; have hnb27 := NB185_186.out; have hnc27 := NB186_185.out; have hcz28_0 : w26.cell? ⟨gb185, 0, none⟩ = some (.string a0_0) := (blk_cell BK185.out 0).trans rfl; have hcz28_1 : w26.cell? ⟨gb185, 1, none⟩ = some (.int .i64 a0_1) := (blk_cell BK185.out 1).trans rfl; have hcz28_2 : w26.cell? ⟨gb185, 2, none⟩ = some (.int .i64 a0_2) := (blk_cell BK185.out 2).trans rfl; have hcz28_3 : w26.cell? ⟨gb185, 3, none⟩ = some (.int .i64 a0_3) := (blk_cell BK185.out 3).trans rfl; have hcz28_4 : w26.cell? ⟨gb185, 4, none⟩ = some (.int .i64 a0_4) := (blk_cell BK185.out 4).trans rfl; have hcz28_5 : w26.cell? ⟨gb185, 5, none⟩ = some (.int .i64 a0_5) := (blk_cell BK185.out 5).trans rfl; have hcz28_6 : w26.cell? ⟨gb185, 6, none⟩ = some (.string a0_6) := (blk_cell BK185.out 6).trans rfl; have hcz28_7 : w26.cell? ⟨gb185, 7, none⟩ = some (.slice A0_7 l0_7.length c0_7) := (blk_cell BK185.out 7).trans rfl; have hfz28_0 := blk_frozen BK185.out 0; have hfz28_1 := blk_frozen BK185.out 1; have hfz28_2 := blk_frozen BK185.out 2; have hfz28_3 := blk_frozen BK185.out 3; have hfz28_4 := blk_frozen BK185.out 4; have hfz28_5 := blk_frozen BK185.out 5; have hfz28_6 := blk_frozen BK185.out 6; have hfz28_7 := blk_frozen BK185.out 7) | ((with_reducible refine gate_callee (f := 53) rfl ?_); refine goesL_ (some 9) rfl rfl Tryz.func53 (by kernel_rfl) rfl #[.string a0_0] rfl (by (try simp only [List.map_toArray, List.map_cons, List.map_nil]); first | done | rfl | (simp only [List.length_drop, List.length_take]; rfl)) ?_; (with_reducible refine (strf_Split.calls a0_0 t187 t188 false _ A2.out).mono ?_); rintro e w29 ⟨rfl, hb⟩; refine ⟨_, rfl, ?_⟩; have n0_ := Aside0.mk (blk_below (g := gb185) (o := .cells #[.string a0_0, .int .i64 a0_1, .int .i64 a0_2, .int .i64 a0_3, .int .i64 a0_4, .int .i64 a0_5, .string a0_6, .slice A0_7 l0_7.length c0_7] 38 (0, 0)) (by (with_reducible repeat (first | refine blk_drewN ?_ _ | refine blk_drew ?_ | refine blk_alloc ?_ _)); exact BK185.out) hb); have n1_ := Aside0.mk (blk_below (g := gb186) (o := .cells #[.string (⟨#[]⟩ : ByteArray), .string (⟨#[]⟩ : ByteArray), .int .i64 0, .int .i64 0, .int .i64 0, .int .i64 0, .int .i64 0, .int .u8 0, .string (⟨#[]⟩ : ByteArray)] 43 (0, 0)) (by (with_reducible repeat (first | refine blk_drewN ?_ _ | refine blk_drew ?_ | refine blk_alloc ?_ _)); exact BK186.out) hb); have n2_ := Aside0.mk (below_step (by repeat (first | (with_reducible first | exact HB.out | apply below_alloc | apply pw_below_drewN | apply below_drew1 | refine below_set ?_ GE185.out | refine below_set ?_ GE186.out) | exact HB.out)) hb); clear BK185; clear BK186; clear HB; have BK185 := n0_; have BK186 := n1_; have HB := n2_; clear n0_ n1_ n2_; (try clear hb); (try clear hb2); (try clear hk); (try clear hi); have hcz30_0 : w29.cell? ⟨gb185, 0, none⟩ = some (.string a0_0) := (blk_cell BK185.out 0).trans rfl; have hcz30_1 : w29.cell? ⟨gb185, 1, none⟩ = some (.int .i64 a0_1) := (blk_cell BK185.out 1).trans rfl; have hcz30_2 : w29.cell? ⟨gb185, 2, none⟩ = some (.int .i64 a0_2) := (blk_cell BK185.out 2).trans rfl; have hcz30_3 : w29.cell? ⟨gb185, 3, none⟩ = some (.int .i64 a0_3) := (blk_cell BK185.out 3).trans rfl; have hcz30_4 : w29.cell? ⟨gb185, 4, none⟩ = some (.int .i64 a0_4) := (blk_cell BK185.out 4).trans rfl; have hcz30_5 : w29.cell? ⟨gb185, 5, none⟩ = some (.int .i64 a0_5) := (blk_cell BK185.out 5).trans rfl; have hcz30_6 : w29.cell? ⟨gb185, 6, none⟩ = some (.string a0_6) := (blk_cell BK185.out 6).trans rfl; have hcz30_7 : w29.cell? ⟨gb185, 7, none⟩ = some (.slice A0_7 l0_7.length c0_7) := (blk_cell BK185.out 7).trans rfl; have hfz30_0 := blk_frozen BK185.out 0; have hfz30_1 := blk_frozen BK185.out 1; have hfz30_2 := blk_frozen BK185.out 2; have hfz30_3 := blk_frozen BK185.out 3; have hfz30_4 := blk_frozen BK185.out 4; have hfz30_5 := blk_frozen BK185.out 5; have hfz30_6 := blk_frozen BK185.out 6; have hfz30_7 := blk_frozen BK185.out 7) | ((with_reducible refine gate_callee (f := 54) rfl ?_); refine goesL_ (some 17) rfl rfl Tryz.func54 (by kernel_rfl) rfl #[.string a0_0] rfl (by (try simp only [List.map_toArray, List.map_cons, List.map_nil]); first | done | rfl | (simp only [List.length_drop, List.length_take]; rfl)) ?_; (with_reducible refine (memb_first.calls a0_0 t192 _ A22.out).mono ?_); rintro e w31 ⟨rfl, hb⟩; refine ⟨_, rfl, ?_⟩; have n0_ := Aside0.mk (blk_below (g := gb185) (o := .cells #[.string a0_0, .int .i64 a0_1, .int .i64 a0_2, .int .i64 a0_3, .int .i64 a0_4, .int .i64 a0_5, .string a0_6, .slice A0_7 l0_7.length c0_7] 38 (0, 0)) (by (with_reducible repeat (first | refine blk_drewN ?_ _ | refine blk_drew ?_ | refine blk_alloc ?_ _)); exact BK185.out) hb); have n1_ := Aside0.mk (blk_below (g := gb186) (o := .cells #[.string (⟨#[]⟩ : ByteArray), .string (⟨#[]⟩ : ByteArray), .int .i64 0, .int .i64 0, .int .i64 0, .int .i64 0, .int .i64 0, .int .u8 0, .string (⟨#[]⟩ : ByteArray)] 43 (0, 0)) (by (with_reducible repeat (first | refine blk_drewN ?_ _ | refine blk_drew ?_ | refine blk_alloc ?_ _)); exact BK186.out) hb); have n2_ := Aside0.mk (below_step (by repeat (first | (with_reducible first | exact HB.out | apply below_alloc | apply pw_below_drewN | apply below_drew1 | refine below_set ?_ GE185.out | refine below_set ?_ GE186.out) | exact HB.out)) hb); clear BK185; clear BK186; clear HB; have BK185 := n0_; have BK186 := n1_; have HB := n2_; clear n0_ n1_ n2_; (try clear hb); (try clear hb2); (try clear hk); (try clear hi)))
    have n0_ := Aside0.mk (blk_drew BK185.out)
    have n1_ := Aside0.mk (blk_drew BK186.out)
    have n2_ := Aside0.mk (below_drew1 HB.out)
    clear BK185
    clear BK186
    clear HB
    have BK185 := n0_
    have BK186 := n1_
    have HB := n2_
    clear n0_ n1_ n2_
    refine start_ (n := 15) (S := fun w' => w'.cell? ⟨gb185, 0, none⟩ = some (.string a0_0) ∧ w'.cell? ⟨gb185, 1, none⟩ = some (.int .i64 a0_1) ∧ w'.cell? ⟨gb185, 2, none⟩ = some (.int .i64 a0_2) ∧ w'.cell? ⟨gb185, 3, none⟩ = some (.int .i64 a0_3) ∧ w'.cell? ⟨gb185, 4, none⟩ = some (.int .i64 a0_4) ∧ w'.cell? ⟨gb185, 5, none⟩ = some (.int .i64 a0_5) ∧ w'.cell? ⟨gb185, 6, none⟩ = some (.string a0_6) ∧ w'.cell? ⟨gb185, 7, none⟩ = some (.slice A0_7 l0_7.length c0_7)) (ds := []) #[false, false, false, false, false, false, false, false, false, false, false, false, false, false, false] (by kernel_rfl) rfl rfl ⟨(blk_cell BK185.out 0).trans rfl, (blk_cell BK185.out 1).trans rfl, (blk_cell BK185.out 2).trans rfl, (blk_cell BK185.out 3).trans rfl, (blk_cell BK185.out 4).trans rfl, (blk_cell BK185.out 5).trans rfl, (blk_cell BK185.out 6).trans rfl, (blk_cell BK185.out 7).trans rfl⟩ (fun hHeld => ?_); refine with_tabW memb_header.tab4 memb_header.bits4 (fun HT_ HW_ => ?_)
    generalize w31.drew = w32 at BK185 BK186 HB hHeld ⊢
    refine pure_ (i := 0) (N := some 18) (v := ?_) (a' := ?_) #[true, false, false, false, false, false, false, false, false, false, false, false, false, false, false] rfl rfl (any_of HT_.out (by kernel_rfl)) (fun _ _ _ h => h) (Or.inl ⟨by rfl, ?_⟩) ?_ ?_
    rotate_left
    · intro w'
      go_simp
      with_reducible rfl
    rotate_left
    · simp only [Act.put, List.setIfInBounds_toArray, List.set_cons_zero, List.set_cons_succ, i64_w, i32_w]
      rfl
    refine pure_ (i := 1) (N := some 19) (v := ?_) (a' := ?_) #[true, true, false, false, false, false, false, false, false, false, false, false, false, false, false] rfl rfl (any_of HT_.out (by kernel_rfl)) (fun _ _ _ h => h) (Or.inl ⟨by rfl, ?_⟩) ?_ ?_
    rotate_left
    · intro w'
      go_simp
      with_reducible rfl
    rotate_left
    · simp only [Act.put, List.setIfInBounds_toArray, List.set_cons_zero, List.set_cons_succ, i64_w, i32_w]
      rfl
    refine pure_ (i := 2) (N := some 20) (v := ?_) (a' := ?_) #[true, true, true, false, false, false, false, false, false, false, false, false, false, false, false] rfl rfl (any_of HT_.out (by kernel_rfl)) (fun _ _ _ h => h) (Or.inl ⟨by rfl, ?_⟩) ?_ ?_
    rotate_left
    · intro w'
      go_simp
      with_reducible rfl
    rotate_left
    · simp only [Act.put, List.setIfInBounds_toArray, List.set_cons_zero, List.set_cons_succ, i64_w, i32_w]
      rfl
    refine pure_ (i := 4) (N := some 22) (v := ?_) (a' := ?_) #[true, true, true, false, true, false, false, false, false, false, false, false, false, false, false] rfl rfl (any_of HT_.out (by kernel_rfl)) (fun _ _ _ h => h) (Or.inl ⟨by rfl, ?_⟩) ?_ ?_
    rotate_left
    · intro w'
      go_simp
      with_reducible rfl
    rotate_left
    · simp only [Act.put, List.setIfInBounds_toArray, List.set_cons_zero, List.set_cons_succ, i64_w, i32_w]
      rfl
    refine pure_ (i := 7) (N := some 25) (v := ?_) (a' := ?_) #[true, true, true, false, true, false, false, true, false, false, false, false, false, false, false] rfl rfl (any_of HT_.out (by kernel_rfl)) (fun _ _ _ h => h) (Or.inl ⟨by rfl, ?_⟩) ?_ ?_
    rotate_left
    · intro w'
      go_simp
      with_reducible rfl
    rotate_left
    · simp only [Act.put, List.setIfInBounds_toArray, List.set_cons_zero, List.set_cons_succ, i64_w, i32_w]
      rfl
    refine pure_ (i := 10) (N := some 28) (v := ?_) (a' := ?_) #[true, true, true, false, true, false, false, true, false, false, true, false, false, false, false] rfl rfl (any_of HT_.out (by kernel_rfl)) (fun _ _ _ h => h) (Or.inl ⟨by rfl, ?_⟩) ?_ ?_
    rotate_left
    · intro w'
      go_simp
      with_reducible rfl
    rotate_left
    · simp only [Act.put, List.setIfInBounds_toArray, List.set_cons_zero, List.set_cons_succ, i64_w, i32_w]
      rfl
    refine take_ (i := 3) (N := some 21) (v := ?_) (a' := ?_) #[true, true, true, true, true, false, false, true, false, false, true, false, false, false, false] rfl rfl (take_ofW HT_.out HW_.out (by kernel_rfl)) (fun _ _ _ h => h) (Or.inl ⟨by rfl, ?_⟩) hHeld ?_ ?_
    rotate_left
    · rintro w' ⟨s0, s1, s2, s3, s4, s5, s6, s7⟩
      go_simp
      with_reducible rfl
    rotate_left
    · simp only [Act.put, List.setIfInBounds_toArray, List.set_cons_zero, List.set_cons_succ, i64_w, i32_w]
      rfl
    refine take_ (i := 5) (N := some 23) (v := ?_) (a' := ?_) #[true, true, true, true, true, true, false, true, false, false, true, false, false, false, false] rfl rfl (take_ofW HT_.out HW_.out (by kernel_rfl)) (fun _ _ _ h => h) (Or.inl ⟨by rfl, ?_⟩) hHeld ?_ ?_
    rotate_left
    · rintro w' ⟨s0, s1, s2, s3, s4, s5, s6, s7⟩
      go_simp
      with_reducible rfl
    rotate_left
    · simp only [Act.put, List.setIfInBounds_toArray, List.set_cons_zero, List.set_cons_succ, i64_w, i32_w]
      rfl
    refine pure_ (i := 6) (N := some 24) (v := ?_) (a' := ?_) #[true, true, true, true, true, true, true, true, false, false, true, false, false, false, false] rfl rfl (any_of HT_.out (by kernel_rfl)) (fun _ _ _ h => h) (Or.inl ⟨by rfl, ?_⟩) ?_ ?_
    rotate_left
    · intro w'
      go_simp
      with_reducible rfl
    rotate_left
    · simp only [Act.put, List.setIfInBounds_toArray, List.set_cons_zero, List.set_cons_succ, i64_w, i32_w]
      rfl
    refine take_ (i := 8) (N := some 26) (v := ?_) (a' := ?_) #[true, true, true, true, true, true, true, true, true, false, true, false, false, false, false] rfl rfl (take_ofW HT_.out HW_.out (by kernel_rfl)) (fun _ _ _ h => h) (Or.inl ⟨by rfl, ?_⟩) hHeld ?_ ?_
    rotate_left
    · rintro w' ⟨s0, s1, s2, s3, s4, s5, s6, s7⟩
      go_simp
      with_reducible rfl
    rotate_left
    · simp only [Act.put, List.setIfInBounds_toArray, List.set_cons_zero, List.set_cons_succ, i64_w, i32_w]
      rfl
    refine take_ (i := 11) (N := some 29) (v := ?_) (a' := ?_) #[true, true, true, true, true, true, true, true, true, false, true, true, false, false, false] rfl rfl (take_ofW HT_.out HW_.out (by kernel_rfl)) (fun _ _ _ h => h) (Or.inl ⟨by rfl, ?_⟩) hHeld ?_ ?_
    rotate_left
    · rintro w' ⟨s0, s1, s2, s3, s4, s5, s6, s7⟩
      go_simp
      with_reducible rfl
    rotate_left
    · simp only [Act.put, List.setIfInBounds_toArray, List.set_cons_zero, List.set_cons_succ, i64_w, i32_w]
      rfl
    refine one_ (i := 9) (N := some 27) #[true, true, true, true, true, true, true, true, true, true, true, true, false, false, false] rfl rfl (one_of HT_.out (by kernel_rfl)) (by decide) (fun K hK => ?_)
    refine goes_ Tryz.func6 (by kernel_rfl) rfl #[.int .i64 a0_1] (by rfl) rfl rfl (by (try simp only [List.map_toArray, List.map_cons, List.map_nil]); first | done | rfl | (simp only [List.length_drop, List.length_take]; rfl)) ?_
    with_reducible refine (memb_Type.calls a0_1 t193 _ A23.out).mono ?_
    rintro e w' ⟨rfl, ⟨nd, rfl⟩⟩
    refine ⟨_, rfl, ?_⟩
    refine hK.out _ _ ⟨(blk_cell BK185.out 0).trans rfl, (blk_cell BK185.out 1).trans rfl, (blk_cell BK185.out 2).trans rfl, (blk_cell BK185.out 3).trans rfl, (blk_cell BK185.out 4).trans rfl, (blk_cell BK185.out 5).trans rfl, (blk_cell BK185.out 6).trans rfl, (blk_cell BK185.out 7).trans rfl⟩ (fun hHeld => ?_)
    clear hK K
    refine norm_ (a' := ?_) ?_ ?_
    rotate_left
    · show Act.put _ (some 27) _ = _
      simp only [Act.put, List.setIfInBounds_toArray, List.set_cons_zero, List.set_cons_succ, i64_w, i32_w]
      rfl
    refine one_ (i := 12) (N := some 30) #[true, true, true, true, true, true, true, true, true, true, true, true, true, false, false] rfl rfl (one_of HT_.out (by kernel_rfl)) (by decide) (fun K hK => ?_)
    refine goes_ Tryz.func54 (by kernel_rfl) rfl #[.string a0_6] (by rfl) rfl rfl (by (try simp only [List.map_toArray, List.map_cons, List.map_nil]); first | done | rfl | (simp only [List.length_drop, List.length_take]; rfl)) ?_
    with_reducible refine (memb_first.calls a0_6 t194 _ A24.out).mono ?_
    rintro e w33 ⟨rfl, hb⟩
    refine ⟨_, rfl, ?_⟩
    have n0_ := Aside0.mk (blk_below (g := gb185) (o := .cells #[.string a0_0, .int .i64 a0_1, .int .i64 a0_2, .int .i64 a0_3, .int .i64 a0_4, .int .i64 a0_5, .string a0_6, .slice A0_7 l0_7.length c0_7] 38 (0, 0)) (by (with_reducible repeat (first | refine blk_drewN ?_ _ | refine blk_drew ?_ | refine blk_alloc ?_ _)); exact BK185.out) hb)
    have n1_ := Aside0.mk (blk_below (g := gb186) (o := .cells #[.string (⟨#[]⟩ : ByteArray), .string (⟨#[]⟩ : ByteArray), .int .i64 0, .int .i64 0, .int .i64 0, .int .i64 0, .int .i64 0, .int .u8 0, .string (⟨#[]⟩ : ByteArray)] 43 (0, 0)) (by (with_reducible repeat (first | refine blk_drewN ?_ _ | refine blk_drew ?_ | refine blk_alloc ?_ _)); exact BK186.out) hb)
    have n2_ := Aside0.mk (below_step (by repeat (first | (with_reducible first | exact HB.out | apply below_alloc | apply pw_below_drewN | apply below_drew1 | refine below_set ?_ GE185.out | refine below_set ?_ GE186.out) | exact HB.out)) hb)
    clear BK185
    clear BK186
    clear HB
    have BK185 := n0_
    have BK186 := n1_
    have HB := n2_
    clear n0_ n1_ n2_
    (try clear hb)
    (try clear hb2)
    (try clear hk)
    (try clear hi)
    refine hK.out _ _ ⟨(blk_cell BK185.out 0).trans rfl, (blk_cell BK185.out 1).trans rfl, (blk_cell BK185.out 2).trans rfl, (blk_cell BK185.out 3).trans rfl, (blk_cell BK185.out 4).trans rfl, (blk_cell BK185.out 5).trans rfl, (blk_cell BK185.out 6).trans rfl, (blk_cell BK185.out 7).trans rfl⟩ (fun hHeld => ?_)
    clear hK K
    refine norm_ (a' := ?_) ?_ ?_
    rotate_left
    · show Act.put _ (some 30) _ = _
      simp only [Act.put, List.setIfInBounds_toArray, List.set_cons_zero, List.set_cons_succ, i64_w, i32_w]
      rfl
    refine pure_ (i := 13) (N := some 31) (v := ?_) (a' := ?_) #[true, true, true, true, true, true, true, true, true, true, true, true, true, true, false] rfl rfl (any_of HT_.out (by kernel_rfl)) (fun _ _ _ h => h) (Or.inl ⟨by rfl, ?_⟩) ?_ ?_
    rotate_left
    · intro w'
      go_simp
      with_reducible rfl
    rotate_left
    · simp only [Act.put, List.setIfInBounds_toArray, List.set_cons_zero, List.set_cons_succ, i64_w, i32_w]
      rfl
    refine one_ (i := 14) (N := none) #[true, true, true, true, true, true, true, true, true, true, true, true, true, true, true] rfl rfl (one_of HT_.out (by kernel_rfl)) (by decide) (fun K hK => ?_)
    have hs34 : w33.cell? ⟨gb186, 0, none⟩ = some (.string (⟨#[]⟩ : ByteArray)) := (blk_cell BK186.out 0).trans rfl
    have hfs34 := blk_frozen BK186.out 0
    have hns34_0 := NB185_186.out
    have hms34_0 := NB186_185.out
    have hs35 : w33.cell? ⟨gb186, 1, none⟩ = some (.string (⟨#[]⟩ : ByteArray)) := (blk_cell BK186.out 1).trans rfl
    have hfs35 := blk_frozen BK186.out 1
    have hns35_0 := NB185_186.out
    have hms35_0 := NB186_185.out
    have hs36 : w33.cell? ⟨gb186, 2, none⟩ = some (.int .i64 0) := (blk_cell BK186.out 2).trans rfl
    have hfs36 := blk_frozen BK186.out 2
    have hns36_0 := NB185_186.out
    have hms36_0 := NB186_185.out
    have hs37 : w33.cell? ⟨gb186, 3, none⟩ = some (.int .i64 0) := (blk_cell BK186.out 3).trans rfl
    have hfs37 := blk_frozen BK186.out 3
    have hns37_0 := NB185_186.out
    have hms37_0 := NB186_185.out
    have hs38 : w33.cell? ⟨gb186, 4, none⟩ = some (.int .i64 0) := (blk_cell BK186.out 4).trans rfl
    have hfs38 := blk_frozen BK186.out 4
    have hns38_0 := NB185_186.out
    have hms38_0 := NB186_185.out
    have hs39 : w33.cell? ⟨gb186, 5, none⟩ = some (.int .i64 0) := (blk_cell BK186.out 5).trans rfl
    have hfs39 := blk_frozen BK186.out 5
    have hns39_0 := NB185_186.out
    have hms39_0 := NB186_185.out
    have hs40 : w33.cell? ⟨gb186, 6, none⟩ = some (.int .i64 0) := (blk_cell BK186.out 6).trans rfl
    have hfs40 := blk_frozen BK186.out 6
    have hns40_0 := NB185_186.out
    have hms40_0 := NB186_185.out
    have hs41 : w33.cell? ⟨gb186, 7, none⟩ = some (.int .u8 0) := (blk_cell BK186.out 7).trans rfl
    have hfs41 := blk_frozen BK186.out 7
    have hns41_0 := NB185_186.out
    have hms41_0 := NB186_185.out
    have hs42 : w33.cell? ⟨gb186, 8, none⟩ = some (.string (⟨#[]⟩ : ByteArray)) := (blk_cell BK186.out 8).trans rfl
    have hfs42 := blk_frozen BK186.out 8
    have hns42_0 := NB185_186.out
    have hms42_0 := NB186_185.out
    refine skip_ (w1 := ?_) (by rfl) rfl ?_ ?_
    rotate_left
    · go_simp
      rfl
    refine hK.out _ _ ⟨((cell_far (p := ⟨gb186, _, none⟩) NB185_186.out _).trans (((cell_far (p := ⟨gb186, _, none⟩) NB185_186.out _).trans (((cell_far (p := ⟨gb186, _, none⟩) NB185_186.out _).trans (((cell_far (p := ⟨gb186, _, none⟩) NB185_186.out _).trans (((cell_far (p := ⟨gb186, _, none⟩) NB185_186.out _).trans (((cell_far (p := ⟨gb186, _, none⟩) NB185_186.out _).trans (((cell_far (p := ⟨gb186, _, none⟩) NB185_186.out _).trans (((cell_far (p := ⟨gb186, _, none⟩) NB185_186.out _).trans (((cell_far (p := ⟨gb186, _, none⟩) NB185_186.out _).trans (hHeld.1)))))))))))))))))), ((cell_far (p := ⟨gb186, _, none⟩) NB185_186.out _).trans (((cell_far (p := ⟨gb186, _, none⟩) NB185_186.out _).trans (((cell_far (p := ⟨gb186, _, none⟩) NB185_186.out _).trans (((cell_far (p := ⟨gb186, _, none⟩) NB185_186.out _).trans (((cell_far (p := ⟨gb186, _, none⟩) NB185_186.out _).trans (((cell_far (p := ⟨gb186, _, none⟩) NB185_186.out _).trans (((cell_far (p := ⟨gb186, _, none⟩) NB185_186.out _).trans (((cell_far (p := ⟨gb186, _, none⟩) NB185_186.out _).trans (((cell_far (p := ⟨gb186, _, none⟩) NB185_186.out _).trans (hHeld.2.1)))))))))))))))))), ((cell_far (p := ⟨gb186, _, none⟩) NB185_186.out _).trans (((cell_far (p := ⟨gb186, _, none⟩) NB185_186.out _).trans (((cell_far (p := ⟨gb186, _, none⟩) NB185_186.out _).trans (((cell_far (p := ⟨gb186, _, none⟩) NB185_186.out _).trans (((cell_far (p := ⟨gb186, _, none⟩) NB185_186.out _).trans (((cell_far (p := ⟨gb186, _, none⟩) NB185_186.out _).trans (((cell_far (p := ⟨gb186, _, none⟩) NB185_186.out _).trans (((cell_far (p := ⟨gb186, _, none⟩) NB185_186.out _).trans (((cell_far (p := ⟨gb186, _, none⟩) NB185_186.out _).trans (hHeld.2.2.1)))))))))))))))))), ((cell_far (p := ⟨gb186, _, none⟩) NB185_186.out _).trans (((cell_far (p := ⟨gb186, _, none⟩) NB185_186.out _).trans (((cell_far (p := ⟨gb186, _, none⟩) NB185_186.out _).trans (((cell_far (p := ⟨gb186, _, none⟩) NB185_186.out _).trans (((cell_far (p := ⟨gb186, _, none⟩) NB185_186.out _).trans (((cell_far (p := ⟨gb186, _, none⟩) NB185_186.out _).trans (((cell_far (p := ⟨gb186, _, none⟩) NB185_186.out _).trans (((cell_far (p := ⟨gb186, _, none⟩) NB185_186.out _).trans (((cell_far (p := ⟨gb186, _, none⟩) NB185_186.out _).trans (hHeld.2.2.2.1)))))))))))))))))), ((cell_far (p := ⟨gb186, _, none⟩) NB185_186.out _).trans (((cell_far (p := ⟨gb186, _, none⟩) NB185_186.out _).trans (((cell_far (p := ⟨gb186, _, none⟩) NB185_186.out _).trans (((cell_far (p := ⟨gb186, _, none⟩) NB185_186.out _).trans (((cell_far (p := ⟨gb186, _, none⟩) NB185_186.out _).trans (((cell_far (p := ⟨gb186, _, none⟩) NB185_186.out _).trans (((cell_far (p := ⟨gb186, _, none⟩) NB185_186.out _).trans (((cell_far (p := ⟨gb186, _, none⟩) NB185_186.out _).trans (((cell_far (p := ⟨gb186, _, none⟩) NB185_186.out _).trans (hHeld.2.2.2.2.1)))))))))))))))))), ((cell_far (p := ⟨gb186, _, none⟩) NB185_186.out _).trans (((cell_far (p := ⟨gb186, _, none⟩) NB185_186.out _).trans (((cell_far (p := ⟨gb186, _, none⟩) NB185_186.out _).trans (((cell_far (p := ⟨gb186, _, none⟩) NB185_186.out _).trans (((cell_far (p := ⟨gb186, _, none⟩) NB185_186.out _).trans (((cell_far (p := ⟨gb186, _, none⟩) NB185_186.out _).trans (((cell_far (p := ⟨gb186, _, none⟩) NB185_186.out _).trans (((cell_far (p := ⟨gb186, _, none⟩) NB185_186.out _).trans (((cell_far (p := ⟨gb186, _, none⟩) NB185_186.out _).trans (hHeld.2.2.2.2.2.1)))))))))))))))))), ((cell_far (p := ⟨gb186, _, none⟩) NB185_186.out _).trans (((cell_far (p := ⟨gb186, _, none⟩) NB185_186.out _).trans (((cell_far (p := ⟨gb186, _, none⟩) NB185_186.out _).trans (((cell_far (p := ⟨gb186, _, none⟩) NB185_186.out _).trans (((cell_far (p := ⟨gb186, _, none⟩) NB185_186.out _).trans (((cell_far (p := ⟨gb186, _, none⟩) NB185_186.out _).trans (((cell_far (p := ⟨gb186, _, none⟩) NB185_186.out _).trans (((cell_far (p := ⟨gb186, _, none⟩) NB185_186.out _).trans (((cell_far (p := ⟨gb186, _, none⟩) NB185_186.out _).trans (hHeld.2.2.2.2.2.2.1)))))))))))))))))), ((cell_far (p := ⟨gb186, _, none⟩) NB185_186.out _).trans (((cell_far (p := ⟨gb186, _, none⟩) NB185_186.out _).trans (((cell_far (p := ⟨gb186, _, none⟩) NB185_186.out _).trans (((cell_far (p := ⟨gb186, _, none⟩) NB185_186.out _).trans (((cell_far (p := ⟨gb186, _, none⟩) NB185_186.out _).trans (((cell_far (p := ⟨gb186, _, none⟩) NB185_186.out _).trans (((cell_far (p := ⟨gb186, _, none⟩) NB185_186.out _).trans (((cell_far (p := ⟨gb186, _, none⟩) NB185_186.out _).trans (((cell_far (p := ⟨gb186, _, none⟩) NB185_186.out _).trans (hHeld.2.2.2.2.2.2.2))))))))))))))))))⟩ (fun hHeld => ?_)
    clear hK K
    refine done_ (done_of HT_.out (by kernel_rfl)) ?_
    try go_wp2
    refine bodyPost_ret (results_cell_row rfl _ _ gb186 43 #[.string t187, .string t192, .int .i64 a0_2, .int .i64 a0_3, .int .i64 a0_4, .int .i64 a0_5, .int .i64 (l0_7.length : Int), .int .u8 t193, .string t194] (0, 0) _ rfl (by (with_reducible repeat (first | refine blk_drewN ?_ _ | refine blk_drew ?_ | refine blk_alloc ?_ _)); refine blk_put (cs := #[.string t187, .string t192, .int .i64 a0_2, .int .i64 a0_3, .int .i64 a0_4, .int .i64 a0_5, .int .i64 (l0_7.length : Int), .int .u8 t193, .string (⟨#[]⟩ : ByteArray)]) ?_ 8 _ rfl; (with_reducible repeat (first | refine blk_drewN ?_ _ | refine blk_drew ?_ | refine blk_alloc ?_ _)); refine blk_put (cs := #[.string t187, .string t192, .int .i64 a0_2, .int .i64 a0_3, .int .i64 a0_4, .int .i64 a0_5, .int .i64 (l0_7.length : Int), .int .u8 0, .string (⟨#[]⟩ : ByteArray)]) ?_ 7 _ rfl; (with_reducible repeat (first | refine blk_drewN ?_ _ | refine blk_drew ?_ | refine blk_alloc ?_ _)); refine blk_put (cs := #[.string t187, .string t192, .int .i64 a0_2, .int .i64 a0_3, .int .i64 a0_4, .int .i64 a0_5, .int .i64 0, .int .u8 0, .string (⟨#[]⟩ : ByteArray)]) ?_ 6 _ rfl; (with_reducible repeat (first | refine blk_drewN ?_ _ | refine blk_drew ?_ | refine blk_alloc ?_ _)); refine blk_put (cs := #[.string t187, .string t192, .int .i64 a0_2, .int .i64 a0_3, .int .i64 a0_4, .int .i64 0, .int .i64 0, .int .u8 0, .string (⟨#[]⟩ : ByteArray)]) ?_ 5 _ rfl; (with_reducible repeat (first | refine blk_drewN ?_ _ | refine blk_drew ?_ | refine blk_alloc ?_ _)); refine blk_put (cs := #[.string t187, .string t192, .int .i64 a0_2, .int .i64 a0_3, .int .i64 0, .int .i64 0, .int .i64 0, .int .u8 0, .string (⟨#[]⟩ : ByteArray)]) ?_ 4 _ rfl; (with_reducible repeat (first | refine blk_drewN ?_ _ | refine blk_drew ?_ | refine blk_alloc ?_ _)); refine blk_put (cs := #[.string t187, .string t192, .int .i64 a0_2, .int .i64 0, .int .i64 0, .int .i64 0, .int .i64 0, .int .u8 0, .string (⟨#[]⟩ : ByteArray)]) ?_ 3 _ rfl; (with_reducible repeat (first | refine blk_drewN ?_ _ | refine blk_drew ?_ | refine blk_alloc ?_ _)); refine blk_put (cs := #[.string t187, .string t192, .int .i64 0, .int .i64 0, .int .i64 0, .int .i64 0, .int .i64 0, .int .u8 0, .string (⟨#[]⟩ : ByteArray)]) ?_ 2 _ rfl; (with_reducible repeat (first | refine blk_drewN ?_ _ | refine blk_drew ?_ | refine blk_alloc ?_ _)); refine blk_put (cs := #[.string t187, .string (⟨#[]⟩ : ByteArray), .int .i64 0, .int .i64 0, .int .i64 0, .int .i64 0, .int .i64 0, .int .u8 0, .string (⟨#[]⟩ : ByteArray)]) ?_ 1 _ rfl; (with_reducible repeat (first | refine blk_drewN ?_ _ | refine blk_drew ?_ | refine blk_alloc ?_ _)); refine blk_put (cs := #[.string (⟨#[]⟩ : ByteArray), .string (⟨#[]⟩ : ByteArray), .int .i64 0, .int .i64 0, .int .i64 0, .int .i64 0, .int .i64 0, .int .u8 0, .string (⟨#[]⟩ : ByteArray)]) ?_ 0 _ rfl; (with_reducible repeat (first | refine blk_drewN ?_ _ | refine blk_drew ?_ | refine blk_alloc ?_ _)); exact BK186.out) Tryz.underlying43 rfl (by kernel_rfl)) rfl ?_
    exact ⟨by first | rfl | (simp [errW_none, errW_some] <;> rfl) | (simp [*, errW_none, errW_some] <;> rfl), by repeat (first | (with_reducible first | exact HB.out | apply below_alloc | apply pw_below_drewN | apply below_drew1 | refine below_set ?_ GE185.out | refine below_set ?_ GE186.out) | exact HB.out)⟩

end Go.Proofs.YtjidenkhgeoaiaaGreatDoor.P

-- F16
-- Written by xprint.py (a program of this session's, over the kit's printer) out of the translation. Not trusted: Lean checks it.
namespace Go.Proofs.YtjidenkhgeoaiaaGreatDoor.P
open Go.RowKit Go.Proofs.YtjidenkhgeoaiaaGreatDoorW.PrintWords Go.Proofs.YtjidenkhgeoaiaaGreatDoorW.PrintLast Go.Proofs.YtjidenkhgeoaiaaGreatDoorW.PrintMore Go.Proofs.YtjidenkhgeoaiaaGreatDoor.Hand
attribute [local go_sem] max2_int min2_int max_two min_two max_three min_three max_four min_four   -- for this text's walks alone
set_option linter.unusedVariables false
set_option linter.unusedSimpArgs false

/-! ### memb_Lay: function 16 -/
def memb_Lay.f (k : Nat) (a0_0 : ByteArray) (a0_1 : Int) (a0_2 : Int) (a0_3 : Int) (a0_4 : Int) (a0_5 : Int) (a0_6 : ByteArray) (l0_7 : List Int) : Option (List Int × Int) := (memb_May.f a0_0 a0_1 a0_2 a0_3 a0_4 a0_5 a0_6 l0_7).bind fun t196 => (if t196 = 0 then ((memb_Recs.f a0_0 a0_1 a0_2 a0_3 a0_4 a0_5 a0_6 l0_7).bind fun t197 => ((memb_ahead.f k t197).bind fun bt200 => (if bt200.2 = 0 then ((memb_header.f a0_0 a0_1 a0_2 a0_3 a0_4 a0_5 a0_6 l0_7).bind fun bt204 => ((head_Lay.f k bt204.1 bt204.2.1 bt204.2.2.1 bt204.2.2.2.1 bt204.2.2.2.2.1 bt204.2.2.2.2.2.1 bt204.2.2.2.2.2.2.1 bt204.2.2.2.2.2.2.2.1 bt204.2.2.2.2.2.2.2.2).bind fun bt213 => (if bt213.2 = 0 then (if bt200.1.length + bt213.1.length < 140737488355328 then ((some (bt200.1 ++ bt213.1 : List Int)).bind fun y217 => ((blocks_Fill.f l0_7).bind fun t220 => (if y217.length + t220.length < 140737488355328 then (some ((y217 ++ t220), 0)) else (none)))) else (none)) else (some (([] : List Int), bt213.2))))) else (some (([] : List Int), bt200.2))))) else (some (([] : List Int), t196)))
theorem memb_Lay.mono : ∀ a0 a1 a2 a3 a4 a5 a6 a7 k, LeO (memb_Lay.f k a0 a1 a2 a3 a4 a5 a6 a7) (memb_Lay.f (k + 1) a0 a1 a2 a3 a4 a5 a6 a7) := by
  intro a0 a1 a2 a3 a4 a5 a6 a7 k
  unfold memb_Lay.f
  repeat' first
      | (with_reducible exact head_Lay.mono _ _ _ _ _ _ _ _ _ _)
      | (with_reducible exact memb_ahead.mono _ _)
      | (with_reducible exact LeO.refl _)
      | (with_reducible exact LeO.none _)
      | (with_reducible refine LeO.ite ?_ ?_)
      | (with_reducible refine LeO.bind ?_ (fun _ => ?_))
      | exact head_Lay.mono _ _ _ _ _ _ _ _ _ _
      | exact memb_ahead.mono _ _
      | exact LeO.none _
      | refine LeO.ite ?_ ?_
      | refine LeO.bind ?_ (fun _ => ?_)
def memb_Lay.T10 : Bool × List (List Nat × List Nat) := (true, [([], []), ([], []), ([0, 1], [0, 1]), ([], []), ([3], [3]), ([4, 2], [4]), ([2, 5, 5], [2, 5]), ([6, 6, 0, 1, 2, 3, 4, 5, 6], [6]), ([7, 0, 1, 2, 3, 4, 5, 6, 7], [])])
def memb_Lay.B10 : List Nat := [0, 0, 3, 0, 8, 31, 63, 127, 255]
theorem memb_Lay.tab10 : rtab .any (opsOf Tryz.f16 10) = memb_Lay.T10 := by kernel_rfl
theorem memb_Lay.bits10 : waitsOk memb_Lay.T10.2 memb_Lay.B10 = true := by kernel_rfl
set_option maxHeartbeats 8000000 in
set_option maxRecDepth 100000 in
theorem memb_Lay.calls (k : Nat) (a0_0 : ByteArray) (a0_1 : Int) (a0_2 : Int) (a0_3 : Int) (a0_4 : Int) (a0_5 : Int) (a0_6 : ByteArray) (A0_7 : Option Addr) (c0_7 : Nat) (l0_7 : List Int) (r1 : List Int) (r2 : Int) (w : World) (HTB : Aside0 (TabOk w)) (hr0_7 : Kd.C (Kd.int .u8) w A0_7 l0_7.length l0_7) (hc0_7 : l0_7.length ≤ c0_7) (h : memb_Lay.f k a0_0 a0_1 a0_2 a0_3 a0_4 a0_5 a0_6 l0_7 = some (r1, r2)) :
    Calls Tryz.prog 16 #[.agg #[.string a0_0, .int .i64 a0_1, .int .i64 a0_2, .int .i64 a0_3, .int .i64 a0_4, .int .i64 a0_5, .string a0_6, .slice A0_7 l0_7.length c0_7]] w fun e w' => ∃ v0_ : Value, e = .returned (.tuple #[v0_, .int .i64 r2]) ∧ Kd.R (Kd.int .u8) 5 w' w.heap.size (fun _ => True) v0_ r1 ∧ Below w.heap.size w w' := by
  have hu38 := Tryz.underlying38
  have HR0_7 := Aside0.mk hr0_7
  have HC0_7 := Aside0.mk hc0_7
  clear hr0_7 hc0_7
  have HB := Aside0.mk (Below.refl w.heap.size w)
  have H : ((memb_May.f a0_0 a0_1 a0_2 a0_3 a0_4 a0_5 a0_6 l0_7).bind fun t196 => (if t196 = 0 then ((memb_Recs.f a0_0 a0_1 a0_2 a0_3 a0_4 a0_5 a0_6 l0_7).bind fun t197 => ((memb_ahead.f k t197).bind fun bt200 => (if bt200.2 = 0 then ((memb_header.f a0_0 a0_1 a0_2 a0_3 a0_4 a0_5 a0_6 l0_7).bind fun bt204 => ((head_Lay.f k bt204.1 bt204.2.1 bt204.2.2.1 bt204.2.2.2.1 bt204.2.2.2.2.1 bt204.2.2.2.2.2.1 bt204.2.2.2.2.2.2.1 bt204.2.2.2.2.2.2.2.1 bt204.2.2.2.2.2.2.2.2).bind fun bt213 => (if bt213.2 = 0 then (if bt200.1.length + bt213.1.length < 140737488355328 then ((some (bt200.1 ++ bt213.1 : List Int)).bind fun y217 => ((blocks_Fill.f l0_7).bind fun t220 => (if y217.length + t220.length < 140737488355328 then (some ((y217 ++ t220), 0)) else (none)))) else (none)) else (some (([] : List Int), bt213.2))))) else (some (([] : List Int), bt200.2))))) else (some (([] : List Int), t196)))) = some (r1, r2) := h
  clear h
  replace H := Option.bind_eq_some_iff.mp H
  obtain ⟨t196, A20, H⟩ := H
  replace H : (if t196 = 0 then ((memb_Recs.f a0_0 a0_1 a0_2 a0_3 a0_4 a0_5 a0_6 l0_7).bind fun t197 => ((memb_ahead.f k t197).bind fun bt200 => (if bt200.2 = 0 then ((memb_header.f a0_0 a0_1 a0_2 a0_3 a0_4 a0_5 a0_6 l0_7).bind fun bt204 => ((head_Lay.f k bt204.1 bt204.2.1 bt204.2.2.1 bt204.2.2.2.1 bt204.2.2.2.2.1 bt204.2.2.2.2.2.1 bt204.2.2.2.2.2.2.1 bt204.2.2.2.2.2.2.2.1 bt204.2.2.2.2.2.2.2.2).bind fun bt213 => (if bt213.2 = 0 then (if bt200.1.length + bt213.1.length < 140737488355328 then ((some (bt200.1 ++ bt213.1 : List Int)).bind fun y217 => ((blocks_Fill.f l0_7).bind fun t220 => (if y217.length + t220.length < 140737488355328 then (some ((y217 ++ t220), 0)) else (none)))) else (none)) else (some (([] : List Int), bt213.2))))) else (some (([] : List Int), bt200.2))))) else (some (([] : List Int), t196))) = some (r1, r2) := H
  have A2 := Aside0.mk A20
  clear A20
  by_cases c3 : t196 = 0
  · rw [if_pos c3] at H
    have c3b0 : (t196 == 0) = true := beq_iff_eq.mpr c3
    have c3b1 : (t196 != 0) = false := bne_eq_false_iff_eq.mpr c3
    clear c3
    replace H := Option.bind_eq_some_iff.mp H
    obtain ⟨t197, A40, H⟩ := H
    replace H : ((memb_ahead.f k t197).bind fun bt200 => (if bt200.2 = 0 then ((memb_header.f a0_0 a0_1 a0_2 a0_3 a0_4 a0_5 a0_6 l0_7).bind fun bt204 => ((head_Lay.f k bt204.1 bt204.2.1 bt204.2.2.1 bt204.2.2.2.1 bt204.2.2.2.2.1 bt204.2.2.2.2.2.1 bt204.2.2.2.2.2.2.1 bt204.2.2.2.2.2.2.2.1 bt204.2.2.2.2.2.2.2.2).bind fun bt213 => (if bt213.2 = 0 then (if bt200.1.length + bt213.1.length < 140737488355328 then ((some (bt200.1 ++ bt213.1 : List Int)).bind fun y217 => ((blocks_Fill.f l0_7).bind fun t220 => (if y217.length + t220.length < 140737488355328 then (some ((y217 ++ t220), 0)) else (none)))) else (none)) else (some (([] : List Int), bt213.2))))) else (some (([] : List Int), bt200.2)))) = some (r1, r2) := H
    have A4 := Aside0.mk A40
    clear A40
    replace H := Option.bind_eq_some_iff.mp H
    obtain ⟨⟨t200, t201⟩, A50, H⟩ := H
    replace H : (if t201 = 0 then ((memb_header.f a0_0 a0_1 a0_2 a0_3 a0_4 a0_5 a0_6 l0_7).bind fun bt204 => ((head_Lay.f k bt204.1 bt204.2.1 bt204.2.2.1 bt204.2.2.2.1 bt204.2.2.2.2.1 bt204.2.2.2.2.2.1 bt204.2.2.2.2.2.2.1 bt204.2.2.2.2.2.2.2.1 bt204.2.2.2.2.2.2.2.2).bind fun bt213 => (if bt213.2 = 0 then (if t200.length + bt213.1.length < 140737488355328 then ((some (t200 ++ bt213.1 : List Int)).bind fun y217 => ((blocks_Fill.f l0_7).bind fun t220 => (if y217.length + t220.length < 140737488355328 then (some ((y217 ++ t220), 0)) else (none)))) else (none)) else (some (([] : List Int), bt213.2))))) else (some (([] : List Int), t201))) = some (r1, r2) := H
    have A5 := Aside0.mk A50
    clear A50
    by_cases c6 : t201 = 0
    · rw [if_pos c6] at H
      have c6b0 : (t201 == 0) = true := beq_iff_eq.mpr c6
      have c6b1 : (t201 != 0) = false := bne_eq_false_iff_eq.mpr c6
      clear c6
      replace H := Option.bind_eq_some_iff.mp H
      obtain ⟨⟨t204, t205, t206, t207, t208, t209, t210, t211, t212⟩, A70, H⟩ := H
      replace H : ((head_Lay.f k t204 t205 t206 t207 t208 t209 t210 t211 t212).bind fun bt213 => (if bt213.2 = 0 then (if t200.length + bt213.1.length < 140737488355328 then ((some (t200 ++ bt213.1 : List Int)).bind fun y217 => ((blocks_Fill.f l0_7).bind fun t220 => (if y217.length + t220.length < 140737488355328 then (some ((y217 ++ t220), 0)) else (none)))) else (none)) else (some (([] : List Int), bt213.2)))) = some (r1, r2) := H
      have A7 := Aside0.mk A70
      clear A70
      replace H := Option.bind_eq_some_iff.mp H
      obtain ⟨⟨t213, t216⟩, A80, H⟩ := H
      replace H : (if t216 = 0 then (if t200.length + t213.length < 140737488355328 then ((some (t200 ++ t213 : List Int)).bind fun y217 => ((blocks_Fill.f l0_7).bind fun t220 => (if y217.length + t220.length < 140737488355328 then (some ((y217 ++ t220), 0)) else (none)))) else (none)) else (some (([] : List Int), t216))) = some (r1, r2) := H
      have A8 := Aside0.mk A80
      clear A80
      by_cases c9 : t216 = 0
      · rw [if_pos c9] at H
        have c9b0 : (t216 == 0) = true := beq_iff_eq.mpr c9
        have c9b1 : (t216 != 0) = false := bne_eq_false_iff_eq.mpr c9
        clear c9
        by_cases c10 : t200.length + t213.length < 140737488355328
        · rw [if_pos c10] at H
          have LMc10 := Aside0.mk c10
          clear c10
          obtain ⟨y217, hy217⟩ : ∃ y_ : List Int, y_ = (t200 ++ t213) := ⟨_, rfl⟩
          replace H : ((blocks_Fill.f l0_7).bind fun t220 => (if y217.length + t220.length < 140737488355328 then (some ((y217 ++ t220), 0)) else (none))) = some (r1, r2) := by first | (rw [hy217]; with_reducible exact H) | (have H2_ := (Option.bind_some _ _).symm.trans H; rw [hy217]; with_reducible exact H2_) | (have H2_ := (Option.bind_some _ _).symm.trans H; with_reducible exact H2_) | with_reducible exact H | (rw [hy217]; exact H) | exact H
          have Ny217 := Aside0.mk hy217
          clear hy217
          replace H := Option.bind_eq_some_iff.mp H
          obtain ⟨t220, A110, H⟩ := H
          replace H : (if y217.length + t220.length < 140737488355328 then (some ((y217 ++ t220), 0)) else (none)) = some (r1, r2) := H
          have A11 := Aside0.mk A110
          clear A110
          by_cases c12 : y217.length + t220.length < 140737488355328
          · rw [if_pos c12] at H
            have LMc12 := Aside0.mk c12
            clear c12
            obtain ⟨y223, hy223⟩ : ∃ y_ : List Int, y_ = (y217 ++ t220) := ⟨_, rfl⟩
            replace H : (some (y223, 0)) = some (r1, r2) := by first | (rw [hy223]; with_reducible exact H) | (have H2_ := (Option.bind_some _ _).symm.trans H; rw [hy223]; with_reducible exact H2_) | (have H2_ := (Option.bind_some _ _).symm.trans H; with_reducible exact H2_) | with_reducible exact H | (rw [hy223]; exact H) | exact H
            have Ny223 := Aside0.mk hy223
            clear hy223
            simp only [Option.some.injEq, Prod.mk.injEq] at H
            obtain ⟨rfl, rfl⟩ := H
            go_enter Tryz.func16, Tryz.ntmps16
            try go_wp2_with (first | ((with_reducible refine gate_dst (N := 1) rfl ?_); refine box_event ?hg (N := 1) ?hd (cs := #[.string a0_0, .int .i64 a0_1, .int .i64 a0_2, .int .i64 a0_3, .int .i64 a0_4, .int .i64 a0_5, .string a0_6, .slice A0_7 l0_7.length c0_7]) (t := 38) ?hr ?_; (case hd => rfl); (case hg => rfl); (case hr => first | (go_simp; done) | (go_simp; rfl)); intro gb195 hg w13 hbox hb; have n0_ := Aside0.mk (below_step (by repeat (first | (with_reducible first | exact HB.out | apply below_alloc | apply pw_below_drewN | apply below_drew1) | exact HB.out)) hb); have n1_ := Aside0.mk (hbox); have n2_ := Aside0.mk ((by rw [hg]; exact (below_size (by repeat (first | (with_reducible first | exact HB.out | apply below_alloc | apply pw_below_drewN | apply below_drew1) | exact HB.out))) : w.heap.size ≤ gb195)); have n3_ := Aside0.mk ((by rw [hg]; exact (below_size (by repeat (first | (with_reducible first | exact HB.out | apply below_alloc | apply pw_below_drewN | apply below_drew1) | exact HB.out))) : w.heap.size ≤ gb195)); clear HB; have HB := n0_; have BK195 := n1_; have GW195 := n2_; have GE195 := n3_; clear n0_ n1_ n2_ n3_; clear hb hbox hg; have hcz14_0 : w13.cell? ⟨gb195, 0, none⟩ = some (.string a0_0) := (blk_cell BK195.out 0).trans rfl; have hcz14_1 : w13.cell? ⟨gb195, 1, none⟩ = some (.int .i64 a0_1) := (blk_cell BK195.out 1).trans rfl; have hcz14_2 : w13.cell? ⟨gb195, 2, none⟩ = some (.int .i64 a0_2) := (blk_cell BK195.out 2).trans rfl; have hcz14_3 : w13.cell? ⟨gb195, 3, none⟩ = some (.int .i64 a0_3) := (blk_cell BK195.out 3).trans rfl; have hcz14_4 : w13.cell? ⟨gb195, 4, none⟩ = some (.int .i64 a0_4) := (blk_cell BK195.out 4).trans rfl; have hcz14_5 : w13.cell? ⟨gb195, 5, none⟩ = some (.int .i64 a0_5) := (blk_cell BK195.out 5).trans rfl; have hcz14_6 : w13.cell? ⟨gb195, 6, none⟩ = some (.string a0_6) := (blk_cell BK195.out 6).trans rfl; have hcz14_7 : w13.cell? ⟨gb195, 7, none⟩ = some (.slice A0_7 l0_7.length c0_7) := (blk_cell BK195.out 7).trans rfl; have hfz14_0 := blk_frozen BK195.out 0; have hfz14_1 := blk_frozen BK195.out 1; have hfz14_2 := blk_frozen BK195.out 2; have hfz14_3 := blk_frozen BK195.out 3; have hfz14_4 := blk_frozen BK195.out 4; have hfz14_5 := blk_frozen BK195.out 5; have hfz14_6 := blk_frozen BK195.out 6; have hfz14_7 := blk_frozen BK195.out 7) | ((with_reducible refine gate_callee (f := 24) rfl ?_); refine goesL_ (some 9) rfl rfl Tryz.func24 (by kernel_rfl) rfl #[.agg #[.string a0_0, .int .i64 a0_1, .int .i64 a0_2, .int .i64 a0_3, .int .i64 a0_4, .int .i64 a0_5, .string a0_6, .slice A0_7 l0_7.length c0_7]] rfl (by (try simp only [List.map_toArray, List.map_cons, List.map_nil]); first | done | rfl | (simp only [List.length_drop, List.length_take]; rfl)) ?_; (with_reducible refine (memb_May.calls a0_0 a0_1 a0_2 a0_3 a0_4 a0_5 a0_6 _ _ l0_7 t196 _ ?side1 ?side2 A2.out).mono ?_); (case side1 => repeat (first | exact (Kd.C_below HR0_7.out HB.out) | (with_reducible refine Kd.C_alloc ?_ _) | (with_reducible refine Kd.C_drewN ?_ _) | (with_reducible refine Kd.C_drew ?_))); (case side2 => exact HC0_7.out); rintro e w15 ⟨rfl, hb⟩; refine ⟨_, rfl, ?_⟩; have n0_ := Aside0.mk (blk_below (g := gb195) (o := .cells #[.string a0_0, .int .i64 a0_1, .int .i64 a0_2, .int .i64 a0_3, .int .i64 a0_4, .int .i64 a0_5, .string a0_6, .slice A0_7 l0_7.length c0_7] 38 (0, 0)) (by (with_reducible repeat (first | refine blk_drewN ?_ _ | refine blk_drew ?_ | refine blk_alloc ?_ _)); exact BK195.out) hb); have n1_ := Aside0.mk (below_step (by repeat (first | (with_reducible first | exact HB.out | apply below_alloc | apply pw_below_drewN | apply below_drew1 | refine below_set ?_ GE195.out) | exact HB.out)) hb); clear BK195; clear HB; have BK195 := n0_; have HB := n1_; clear n0_ n1_; (try clear hb); (try clear hb2); (try clear hk); (try clear hi); have hcz16_0 : w15.cell? ⟨gb195, 0, none⟩ = some (.string a0_0) := (blk_cell BK195.out 0).trans rfl; have hcz16_1 : w15.cell? ⟨gb195, 1, none⟩ = some (.int .i64 a0_1) := (blk_cell BK195.out 1).trans rfl; have hcz16_2 : w15.cell? ⟨gb195, 2, none⟩ = some (.int .i64 a0_2) := (blk_cell BK195.out 2).trans rfl; have hcz16_3 : w15.cell? ⟨gb195, 3, none⟩ = some (.int .i64 a0_3) := (blk_cell BK195.out 3).trans rfl; have hcz16_4 : w15.cell? ⟨gb195, 4, none⟩ = some (.int .i64 a0_4) := (blk_cell BK195.out 4).trans rfl; have hcz16_5 : w15.cell? ⟨gb195, 5, none⟩ = some (.int .i64 a0_5) := (blk_cell BK195.out 5).trans rfl; have hcz16_6 : w15.cell? ⟨gb195, 6, none⟩ = some (.string a0_6) := (blk_cell BK195.out 6).trans rfl; have hcz16_7 : w15.cell? ⟨gb195, 7, none⟩ = some (.slice A0_7 l0_7.length c0_7) := (blk_cell BK195.out 7).trans rfl; have hfz16_0 := blk_frozen BK195.out 0; have hfz16_1 := blk_frozen BK195.out 1; have hfz16_2 := blk_frozen BK195.out 2; have hfz16_3 := blk_frozen BK195.out 3; have hfz16_4 := blk_frozen BK195.out 4; have hfz16_5 := blk_frozen BK195.out 5; have hfz16_6 := blk_frozen BK195.out 6; have hfz16_7 := blk_frozen BK195.out 7) | ((with_reducible refine gate_callee (f := 17) rfl ?_); refine goesL_ (some 15) rfl rfl Tryz.func17 (by kernel_rfl) rfl #[.agg #[.string a0_0, .int .i64 a0_1, .int .i64 a0_2, .int .i64 a0_3, .int .i64 a0_4, .int .i64 a0_5, .string a0_6, .slice A0_7 l0_7.length c0_7]] rfl (by (try simp only [List.map_toArray, List.map_cons, List.map_nil]); first | done | rfl | (simp only [List.length_drop, List.length_take]; rfl)) ?_; (with_reducible refine (memb_Recs.calls a0_0 a0_1 a0_2 a0_3 a0_4 a0_5 a0_6 _ _ l0_7 t197 _ ?side1 ?side2 A4.out).mono ?_); (case side1 => repeat (first | exact (Kd.C_below HR0_7.out HB.out) | (with_reducible refine Kd.C_alloc ?_ _) | (with_reducible refine Kd.C_drewN ?_ _) | (with_reducible refine Kd.C_drew ?_))); (case side2 => exact HC0_7.out); rintro e w17 ⟨v198, rfl, ho0, hb⟩; refine ⟨_, rfl, ?_⟩; have n0_ := Aside0.mk (Kd.R_lower ho0 (below_size (by repeat (first | (with_reducible first | exact HB.out | apply below_alloc | apply pw_below_drewN | apply below_drew1 | refine below_set ?_ GE195.out) | exact HB.out)))); have n1_ := Aside0.mk (blk_below (g := gb195) (o := .cells #[.string a0_0, .int .i64 a0_1, .int .i64 a0_2, .int .i64 a0_3, .int .i64 a0_4, .int .i64 a0_5, .string a0_6, .slice A0_7 l0_7.length c0_7] 38 (0, 0)) (by (with_reducible repeat (first | refine blk_drewN ?_ _ | refine blk_drew ?_ | refine blk_alloc ?_ _)); exact BK195.out) hb); have n2_ := Aside0.mk (below_step (by repeat (first | (with_reducible first | exact HB.out | apply below_alloc | apply pw_below_drewN | apply below_drew1 | refine below_set ?_ GE195.out) | exact HB.out)) hb); clear BK195; clear HB; have HO199 := n0_; have BK195 := n1_; have HB := n2_; clear n0_ n1_ n2_; (try clear hb); (try clear hb2); (try clear hk); (try clear hi); (try clear ho0); obtain ⟨Ao18, co18, eo18⟩ := Kd.R_slice HO199.out; subst eo18) | ((with_reducible refine gate_callee (f := 29) rfl ?_); refine goesL_ (some 16) rfl rfl Tryz.func29 (by kernel_rfl) rfl #[.slice Ao18 t197.length co18] rfl (by (try simp only [List.map_toArray, List.map_cons, List.map_nil]); first | done | rfl | (simp only [List.length_drop, List.length_take]; rfl)) ?_; (with_reducible refine (memb_ahead.calls k _ _ t197 t200 t201 _ ⟨HTB.out.below (by repeat (first | (with_reducible first | exact HB.out | apply below_alloc | apply pw_below_drewN | apply below_drew1 | refine below_set ?_ GE195.out) | exact HB.out))⟩ ?side1 ?side2 A5.out).mono ?_); (case side1 => repeat (first | exact (Kd.R_reads' HO199.out).2.2 | (with_reducible refine Kd.C_alloc ?_ _) | (with_reducible refine Kd.C_drewN ?_ _) | (with_reducible refine Kd.C_drew ?_))); (case side2 => exact (Kd.R_reads' HO199.out).2.1); rintro e w19 ⟨v202, rfl, ho0, hb⟩; refine ⟨_, rfl, ?_⟩; have n0_ := Aside0.mk (Kd.R_below (by (with_reducible repeat (first | apply Kd.R_alloc | apply Kd.R_drewN | apply Kd.R_drew)); exact HO199.out) hb); have n1_ := Aside0.mk (Kd.R_lower ho0 (below_size (by repeat (first | (with_reducible first | exact HB.out | apply below_alloc | apply pw_below_drewN | apply below_drew1 | refine below_set ?_ GE195.out) | exact HB.out)))); have n2_ := Aside0.mk (blk_below (g := gb195) (o := .cells #[.string a0_0, .int .i64 a0_1, .int .i64 a0_2, .int .i64 a0_3, .int .i64 a0_4, .int .i64 a0_5, .string a0_6, .slice A0_7 l0_7.length c0_7] 38 (0, 0)) (by (with_reducible repeat (first | refine blk_drewN ?_ _ | refine blk_drew ?_ | refine blk_alloc ?_ _)); exact BK195.out) hb); have n3_ := Aside0.mk (below_step (by repeat (first | (with_reducible first | exact HB.out | apply below_alloc | apply pw_below_drewN | apply below_drew1 | refine below_set ?_ GE195.out) | exact HB.out)) hb); clear HO199; clear BK195; clear HB; have HO199 := n0_; have HO203 := n1_; have BK195 := n2_; have HB := n3_; clear n0_ n1_ n2_ n3_; (try clear hb); (try clear hb2); (try clear hk); (try clear hi); (try clear ho0); have hcz20_0 : w19.cell? ⟨gb195, 0, none⟩ = some (.string a0_0) := (blk_cell BK195.out 0).trans rfl; have hcz20_1 : w19.cell? ⟨gb195, 1, none⟩ = some (.int .i64 a0_1) := (blk_cell BK195.out 1).trans rfl; have hcz20_2 : w19.cell? ⟨gb195, 2, none⟩ = some (.int .i64 a0_2) := (blk_cell BK195.out 2).trans rfl; have hcz20_3 : w19.cell? ⟨gb195, 3, none⟩ = some (.int .i64 a0_3) := (blk_cell BK195.out 3).trans rfl; have hcz20_4 : w19.cell? ⟨gb195, 4, none⟩ = some (.int .i64 a0_4) := (blk_cell BK195.out 4).trans rfl; have hcz20_5 : w19.cell? ⟨gb195, 5, none⟩ = some (.int .i64 a0_5) := (blk_cell BK195.out 5).trans rfl; have hcz20_6 : w19.cell? ⟨gb195, 6, none⟩ = some (.string a0_6) := (blk_cell BK195.out 6).trans rfl; have hcz20_7 : w19.cell? ⟨gb195, 7, none⟩ = some (.slice A0_7 l0_7.length c0_7) := (blk_cell BK195.out 7).trans rfl; have hfz20_0 := blk_frozen BK195.out 0; have hfz20_1 := blk_frozen BK195.out 1; have hfz20_2 := blk_frozen BK195.out 2; have hfz20_3 := blk_frozen BK195.out 3; have hfz20_4 := blk_frozen BK195.out 4; have hfz20_5 := blk_frozen BK195.out 5; have hfz20_6 := blk_frozen BK195.out 6; have hfz20_7 := blk_frozen BK195.out 7) | ((with_reducible refine gate_callee (f := 31) rfl ?_); refine goesL_ (some 24) rfl rfl Tryz.func31 (by kernel_rfl) rfl #[.agg #[.string a0_0, .int .i64 a0_1, .int .i64 a0_2, .int .i64 a0_3, .int .i64 a0_4, .int .i64 a0_5, .string a0_6, .slice A0_7 l0_7.length c0_7]] rfl (by (try simp only [List.map_toArray, List.map_cons, List.map_nil]); first | done | rfl | (simp only [List.length_drop, List.length_take]; rfl)) ?_; (with_reducible refine (memb_header.calls a0_0 a0_1 a0_2 a0_3 a0_4 a0_5 a0_6 _ _ l0_7 t204 t205 t206 t207 t208 t209 t210 t211 t212 _ ?side1 ?side2 A7.out).mono ?_); (case side1 => repeat (first | exact (Kd.C_below HR0_7.out HB.out) | (with_reducible refine Kd.C_alloc ?_ _) | (with_reducible refine Kd.C_drewN ?_ _) | (with_reducible refine Kd.C_drew ?_))); (case side2 => exact HC0_7.out); rintro e w21 ⟨rfl, hb⟩; refine ⟨_, rfl, ?_⟩; have n0_ := Aside0.mk (Kd.R_below (by (with_reducible repeat (first | apply Kd.R_alloc | apply Kd.R_drewN | apply Kd.R_drew)); exact HO199.out) hb); have n1_ := Aside0.mk (Kd.R_below (by (with_reducible repeat (first | apply Kd.R_alloc | apply Kd.R_drewN | apply Kd.R_drew)); exact HO203.out) hb); have n2_ := Aside0.mk (blk_below (g := gb195) (o := .cells #[.string a0_0, .int .i64 a0_1, .int .i64 a0_2, .int .i64 a0_3, .int .i64 a0_4, .int .i64 a0_5, .string a0_6, .slice A0_7 l0_7.length c0_7] 38 (0, 0)) (by (with_reducible repeat (first | refine blk_drewN ?_ _ | refine blk_drew ?_ | refine blk_alloc ?_ _)); exact BK195.out) hb); have n3_ := Aside0.mk (below_step (by repeat (first | (with_reducible first | exact HB.out | apply below_alloc | apply pw_below_drewN | apply below_drew1 | refine below_set ?_ GE195.out) | exact HB.out)) hb); clear HO199; clear HO203; clear BK195; clear HB; have HO199 := n0_; have HO203 := n1_; have BK195 := n2_; have HB := n3_; clear n0_ n1_ n2_ n3_; (try clear hb); (try clear hb2); (try clear hk); (try clear hi)) | ((with_reducible refine gate_callee (f := 30) rfl ?_); refine goesL_ (some 25) rfl rfl Tryz.func30 (by kernel_rfl) rfl #[.agg #[.string t204, .string t205, .int .i64 t206, .int .i64 t207, .int .i64 t208, .int .i64 t209, .int .i64 t210, .int .u8 t211, .string t212]] rfl (by (try simp only [List.map_toArray, List.map_cons, List.map_nil]); first | done | rfl | (simp only [List.length_drop, List.length_take]; rfl)) ?_; (with_reducible refine (head_Lay.calls k t204 t205 t206 t207 t208 t209 t210 t211 t212 t213 t216 _ A8.out).mono ?_); rintro e w22 ⟨v214, rfl, ho0, hb⟩; refine ⟨_, rfl, ?_⟩; have n0_ := Aside0.mk (Kd.R_below (by (with_reducible repeat (first | apply Kd.R_alloc | apply Kd.R_drewN | apply Kd.R_drew)); exact HO199.out) hb); have n1_ := Aside0.mk (Kd.R_elder' (by (with_reducible repeat (first | apply Kd.R_alloc | apply Kd.R_drewN | apply Kd.R_drew)); exact HO203.out) (Kd.R_base ho0) hb); have n2_ := Aside0.mk (Kd.R_lower (Kd.R_new' ho0 (Kd.R_lt (by (with_reducible repeat (first | apply Kd.R_alloc | apply Kd.R_drewN | apply Kd.R_drew)); exact HO203.out))) (below_size (by repeat (first | (with_reducible first | exact HB.out | apply below_alloc | apply pw_below_drewN | apply below_drew1 | refine below_set ?_ GE195.out) | exact HB.out)))); have n3_ := Aside0.mk (blk_below (g := gb195) (o := .cells #[.string a0_0, .int .i64 a0_1, .int .i64 a0_2, .int .i64 a0_3, .int .i64 a0_4, .int .i64 a0_5, .string a0_6, .slice A0_7 l0_7.length c0_7] 38 (0, 0)) (by (with_reducible repeat (first | refine blk_drewN ?_ _ | refine blk_drew ?_ | refine blk_alloc ?_ _)); exact BK195.out) hb); have n4_ := Aside0.mk (below_step (by repeat (first | (with_reducible first | exact HB.out | apply below_alloc | apply pw_below_drewN | apply below_drew1 | refine below_set ?_ GE195.out) | exact HB.out)) hb); clear HO199; clear HO203; clear BK195; clear HB; have HO199 := n0_; have HO203 := n1_; have HO215 := n2_; have BK195 := n3_; have HB := n4_; clear n0_ n1_ n2_ n3_ n4_; (try clear hb); (try clear hb2); (try clear hk); (try clear hi); (try clear ho0)))
            have n0_ := Aside0.mk (Kd.R_drew HO199.out)
            have n1_ := Aside0.mk (Kd.R_drew HO203.out)
            have n2_ := Aside0.mk (Kd.R_drew HO215.out)
            have n3_ := Aside0.mk (blk_drew BK195.out)
            have n4_ := Aside0.mk (below_drew1 HB.out)
            clear HO199
            clear HO203
            clear HO215
            clear BK195
            clear HB
            have HO199 := n0_
            have HO203 := n1_
            have HO215 := n2_
            have BK195 := n3_
            have HB := n4_
            clear n0_ n1_ n2_ n3_ n4_
            obtain ⟨Ao25, co25, eo25⟩ := Kd.R_slice HO215.out
            (first | subst eo25 | (injection eo25 with f1_ f2_ f3_; have f4_ := f1_.symm; have f5_ := f3_.symm; clear f1_ f2_ f3_; subst f4_; subst f5_))
            refine start_ (n := 9) (S := fun w' => w'.cell? ⟨gb195, 0, none⟩ = some (.string a0_0) ∧ w'.cell? ⟨gb195, 1, none⟩ = some (.int .i64 a0_1) ∧ w'.cell? ⟨gb195, 2, none⟩ = some (.int .i64 a0_2) ∧ w'.cell? ⟨gb195, 3, none⟩ = some (.int .i64 a0_3) ∧ w'.cell? ⟨gb195, 4, none⟩ = some (.int .i64 a0_4) ∧ w'.cell? ⟨gb195, 5, none⟩ = some (.int .i64 a0_5) ∧ w'.cell? ⟨gb195, 6, none⟩ = some (.string a0_6) ∧ w'.cell? ⟨gb195, 7, none⟩ = some (.slice A0_7 l0_7.length c0_7)) (ds := []) #[false, false, false, false, false, false, false, false, false] (by kernel_rfl) rfl rfl ⟨(blk_cell BK195.out 0).trans rfl, (blk_cell BK195.out 1).trans rfl, (blk_cell BK195.out 2).trans rfl, (blk_cell BK195.out 3).trans rfl, (blk_cell BK195.out 4).trans rfl, (blk_cell BK195.out 5).trans rfl, (blk_cell BK195.out 6).trans rfl, (blk_cell BK195.out 7).trans rfl⟩ (fun hHeld => ?_); refine with_tabW memb_Lay.tab10 memb_Lay.bits10 (fun HT_ HW_ => ?_)
            generalize w22.drew = w23 at HO199 HO203 HO215 BK195 HB hHeld ⊢
            refine pure_ (i := 0) (N := some 31) (v := ?_) (a' := ?_) #[true, false, false, false, false, false, false, false, false] rfl rfl (any_of HT_.out (by kernel_rfl)) (fun _ _ _ h => h) (Or.inl ⟨by rfl, ?_⟩) ?_ ?_
            rotate_left
            · intro w'
              go_simp
              with_reducible rfl
            rotate_left
            · simp only [Act.put, List.setIfInBounds_toArray, List.set_cons_zero, List.set_cons_succ, i64_w, i32_w]
              rfl
            refine pure_ (i := 1) (N := some 32) (v := ?_) (a' := ?_) #[true, true, false, false, false, false, false, false, false] rfl rfl (any_of HT_.out (by kernel_rfl)) (fun _ _ _ h => h) (Or.inl ⟨by rfl, ?_⟩) ?_ ?_
            rotate_left
            · intro w'
              go_simp
              with_reducible rfl
            rotate_left
            · simp only [Act.put, List.setIfInBounds_toArray, List.set_cons_zero, List.set_cons_succ, i64_w, i32_w]
              rfl
            refine pure_ (i := 3) (N := some 34) (v := ?_) (a' := ?_) #[true, true, false, true, false, false, false, false, false] rfl rfl (any_of HT_.out (by kernel_rfl)) (fun _ _ _ h => h) (Or.inl ⟨by rfl, ?_⟩) ?_ ?_
            rotate_left
            · intro w'
              go_simp
              with_reducible rfl
            rotate_left
            · simp only [Act.put, List.setIfInBounds_toArray, List.set_cons_zero, List.set_cons_succ, i64_w, i32_w]
              rfl
            refine take_ (i := 4) (N := some 35) (v := ?_) (a' := ?_) #[true, true, false, true, true, false, false, false, false] rfl rfl (take_ofW HT_.out HW_.out (by kernel_rfl)) (fun _ _ _ h => h) (Or.inl ⟨by rfl, ?_⟩) hHeld ?_ ?_
            rotate_left
            · rintro w' ⟨s0, s1, s2, s3, s4, s5, s6, s7⟩
              go_simp
              with_reducible rfl
            rotate_left
            · simp only [Act.put, List.setIfInBounds_toArray, List.set_cons_zero, List.set_cons_succ, i64_w, i32_w]
              rfl
            refine one_ (i := 2) (N := some 33) #[true, true, true, true, true, false, false, false, false] rfl rfl (one_of HT_.out (by kernel_rfl)) (by decide) (fun K hK => ?_)
            refine Kd.R_append_rows_step (Kd.int .u8) (w0 := w) w.heap.size (by rfl) (.tmp 31) (.tmp 32) 31 5 (.int .u8 0) 1 rfl Tryz.underlying31 info5 rfl (by decide) (by omega) v202 t200 t213 _ _ _ (fun k_ => some k_ ≠ (.slice Ao25 t213.length co25 : Value).ownBlock) (fun _ => False) rfl rfl ?aO ?aR (fun _ _ h => h) (fun _ h => h.elim) ?aF ?aB ?aS ?aL ?_
            (case aR => repeat (first | exact (Kd.R_reads' HO215.out).2.2 | (with_reducible refine Kd.C_alloc ?_ _) | (with_reducible refine Kd.C_drewN ?_ _) | (with_reducible refine Kd.C_drew ?_)))
            (case aB => exact (by repeat (first | (with_reducible first | exact HB.out | apply below_alloc | apply pw_below_drewN | apply below_drew1 | refine below_set ?_ GE195.out) | exact HB.out)))
            (case aF => exact (fun k_ hk => Kd.fresh' (Kd.R_lt (by (with_reducible repeat (first | apply Kd.R_alloc | apply Kd.R_drewN | apply Kd.R_drew)); exact HO215.out)) k_ hk))
            (case aO => exact (by (with_reducible repeat (first | apply Kd.R_alloc | apply Kd.R_drewN | apply Kd.R_drew)); exact Kd.R_mono HO203.out (fun _ hk => hk.2)))
            (case aS => exact (below_size (by repeat (first | (with_reducible first | exact HB.out | apply below_alloc | apply pw_below_drewN | apply below_drew1 | refine below_set ?_ GE195.out) | exact HB.out))))
            (case aL => have := LMc10.out; omega)
            intro v218 w24 ho hb hg hat
            rw [← Ny217.out] at ho
            have n0_ := Aside0.mk (blk_grown (g := gb195) (o := .cells #[.string a0_0, .int .i64 a0_1, .int .i64 a0_2, .int .i64 a0_3, .int .i64 a0_4, .int .i64 a0_5, .string a0_6, .slice A0_7 l0_7.length c0_7] 38 (0, 0)) (by (with_reducible repeat (first | refine blk_drewN ?_ _ | refine blk_drew ?_ | refine blk_alloc ?_ _)); exact BK195.out) hg (Kd.R_ne HO203.out BK195.out (by decide)))
            have n1_ := Aside0.mk (Kd.R_over' (by (with_reducible repeat (first | apply Kd.R_alloc | apply Kd.R_drewN | apply Kd.R_drew)); exact HO199.out) (Kd.R_typed (by (with_reducible repeat (first | apply Kd.R_alloc | apply Kd.R_drewN | apply Kd.R_drew)); exact HO203.out)) (by decide) hg)
            have n2_ := Aside0.mk (Kd.R_after (ok := (fun _ => True)) (by (with_reducible repeat (first | apply Kd.R_alloc | apply Kd.R_drewN | apply Kd.R_drew)); exact HO215.out) hg hat)
            have n3_ := Aside0.mk (hb)
            have n4_ := Aside0.mk (ho)
            clear BK195
            clear HO199
            clear HO215
            clear HB
            clear HO203
            have BK195 := n0_
            have HO199 := n1_
            have HO215 := n2_
            have HB := n3_
            have HO219 := n4_
            clear n0_ n1_ n2_ n3_ n4_
            clear ho hb hg hat
            refine hK.out _ _ ⟨(blk_cell BK195.out 0).trans rfl, (blk_cell BK195.out 1).trans rfl, (blk_cell BK195.out 2).trans rfl, (blk_cell BK195.out 3).trans rfl, (blk_cell BK195.out 4).trans rfl, (blk_cell BK195.out 5).trans rfl, (blk_cell BK195.out 6).trans rfl, (blk_cell BK195.out 7).trans rfl⟩ (fun hHeld => ?_)
            clear hK K
            refine norm_ (a' := ?_) ?_ ?_
            rotate_left
            · show Act.put _ (some 33) _ = _
              simp only [Act.put, List.setIfInBounds_toArray, List.set_cons_zero, List.set_cons_succ, i64_w, i32_w]
              rfl
            refine one_ (i := 5) (N := some 36) #[true, true, true, true, true, true, false, false, false] rfl rfl (one_of HT_.out (by kernel_rfl)) (by decide) (fun K hK => ?_)
            refine goes_ Tryz.func32 (by kernel_rfl) rfl #[.slice A0_7 l0_7.length c0_7] (by rfl) rfl rfl (by (try simp only [List.map_toArray, List.map_cons, List.map_nil]); first | done | rfl | (simp only [List.length_drop, List.length_take]; rfl)) ?_
            with_reducible refine (blocks_Fill.calls _ _ l0_7 t220 _ ?side1 ?side2 A11.out).mono ?_
            (case side1 => repeat (first | exact (Kd.C_below HR0_7.out HB.out) | (with_reducible refine Kd.C_alloc ?_ _) | (with_reducible refine Kd.C_drewN ?_ _) | (with_reducible refine Kd.C_drew ?_)))
            (case side2 => exact HC0_7.out)
            rintro e w26 ⟨v221, rfl, ho0, hb⟩
            refine ⟨_, rfl, ?_⟩
            have n0_ := Aside0.mk (Kd.R_below (by (with_reducible repeat (first | apply Kd.R_alloc | apply Kd.R_drewN | apply Kd.R_drew)); exact HO199.out) hb)
            have n1_ := Aside0.mk (Kd.R_elder' (by (with_reducible repeat (first | apply Kd.R_alloc | apply Kd.R_drewN | apply Kd.R_drew)); exact HO215.out) (Kd.R_base ho0) hb)
            have n2_ := Aside0.mk (Kd.R_elder' (by (with_reducible repeat (first | apply Kd.R_alloc | apply Kd.R_drewN | apply Kd.R_drew)); exact HO219.out) (Kd.R_base ho0) hb)
            have n3_ := Aside0.mk (Kd.R_lower (Kd.R_new' (Kd.R_new' ho0 (Kd.R_lt (by (with_reducible repeat (first | apply Kd.R_alloc | apply Kd.R_drewN | apply Kd.R_drew)); exact HO215.out))) (Kd.R_lt (by (with_reducible repeat (first | apply Kd.R_alloc | apply Kd.R_drewN | apply Kd.R_drew)); exact HO219.out))) (below_size (by repeat (first | (with_reducible first | exact HB.out | apply below_alloc | apply pw_below_drewN | apply below_drew1 | refine below_set ?_ GE195.out) | exact HB.out))))
            have n4_ := Aside0.mk (blk_below (g := gb195) (o := .cells #[.string a0_0, .int .i64 a0_1, .int .i64 a0_2, .int .i64 a0_3, .int .i64 a0_4, .int .i64 a0_5, .string a0_6, .slice A0_7 l0_7.length c0_7] 38 (0, 0)) (by (with_reducible repeat (first | refine blk_drewN ?_ _ | refine blk_drew ?_ | refine blk_alloc ?_ _)); exact BK195.out) hb)
            have n5_ := Aside0.mk (below_step (by repeat (first | (with_reducible first | exact HB.out | apply below_alloc | apply pw_below_drewN | apply below_drew1 | refine below_set ?_ GE195.out) | exact HB.out)) hb)
            clear HO199
            clear HO215
            clear HO219
            clear BK195
            clear HB
            have HO199 := n0_
            have HO215 := n1_
            have HO219 := n2_
            have HO222 := n3_
            have BK195 := n4_
            have HB := n5_
            clear n0_ n1_ n2_ n3_ n4_ n5_
            (try clear hb)
            (try clear hb2)
            (try clear hk)
            (try clear hi)
            (try clear ho0)
            obtain ⟨Ao28, co28, eo28⟩ := Kd.R_slice HO222.out
            (first | subst eo28 | (injection eo28 with f1_ f2_ f3_; have f4_ := f1_.symm; have f5_ := f3_.symm; clear f1_ f2_ f3_; subst f4_; subst f5_))
            refine hK.out _ _ ⟨(blk_cell BK195.out 0).trans rfl, (blk_cell BK195.out 1).trans rfl, (blk_cell BK195.out 2).trans rfl, (blk_cell BK195.out 3).trans rfl, (blk_cell BK195.out 4).trans rfl, (blk_cell BK195.out 5).trans rfl, (blk_cell BK195.out 6).trans rfl, (blk_cell BK195.out 7).trans rfl⟩ (fun hHeld => ?_)
            clear hK K
            refine norm_ (a' := ?_) ?_ ?_
            rotate_left
            · show Act.put _ (some 36) _ = _
              simp only [Act.put, List.setIfInBounds_toArray, List.set_cons_zero, List.set_cons_succ, i64_w, i32_w]
              rfl
            refine one_ (i := 6) (N := some 37) #[true, true, true, true, true, true, true, false, false] rfl rfl (one_of HT_.out (by kernel_rfl)) (by decide) (fun K hK => ?_)
            refine Kd.R_append_rows_step (Kd.int .u8) (w0 := w) w.heap.size (by rfl) (.tmp 33) (.tmp 36) 31 5 (.int .u8 0) 1 rfl Tryz.underlying31 info5 rfl (by decide) (by omega) v218 y217 t220 _ _ _ (fun k_ => some k_ ≠ (.slice Ao25 t213.length co25 : Value).ownBlock ∧ some k_ ≠ (.slice Ao28 t220.length co28 : Value).ownBlock) (fun _ => False) rfl rfl ?aO ?aR (fun _ _ h => h) (fun _ h => h.elim) ?aF ?aB ?aS ?aL ?_
            (case aR => repeat (first | exact (Kd.R_reads' HO222.out).2.2 | (with_reducible refine Kd.C_alloc ?_ _) | (with_reducible refine Kd.C_drewN ?_ _) | (with_reducible refine Kd.C_drew ?_)))
            (case aB => exact (by repeat (first | (with_reducible first | exact HB.out | apply below_alloc | apply pw_below_drewN | apply below_drew1 | refine below_set ?_ GE195.out) | exact HB.out)))
            (case aF => exact (fun k_ hk => ⟨Kd.fresh' (Kd.R_lt (by (with_reducible repeat (first | apply Kd.R_alloc | apply Kd.R_drewN | apply Kd.R_drew)); exact HO215.out)) k_ hk, Kd.fresh' (Kd.R_lt (by (with_reducible repeat (first | apply Kd.R_alloc | apply Kd.R_drewN | apply Kd.R_drew)); exact HO222.out)) k_ hk⟩))
            (case aO => exact (by (with_reducible repeat (first | apply Kd.R_alloc | apply Kd.R_drewN | apply Kd.R_drew)); exact HO219.out))
            (case aS => exact (below_size (by repeat (first | (with_reducible first | exact HB.out | apply below_alloc | apply pw_below_drewN | apply below_drew1 | refine below_set ?_ GE195.out) | exact HB.out))))
            (case aL => have := LMc12.out; omega)
            intro v224 w27 ho hb hg hat
            rw [← Ny223.out] at ho
            have n0_ := Aside0.mk (blk_grown (g := gb195) (o := .cells #[.string a0_0, .int .i64 a0_1, .int .i64 a0_2, .int .i64 a0_3, .int .i64 a0_4, .int .i64 a0_5, .string a0_6, .slice A0_7 l0_7.length c0_7] 38 (0, 0)) (by (with_reducible repeat (first | refine blk_drewN ?_ _ | refine blk_drew ?_ | refine blk_alloc ?_ _)); exact BK195.out) hg (Kd.R_ne HO219.out BK195.out (by decide)))
            have n1_ := Aside0.mk (Kd.R_over' (by (with_reducible repeat (first | apply Kd.R_alloc | apply Kd.R_drewN | apply Kd.R_drew)); exact HO199.out) (Kd.R_typed (by (with_reducible repeat (first | apply Kd.R_alloc | apply Kd.R_drewN | apply Kd.R_drew)); exact HO219.out)) (by decide) hg)
            have n2_ := Aside0.mk (Kd.R_after (ok := (fun k_ => some k_ ≠ (.slice Ao28 t220.length co28 : Value).ownBlock)) (by (with_reducible repeat (first | apply Kd.R_alloc | apply Kd.R_drewN | apply Kd.R_drew)); exact Kd.R_mono HO215.out (fun _ hk => ⟨hk.2, hk.1.2⟩)) hg hat)
            have n3_ := Aside0.mk (Kd.R_after (ok := (fun k_ => some k_ ≠ (.slice Ao25 t213.length co25 : Value).ownBlock)) (by (with_reducible repeat (first | apply Kd.R_alloc | apply Kd.R_drewN | apply Kd.R_drew)); exact Kd.R_mono HO222.out (fun _ hk => ⟨hk.1.2, hk.2⟩)) hg hat)
            have n4_ := Aside0.mk (hb)
            have n5_ := Aside0.mk (ho)
            clear BK195
            clear HO199
            clear HO215
            clear HO222
            clear HB
            clear HO219
            have BK195 := n0_
            have HO199 := n1_
            have HO215 := n2_
            have HO222 := n3_
            have HB := n4_
            have HO225 := n5_
            clear n0_ n1_ n2_ n3_ n4_ n5_
            clear ho hb hg hat
            refine hK.out _ _ ⟨(blk_cell BK195.out 0).trans rfl, (blk_cell BK195.out 1).trans rfl, (blk_cell BK195.out 2).trans rfl, (blk_cell BK195.out 3).trans rfl, (blk_cell BK195.out 4).trans rfl, (blk_cell BK195.out 5).trans rfl, (blk_cell BK195.out 6).trans rfl, (blk_cell BK195.out 7).trans rfl⟩ (fun hHeld => ?_)
            clear hK K
            refine norm_ (a' := ?_) ?_ ?_
            rotate_left
            · show Act.put _ (some 37) _ = _
              simp only [Act.put, List.setIfInBounds_toArray, List.set_cons_zero, List.set_cons_succ, i64_w, i32_w]
              rfl
            refine pure_ (i := 7) (N := some 2) (v := ?_) (a' := ?_) #[true, true, true, true, true, true, true, true, false] rfl rfl (any_of HT_.out (by kernel_rfl)) (fun _ _ _ h => h) (Or.inl ⟨by rfl, ?_⟩) ?_ ?_
            rotate_left
            · intro w'
              go_simp
              with_reducible rfl
            rotate_left
            · simp only [Act.put, List.setIfInBounds_toArray, List.set_cons_zero, List.set_cons_succ, i64_w, i32_w]
              rfl
            refine pure_ (i := 8) (N := some 3) (v := ?_) (a' := ?_) #[true, true, true, true, true, true, true, true, true] rfl rfl (any_of HT_.out (by kernel_rfl)) (fun _ _ _ h => h) (Or.inl ⟨by rfl, ?_⟩) ?_ ?_
            rotate_left
            · intro w'
              go_simp
              with_reducible rfl
            rotate_left
            · simp only [Act.put, List.setIfInBounds_toArray, List.set_cons_zero, List.set_cons_succ, i64_w, i32_w]
              rfl
            refine done_ (done_of HT_.out (by kernel_rfl)) ?_
            try go_wp2
            go_ret2
            exact ⟨_, by first | rfl | (simp [errW_none, errW_some] <;> rfl) | (simp [*, errW_none, errW_some] <;> rfl), by (with_reducible repeat (first | apply Kd.R_alloc | apply Kd.R_drewN | apply Kd.R_drew)); exact Kd.R_mono HO225.out (fun _ hk => trivial), by repeat (first | (with_reducible first | exact HB.out | apply below_alloc | apply pw_below_drewN | apply below_drew1 | refine below_set ?_ GE195.out) | exact HB.out)⟩
          · rw [if_neg c12] at H
            exact absurd H (by simp)
        · rw [if_neg c10] at H
          exact absurd H (by simp)
      · rw [if_neg c9] at H
        have c9b0 : (t216 == 0) = false := beq_eq_false_iff_ne.mpr c9
        have c9b1 : (t216 != 0) = true := bne_iff_ne.mpr c9
        simp only [Option.some.injEq, Prod.mk.injEq] at H
        obtain ⟨rfl, rfl⟩ := H
        go_enter Tryz.func16, Tryz.ntmps16
        go_wp2_with (first | ((with_reducible refine gate_dst (N := 1) rfl ?_); refine box_event ?hg (N := 1) ?hd (cs := #[.string a0_0, .int .i64 a0_1, .int .i64 a0_2, .int .i64 a0_3, .int .i64 a0_4, .int .i64 a0_5, .string a0_6, .slice A0_7 l0_7.length c0_7]) (t := 38) ?hr ?_; (case hd => rfl); (case hg => rfl); (case hr => first | (go_simp; done) | (go_simp; rfl)); intro gb195 hg w29 hbox hb; have n0_ := Aside0.mk (below_step (by repeat (first | (with_reducible first | exact HB.out | apply below_alloc | apply pw_below_drewN | apply below_drew1) | exact HB.out)) hb); have n1_ := Aside0.mk (hbox); have n2_ := Aside0.mk ((by rw [hg]; exact (below_size (by repeat (first | (with_reducible first | exact HB.out | apply below_alloc | apply pw_below_drewN | apply below_drew1) | exact HB.out))) : w.heap.size ≤ gb195)); have n3_ := Aside0.mk ((by rw [hg]; exact (below_size (by repeat (first | (with_reducible first | exact HB.out | apply below_alloc | apply pw_below_drewN | apply below_drew1) | exact HB.out))) : w.heap.size ≤ gb195)); clear HB; have HB := n0_; have BK195 := n1_; have GW195 := n2_; have GE195 := n3_; clear n0_ n1_ n2_ n3_; clear hb hbox hg; have hcz30_0 : w29.cell? ⟨gb195, 0, none⟩ = some (.string a0_0) := (blk_cell BK195.out 0).trans rfl; have hcz30_1 : w29.cell? ⟨gb195, 1, none⟩ = some (.int .i64 a0_1) := (blk_cell BK195.out 1).trans rfl; have hcz30_2 : w29.cell? ⟨gb195, 2, none⟩ = some (.int .i64 a0_2) := (blk_cell BK195.out 2).trans rfl; have hcz30_3 : w29.cell? ⟨gb195, 3, none⟩ = some (.int .i64 a0_3) := (blk_cell BK195.out 3).trans rfl; have hcz30_4 : w29.cell? ⟨gb195, 4, none⟩ = some (.int .i64 a0_4) := (blk_cell BK195.out 4).trans rfl; have hcz30_5 : w29.cell? ⟨gb195, 5, none⟩ = some (.int .i64 a0_5) := (blk_cell BK195.out 5).trans rfl; have hcz30_6 : w29.cell? ⟨gb195, 6, none⟩ = some (.string a0_6) := (blk_cell BK195.out 6).trans rfl; have hcz30_7 : w29.cell? ⟨gb195, 7, none⟩ = some (.slice A0_7 l0_7.length c0_7) := (blk_cell BK195.out 7).trans rfl; have hfz30_0 := blk_frozen BK195.out 0; have hfz30_1 := blk_frozen BK195.out 1; have hfz30_2 := blk_frozen BK195.out 2; have hfz30_3 := blk_frozen BK195.out 3; have hfz30_4 := blk_frozen BK195.out 4; have hfz30_5 := blk_frozen BK195.out 5; have hfz30_6 := blk_frozen BK195.out 6; have hfz30_7 := blk_frozen BK195.out 7) | ((with_reducible refine gate_callee (f := 24) rfl ?_); refine goesL_ (some 9) rfl rfl Tryz.func24 (by kernel_rfl) rfl #[.agg #[.string a0_0, .int .i64 a0_1, .int .i64 a0_2, .int .i64 a0_3, .int .i64 a0_4, .int .i64 a0_5, .string a0_6, .slice A0_7 l0_7.length c0_7]] rfl (by (try simp only [List.map_toArray, List.map_cons, List.map_nil]); first | done | rfl | (simp only [List.length_drop, List.length_take]; rfl)) ?_; (with_reducible refine (memb_May.calls a0_0 a0_1 a0_2 a0_3 a0_4 a0_5 a0_6 _ _ l0_7 t196 _ ?side1 ?side2 A2.out).mono ?_); (case side1 => repeat (first | exact (Kd.C_below HR0_7.out HB.out) | (with_reducible refine Kd.C_alloc ?_ _) | (with_reducible refine Kd.C_drewN ?_ _) | (with_reducible refine Kd.C_drew ?_))); (case side2 => exact HC0_7.out); rintro e w31 ⟨rfl, hb⟩; refine ⟨_, rfl, ?_⟩; have n0_ := Aside0.mk (blk_below (g := gb195) (o := .cells #[.string a0_0, .int .i64 a0_1, .int .i64 a0_2, .int .i64 a0_3, .int .i64 a0_4, .int .i64 a0_5, .string a0_6, .slice A0_7 l0_7.length c0_7] 38 (0, 0)) (by (with_reducible repeat (first | refine blk_drewN ?_ _ | refine blk_drew ?_ | refine blk_alloc ?_ _)); exact BK195.out) hb); have n1_ := Aside0.mk (below_step (by repeat (first | (with_reducible first | exact HB.out | apply below_alloc | apply pw_below_drewN | apply below_drew1 | refine below_set ?_ GE195.out) | exact HB.out)) hb); clear BK195; clear HB; have BK195 := n0_; have HB := n1_; clear n0_ n1_; (try clear hb); (try clear hb2); (try clear hk); (try clear hi); have hcz32_0 : w31.cell? ⟨gb195, 0, none⟩ = some (.string a0_0) := (blk_cell BK195.out 0).trans rfl; have hcz32_1 : w31.cell? ⟨gb195, 1, none⟩ = some (.int .i64 a0_1) := (blk_cell BK195.out 1).trans rfl; have hcz32_2 : w31.cell? ⟨gb195, 2, none⟩ = some (.int .i64 a0_2) := (blk_cell BK195.out 2).trans rfl; have hcz32_3 : w31.cell? ⟨gb195, 3, none⟩ = some (.int .i64 a0_3) := (blk_cell BK195.out 3).trans rfl; have hcz32_4 : w31.cell? ⟨gb195, 4, none⟩ = some (.int .i64 a0_4) := (blk_cell BK195.out 4).trans rfl; have hcz32_5 : w31.cell? ⟨gb195, 5, none⟩ = some (.int .i64 a0_5) := (blk_cell BK195.out 5).trans rfl; have hcz32_6 : w31.cell? ⟨gb195, 6, none⟩ = some (.string a0_6) := (blk_cell BK195.out 6).trans rfl; have hcz32_7 : w31.cell? ⟨gb195, 7, none⟩ = some (.slice A0_7 l0_7.length c0_7) := (blk_cell BK195.out 7).trans rfl; have hfz32_0 := blk_frozen BK195.out 0; have hfz32_1 := blk_frozen BK195.out 1; have hfz32_2 := blk_frozen BK195.out 2; have hfz32_3 := blk_frozen BK195.out 3; have hfz32_4 := blk_frozen BK195.out 4; have hfz32_5 := blk_frozen BK195.out 5; have hfz32_6 := blk_frozen BK195.out 6; have hfz32_7 := blk_frozen BK195.out 7) | ((with_reducible refine gate_callee (f := 17) rfl ?_); refine goesL_ (some 15) rfl rfl Tryz.func17 (by kernel_rfl) rfl #[.agg #[.string a0_0, .int .i64 a0_1, .int .i64 a0_2, .int .i64 a0_3, .int .i64 a0_4, .int .i64 a0_5, .string a0_6, .slice A0_7 l0_7.length c0_7]] rfl (by (try simp only [List.map_toArray, List.map_cons, List.map_nil]); first | done | rfl | (simp only [List.length_drop, List.length_take]; rfl)) ?_; (with_reducible refine (memb_Recs.calls a0_0 a0_1 a0_2 a0_3 a0_4 a0_5 a0_6 _ _ l0_7 t197 _ ?side1 ?side2 A4.out).mono ?_); (case side1 => repeat (first | exact (Kd.C_below HR0_7.out HB.out) | (with_reducible refine Kd.C_alloc ?_ _) | (with_reducible refine Kd.C_drewN ?_ _) | (with_reducible refine Kd.C_drew ?_))); (case side2 => exact HC0_7.out); rintro e w33 ⟨v198, rfl, ho0, hb⟩; refine ⟨_, rfl, ?_⟩; have n0_ := Aside0.mk (Kd.R_lower ho0 (below_size (by repeat (first | (with_reducible first | exact HB.out | apply below_alloc | apply pw_below_drewN | apply below_drew1 | refine below_set ?_ GE195.out) | exact HB.out)))); have n1_ := Aside0.mk (blk_below (g := gb195) (o := .cells #[.string a0_0, .int .i64 a0_1, .int .i64 a0_2, .int .i64 a0_3, .int .i64 a0_4, .int .i64 a0_5, .string a0_6, .slice A0_7 l0_7.length c0_7] 38 (0, 0)) (by (with_reducible repeat (first | refine blk_drewN ?_ _ | refine blk_drew ?_ | refine blk_alloc ?_ _)); exact BK195.out) hb); have n2_ := Aside0.mk (below_step (by repeat (first | (with_reducible first | exact HB.out | apply below_alloc | apply pw_below_drewN | apply below_drew1 | refine below_set ?_ GE195.out) | exact HB.out)) hb); clear BK195; clear HB; have HO199 := n0_; have BK195 := n1_; have HB := n2_; clear n0_ n1_ n2_; (try clear hb); (try clear hb2); (try clear hk); (try clear hi); (try clear ho0); obtain ⟨Ao34, co34, eo34⟩ := Kd.R_slice HO199.out; subst eo34) | ((with_reducible refine gate_callee (f := 29) rfl ?_); refine goesL_ (some 16) rfl rfl Tryz.func29 (by kernel_rfl) rfl #[.slice Ao34 t197.length co34] rfl (by (try simp only [List.map_toArray, List.map_cons, List.map_nil]); first | done | rfl | (simp only [List.length_drop, List.length_take]; rfl)) ?_; (with_reducible refine (memb_ahead.calls k _ _ t197 t200 t201 _ ⟨HTB.out.below (by repeat (first | (with_reducible first | exact HB.out | apply below_alloc | apply pw_below_drewN | apply below_drew1 | refine below_set ?_ GE195.out) | exact HB.out))⟩ ?side1 ?side2 A5.out).mono ?_); (case side1 => repeat (first | exact (Kd.R_reads' HO199.out).2.2 | (with_reducible refine Kd.C_alloc ?_ _) | (with_reducible refine Kd.C_drewN ?_ _) | (with_reducible refine Kd.C_drew ?_))); (case side2 => exact (Kd.R_reads' HO199.out).2.1); rintro e w35 ⟨v202, rfl, ho0, hb⟩; refine ⟨_, rfl, ?_⟩; have n0_ := Aside0.mk (Kd.R_below (by (with_reducible repeat (first | apply Kd.R_alloc | apply Kd.R_drewN | apply Kd.R_drew)); exact HO199.out) hb); have n1_ := Aside0.mk (Kd.R_lower ho0 (below_size (by repeat (first | (with_reducible first | exact HB.out | apply below_alloc | apply pw_below_drewN | apply below_drew1 | refine below_set ?_ GE195.out) | exact HB.out)))); have n2_ := Aside0.mk (blk_below (g := gb195) (o := .cells #[.string a0_0, .int .i64 a0_1, .int .i64 a0_2, .int .i64 a0_3, .int .i64 a0_4, .int .i64 a0_5, .string a0_6, .slice A0_7 l0_7.length c0_7] 38 (0, 0)) (by (with_reducible repeat (first | refine blk_drewN ?_ _ | refine blk_drew ?_ | refine blk_alloc ?_ _)); exact BK195.out) hb); have n3_ := Aside0.mk (below_step (by repeat (first | (with_reducible first | exact HB.out | apply below_alloc | apply pw_below_drewN | apply below_drew1 | refine below_set ?_ GE195.out) | exact HB.out)) hb); clear HO199; clear BK195; clear HB; have HO199 := n0_; have HO203 := n1_; have BK195 := n2_; have HB := n3_; clear n0_ n1_ n2_ n3_; (try clear hb); (try clear hb2); (try clear hk); (try clear hi); (try clear ho0); have hcz36_0 : w35.cell? ⟨gb195, 0, none⟩ = some (.string a0_0) := (blk_cell BK195.out 0).trans rfl; have hcz36_1 : w35.cell? ⟨gb195, 1, none⟩ = some (.int .i64 a0_1) := (blk_cell BK195.out 1).trans rfl; have hcz36_2 : w35.cell? ⟨gb195, 2, none⟩ = some (.int .i64 a0_2) := (blk_cell BK195.out 2).trans rfl; have hcz36_3 : w35.cell? ⟨gb195, 3, none⟩ = some (.int .i64 a0_3) := (blk_cell BK195.out 3).trans rfl; have hcz36_4 : w35.cell? ⟨gb195, 4, none⟩ = some (.int .i64 a0_4) := (blk_cell BK195.out 4).trans rfl; have hcz36_5 : w35.cell? ⟨gb195, 5, none⟩ = some (.int .i64 a0_5) := (blk_cell BK195.out 5).trans rfl; have hcz36_6 : w35.cell? ⟨gb195, 6, none⟩ = some (.string a0_6) := (blk_cell BK195.out 6).trans rfl; have hcz36_7 : w35.cell? ⟨gb195, 7, none⟩ = some (.slice A0_7 l0_7.length c0_7) := (blk_cell BK195.out 7).trans rfl; have hfz36_0 := blk_frozen BK195.out 0; have hfz36_1 := blk_frozen BK195.out 1; have hfz36_2 := blk_frozen BK195.out 2; have hfz36_3 := blk_frozen BK195.out 3; have hfz36_4 := blk_frozen BK195.out 4; have hfz36_5 := blk_frozen BK195.out 5; have hfz36_6 := blk_frozen BK195.out 6; have hfz36_7 := blk_frozen BK195.out 7) | ((with_reducible refine gate_callee (f := 31) rfl ?_); refine goesL_ (some 24) rfl rfl Tryz.func31 (by kernel_rfl) rfl #[.agg #[.string a0_0, .int .i64 a0_1, .int .i64 a0_2, .int .i64 a0_3, .int .i64 a0_4, .int .i64 a0_5, .string a0_6, .slice A0_7 l0_7.length c0_7]] rfl (by (try simp only [List.map_toArray, List.map_cons, List.map_nil]); first | done | rfl | (simp only [List.length_drop, List.length_take]; rfl)) ?_; (with_reducible refine (memb_header.calls a0_0 a0_1 a0_2 a0_3 a0_4 a0_5 a0_6 _ _ l0_7 t204 t205 t206 t207 t208 t209 t210 t211 t212 _ ?side1 ?side2 A7.out).mono ?_); (case side1 => repeat (first | exact (Kd.C_below HR0_7.out HB.out) | (with_reducible refine Kd.C_alloc ?_ _) | (with_reducible refine Kd.C_drewN ?_ _) | (with_reducible refine Kd.C_drew ?_))); (case side2 => exact HC0_7.out); rintro e w37 ⟨rfl, hb⟩; refine ⟨_, rfl, ?_⟩; have n0_ := Aside0.mk (Kd.R_below (by (with_reducible repeat (first | apply Kd.R_alloc | apply Kd.R_drewN | apply Kd.R_drew)); exact HO199.out) hb); have n1_ := Aside0.mk (Kd.R_below (by (with_reducible repeat (first | apply Kd.R_alloc | apply Kd.R_drewN | apply Kd.R_drew)); exact HO203.out) hb); have n2_ := Aside0.mk (blk_below (g := gb195) (o := .cells #[.string a0_0, .int .i64 a0_1, .int .i64 a0_2, .int .i64 a0_3, .int .i64 a0_4, .int .i64 a0_5, .string a0_6, .slice A0_7 l0_7.length c0_7] 38 (0, 0)) (by (with_reducible repeat (first | refine blk_drewN ?_ _ | refine blk_drew ?_ | refine blk_alloc ?_ _)); exact BK195.out) hb); have n3_ := Aside0.mk (below_step (by repeat (first | (with_reducible first | exact HB.out | apply below_alloc | apply pw_below_drewN | apply below_drew1 | refine below_set ?_ GE195.out) | exact HB.out)) hb); clear HO199; clear HO203; clear BK195; clear HB; have HO199 := n0_; have HO203 := n1_; have BK195 := n2_; have HB := n3_; clear n0_ n1_ n2_ n3_; (try clear hb); (try clear hb2); (try clear hk); (try clear hi)) | ((with_reducible refine gate_callee (f := 30) rfl ?_); refine goesL_ (some 25) rfl rfl Tryz.func30 (by kernel_rfl) rfl #[.agg #[.string t204, .string t205, .int .i64 t206, .int .i64 t207, .int .i64 t208, .int .i64 t209, .int .i64 t210, .int .u8 t211, .string t212]] rfl (by (try simp only [List.map_toArray, List.map_cons, List.map_nil]); first | done | rfl | (simp only [List.length_drop, List.length_take]; rfl)) ?_; (with_reducible refine (head_Lay.calls k t204 t205 t206 t207 t208 t209 t210 t211 t212 t213 t216 _ A8.out).mono ?_); rintro e w38 ⟨v214, rfl, ho0, hb⟩; refine ⟨_, rfl, ?_⟩; have n0_ := Aside0.mk (Kd.R_below (by (with_reducible repeat (first | apply Kd.R_alloc | apply Kd.R_drewN | apply Kd.R_drew)); exact HO199.out) hb); have n1_ := Aside0.mk (Kd.R_elder' (by (with_reducible repeat (first | apply Kd.R_alloc | apply Kd.R_drewN | apply Kd.R_drew)); exact HO203.out) (Kd.R_base ho0) hb); have n2_ := Aside0.mk (Kd.R_lower (Kd.R_new' ho0 (Kd.R_lt (by (with_reducible repeat (first | apply Kd.R_alloc | apply Kd.R_drewN | apply Kd.R_drew)); exact HO203.out))) (below_size (by repeat (first | (with_reducible first | exact HB.out | apply below_alloc | apply pw_below_drewN | apply below_drew1 | refine below_set ?_ GE195.out) | exact HB.out)))); have n3_ := Aside0.mk (blk_below (g := gb195) (o := .cells #[.string a0_0, .int .i64 a0_1, .int .i64 a0_2, .int .i64 a0_3, .int .i64 a0_4, .int .i64 a0_5, .string a0_6, .slice A0_7 l0_7.length c0_7] 38 (0, 0)) (by (with_reducible repeat (first | refine blk_drewN ?_ _ | refine blk_drew ?_ | refine blk_alloc ?_ _)); exact BK195.out) hb); have n4_ := Aside0.mk (below_step (by repeat (first | (with_reducible first | exact HB.out | apply below_alloc | apply pw_below_drewN | apply below_drew1 | refine below_set ?_ GE195.out) | exact HB.out)) hb); clear HO199; clear HO203; clear BK195; clear HB; have HO199 := n0_; have HO203 := n1_; have HO215 := n2_; have BK195 := n3_; have HB := n4_; clear n0_ n1_ n2_ n3_ n4_; (try clear hb); (try clear hb2); (try clear hk); (try clear hi); (try clear ho0)))
        go_ret2
        exact ⟨_, by first | rfl | (simp [errW_none, errW_some] <;> rfl) | (simp [*, errW_none, errW_some] <;> rfl), by first | exact Kd.R_nil _ _ _ _ _ | exact Kd.N_nil _ _ _ _ _ | exact Kd.V_nil _ _ _ _ _ | exact Kd.Q_nil _ _ _ _ _ | exact Kd.S_nil _ _ _ _ _, by repeat (first | (with_reducible first | exact HB.out | apply below_alloc | apply pw_below_drewN | apply below_drew1 | refine below_set ?_ GE195.out) | exact HB.out)⟩
    · rw [if_neg c6] at H
      have c6b0 : (t201 == 0) = false := beq_eq_false_iff_ne.mpr c6
      have c6b1 : (t201 != 0) = true := bne_iff_ne.mpr c6
      simp only [Option.some.injEq, Prod.mk.injEq] at H
      obtain ⟨rfl, rfl⟩ := H
      go_enter Tryz.func16, Tryz.ntmps16
      go_wp2_with (first | ((with_reducible refine gate_dst (N := 1) rfl ?_); refine box_event ?hg (N := 1) ?hd (cs := #[.string a0_0, .int .i64 a0_1, .int .i64 a0_2, .int .i64 a0_3, .int .i64 a0_4, .int .i64 a0_5, .string a0_6, .slice A0_7 l0_7.length c0_7]) (t := 38) ?hr ?_; (case hd => rfl); (case hg => rfl); (case hr => first | (go_simp; done) | (go_simp; rfl)); intro gb195 hg w39 hbox hb; have n0_ := Aside0.mk (below_step (by repeat (first | (with_reducible first | exact HB.out | apply below_alloc | apply pw_below_drewN | apply below_drew1) | exact HB.out)) hb); have n1_ := Aside0.mk (hbox); have n2_ := Aside0.mk ((by rw [hg]; exact (below_size (by repeat (first | (with_reducible first | exact HB.out | apply below_alloc | apply pw_below_drewN | apply below_drew1) | exact HB.out))) : w.heap.size ≤ gb195)); have n3_ := Aside0.mk ((by rw [hg]; exact (below_size (by repeat (first | (with_reducible first | exact HB.out | apply below_alloc | apply pw_below_drewN | apply below_drew1) | exact HB.out))) : w.heap.size ≤ gb195)); clear HB; have HB := n0_; have BK195 := n1_; have GW195 := n2_; have GE195 := n3_; clear n0_ n1_ n2_ n3_; clear hb hbox hg; have hcz40_0 : w39.cell? ⟨gb195, 0, none⟩ = some (.string a0_0) := (blk_cell BK195.out 0).trans rfl; have hcz40_1 : w39.cell? ⟨gb195, 1, none⟩ = some (.int .i64 a0_1) := (blk_cell BK195.out 1).trans rfl; have hcz40_2 : w39.cell? ⟨gb195, 2, none⟩ = some (.int .i64 a0_2) := (blk_cell BK195.out 2).trans rfl; have hcz40_3 : w39.cell? ⟨gb195, 3, none⟩ = some (.int .i64 a0_3) := (blk_cell BK195.out 3).trans rfl; have hcz40_4 : w39.cell? ⟨gb195, 4, none⟩ = some (.int .i64 a0_4) := (blk_cell BK195.out 4).trans rfl; have hcz40_5 : w39.cell? ⟨gb195, 5, none⟩ = some (.int .i64 a0_5) := (blk_cell BK195.out 5).trans rfl; have hcz40_6 : w39.cell? ⟨gb195, 6, none⟩ = some (.string a0_6) := (blk_cell BK195.out 6).trans rfl; have hcz40_7 : w39.cell? ⟨gb195, 7, none⟩ = some (.slice A0_7 l0_7.length c0_7) := (blk_cell BK195.out 7).trans rfl; have hfz40_0 := blk_frozen BK195.out 0; have hfz40_1 := blk_frozen BK195.out 1; have hfz40_2 := blk_frozen BK195.out 2; have hfz40_3 := blk_frozen BK195.out 3; have hfz40_4 := blk_frozen BK195.out 4; have hfz40_5 := blk_frozen BK195.out 5; have hfz40_6 := blk_frozen BK195.out 6; have hfz40_7 := blk_frozen BK195.out 7) | ((with_reducible refine gate_callee (f := 24) rfl ?_); refine goesL_ (some 9) rfl rfl Tryz.func24 (by kernel_rfl) rfl #[.agg #[.string a0_0, .int .i64 a0_1, .int .i64 a0_2, .int .i64 a0_3, .int .i64 a0_4, .int .i64 a0_5, .string a0_6, .slice A0_7 l0_7.length c0_7]] rfl (by (try simp only [List.map_toArray, List.map_cons, List.map_nil]); first | done | rfl | (simp only [List.length_drop, List.length_take]; rfl)) ?_; (with_reducible refine (memb_May.calls a0_0 a0_1 a0_2 a0_3 a0_4 a0_5 a0_6 _ _ l0_7 t196 _ ?side1 ?side2 A2.out).mono ?_); (case side1 => repeat (first | exact (Kd.C_below HR0_7.out HB.out) | (with_reducible refine Kd.C_alloc ?_ _) | (with_reducible refine Kd.C_drewN ?_ _) | (with_reducible refine Kd.C_drew ?_))); (case side2 => exact HC0_7.out); rintro e w41 ⟨rfl, hb⟩; refine ⟨_, rfl, ?_⟩; have n0_ := Aside0.mk (blk_below (g := gb195) (o := .cells #[.string a0_0, .int .i64 a0_1, .int .i64 a0_2, .int .i64 a0_3, .int .i64 a0_4, .int .i64 a0_5, .string a0_6, .slice A0_7 l0_7.length c0_7] 38 (0, 0)) (by (with_reducible repeat (first | refine blk_drewN ?_ _ | refine blk_drew ?_ | refine blk_alloc ?_ _)); exact BK195.out) hb); have n1_ := Aside0.mk (below_step (by repeat (first | (with_reducible first | exact HB.out | apply below_alloc | apply pw_below_drewN | apply below_drew1 | refine below_set ?_ GE195.out) | exact HB.out)) hb); clear BK195; clear HB; have BK195 := n0_; have HB := n1_; clear n0_ n1_; (try clear hb); (try clear hb2); (try clear hk); (try clear hi); have hcz42_0 : w41.cell? ⟨gb195, 0, none⟩ = some (.string a0_0) := (blk_cell BK195.out 0).trans rfl; have hcz42_1 : w41.cell? ⟨gb195, 1, none⟩ = some (.int .i64 a0_1) := (blk_cell BK195.out 1).trans rfl; have hcz42_2 : w41.cell? ⟨gb195, 2, none⟩ = some (.int .i64 a0_2) := (blk_cell BK195.out 2).trans rfl; have hcz42_3 : w41.cell? ⟨gb195, 3, none⟩ = some (.int .i64 a0_3) := (blk_cell BK195.out 3).trans rfl; have hcz42_4 : w41.cell? ⟨gb195, 4, none⟩ = some (.int .i64 a0_4) := (blk_cell BK195.out 4).trans rfl; have hcz42_5 : w41.cell? ⟨gb195, 5, none⟩ = some (.int .i64 a0_5) := (blk_cell BK195.out 5).trans rfl; have hcz42_6 : w41.cell? ⟨gb195, 6, none⟩ = some (.string a0_6) := (blk_cell BK195.out 6).trans rfl; have hcz42_7 : w41.cell? ⟨gb195, 7, none⟩ = some (.slice A0_7 l0_7.length c0_7) := (blk_cell BK195.out 7).trans rfl; have hfz42_0 := blk_frozen BK195.out 0; have hfz42_1 := blk_frozen BK195.out 1; have hfz42_2 := blk_frozen BK195.out 2; have hfz42_3 := blk_frozen BK195.out 3; have hfz42_4 := blk_frozen BK195.out 4; have hfz42_5 := blk_frozen BK195.out 5; have hfz42_6 := blk_frozen BK195.out 6; have hfz42_7 := blk_frozen BK195.out 7) | ((with_reducible refine gate_callee (f := 17) rfl ?_); refine goesL_ (some 15) rfl rfl Tryz.func17 (by kernel_rfl) rfl #[.agg #[.string a0_0, .int .i64 a0_1, .int .i64 a0_2, .int .i64 a0_3, .int .i64 a0_4, .int .i64 a0_5, .string a0_6, .slice A0_7 l0_7.length c0_7]] rfl (by (try simp only [List.map_toArray, List.map_cons, List.map_nil]); first | done | rfl | (simp only [List.length_drop, List.length_take]; rfl)) ?_; (with_reducible refine (memb_Recs.calls a0_0 a0_1 a0_2 a0_3 a0_4 a0_5 a0_6 _ _ l0_7 t197 _ ?side1 ?side2 A4.out).mono ?_); (case side1 => repeat (first | exact (Kd.C_below HR0_7.out HB.out) | (with_reducible refine Kd.C_alloc ?_ _) | (with_reducible refine Kd.C_drewN ?_ _) | (with_reducible refine Kd.C_drew ?_))); (case side2 => exact HC0_7.out); rintro e w43 ⟨v198, rfl, ho0, hb⟩; refine ⟨_, rfl, ?_⟩; have n0_ := Aside0.mk (Kd.R_lower ho0 (below_size (by repeat (first | (with_reducible first | exact HB.out | apply below_alloc | apply pw_below_drewN | apply below_drew1 | refine below_set ?_ GE195.out) | exact HB.out)))); have n1_ := Aside0.mk (blk_below (g := gb195) (o := .cells #[.string a0_0, .int .i64 a0_1, .int .i64 a0_2, .int .i64 a0_3, .int .i64 a0_4, .int .i64 a0_5, .string a0_6, .slice A0_7 l0_7.length c0_7] 38 (0, 0)) (by (with_reducible repeat (first | refine blk_drewN ?_ _ | refine blk_drew ?_ | refine blk_alloc ?_ _)); exact BK195.out) hb); have n2_ := Aside0.mk (below_step (by repeat (first | (with_reducible first | exact HB.out | apply below_alloc | apply pw_below_drewN | apply below_drew1 | refine below_set ?_ GE195.out) | exact HB.out)) hb); clear BK195; clear HB; have HO199 := n0_; have BK195 := n1_; have HB := n2_; clear n0_ n1_ n2_; (try clear hb); (try clear hb2); (try clear hk); (try clear hi); (try clear ho0); obtain ⟨Ao44, co44, eo44⟩ := Kd.R_slice HO199.out; subst eo44) | ((with_reducible refine gate_callee (f := 29) rfl ?_); refine goesL_ (some 16) rfl rfl Tryz.func29 (by kernel_rfl) rfl #[.slice Ao44 t197.length co44] rfl (by (try simp only [List.map_toArray, List.map_cons, List.map_nil]); first | done | rfl | (simp only [List.length_drop, List.length_take]; rfl)) ?_; (with_reducible refine (memb_ahead.calls k _ _ t197 t200 t201 _ ⟨HTB.out.below (by repeat (first | (with_reducible first | exact HB.out | apply below_alloc | apply pw_below_drewN | apply below_drew1 | refine below_set ?_ GE195.out) | exact HB.out))⟩ ?side1 ?side2 A5.out).mono ?_); (case side1 => repeat (first | exact (Kd.R_reads' HO199.out).2.2 | (with_reducible refine Kd.C_alloc ?_ _) | (with_reducible refine Kd.C_drewN ?_ _) | (with_reducible refine Kd.C_drew ?_))); (case side2 => exact (Kd.R_reads' HO199.out).2.1); rintro e w45 ⟨v202, rfl, ho0, hb⟩; refine ⟨_, rfl, ?_⟩; have n0_ := Aside0.mk (Kd.R_below (by (with_reducible repeat (first | apply Kd.R_alloc | apply Kd.R_drewN | apply Kd.R_drew)); exact HO199.out) hb); have n1_ := Aside0.mk (Kd.R_lower ho0 (below_size (by repeat (first | (with_reducible first | exact HB.out | apply below_alloc | apply pw_below_drewN | apply below_drew1 | refine below_set ?_ GE195.out) | exact HB.out)))); have n2_ := Aside0.mk (blk_below (g := gb195) (o := .cells #[.string a0_0, .int .i64 a0_1, .int .i64 a0_2, .int .i64 a0_3, .int .i64 a0_4, .int .i64 a0_5, .string a0_6, .slice A0_7 l0_7.length c0_7] 38 (0, 0)) (by (with_reducible repeat (first | refine blk_drewN ?_ _ | refine blk_drew ?_ | refine blk_alloc ?_ _)); exact BK195.out) hb); have n3_ := Aside0.mk (below_step (by repeat (first | (with_reducible first | exact HB.out | apply below_alloc | apply pw_below_drewN | apply below_drew1 | refine below_set ?_ GE195.out) | exact HB.out)) hb); clear HO199; clear BK195; clear HB; have HO199 := n0_; have HO203 := n1_; have BK195 := n2_; have HB := n3_; clear n0_ n1_ n2_ n3_; (try clear hb); (try clear hb2); (try clear hk); (try clear hi); (try clear ho0)))
      go_ret2
      exact ⟨_, by first | rfl | (simp [errW_none, errW_some] <;> rfl) | (simp [*, errW_none, errW_some] <;> rfl), by first | exact Kd.R_nil _ _ _ _ _ | exact Kd.N_nil _ _ _ _ _ | exact Kd.V_nil _ _ _ _ _ | exact Kd.Q_nil _ _ _ _ _ | exact Kd.S_nil _ _ _ _ _, by repeat (first | (with_reducible first | exact HB.out | apply below_alloc | apply pw_below_drewN | apply below_drew1 | refine below_set ?_ GE195.out) | exact HB.out)⟩
  · rw [if_neg c3] at H
    have c3b0 : (t196 == 0) = false := beq_eq_false_iff_ne.mpr c3
    have c3b1 : (t196 != 0) = true := bne_iff_ne.mpr c3
    simp only [Option.some.injEq, Prod.mk.injEq] at H
    obtain ⟨rfl, rfl⟩ := H
    go_enter Tryz.func16, Tryz.ntmps16
    go_wp2_with (first | ((with_reducible refine gate_dst (N := 1) rfl ?_); refine box_event ?hg (N := 1) ?hd (cs := #[.string a0_0, .int .i64 a0_1, .int .i64 a0_2, .int .i64 a0_3, .int .i64 a0_4, .int .i64 a0_5, .string a0_6, .slice A0_7 l0_7.length c0_7]) (t := 38) ?hr ?_; (case hd => rfl); (case hg => rfl); (case hr => first | (go_simp; done) | (go_simp; rfl)); intro gb195 hg w46 hbox hb; have n0_ := Aside0.mk (below_step (by repeat (first | (with_reducible first | exact HB.out | apply below_alloc | apply pw_below_drewN | apply below_drew1) | exact HB.out)) hb); have n1_ := Aside0.mk (hbox); have n2_ := Aside0.mk ((by rw [hg]; exact (below_size (by repeat (first | (with_reducible first | exact HB.out | apply below_alloc | apply pw_below_drewN | apply below_drew1) | exact HB.out))) : w.heap.size ≤ gb195)); have n3_ := Aside0.mk ((by rw [hg]; exact (below_size (by repeat (first | (with_reducible first | exact HB.out | apply below_alloc | apply pw_below_drewN | apply below_drew1) | exact HB.out))) : w.heap.size ≤ gb195)); clear HB; have HB := n0_; have BK195 := n1_; have GW195 := n2_; have GE195 := n3_; clear n0_ n1_ n2_ n3_; clear hb hbox hg; have hcz47_0 : w46.cell? ⟨gb195, 0, none⟩ = some (.string a0_0) := (blk_cell BK195.out 0).trans rfl; have hcz47_1 : w46.cell? ⟨gb195, 1, none⟩ = some (.int .i64 a0_1) := (blk_cell BK195.out 1).trans rfl; have hcz47_2 : w46.cell? ⟨gb195, 2, none⟩ = some (.int .i64 a0_2) := (blk_cell BK195.out 2).trans rfl; have hcz47_3 : w46.cell? ⟨gb195, 3, none⟩ = some (.int .i64 a0_3) := (blk_cell BK195.out 3).trans rfl; have hcz47_4 : w46.cell? ⟨gb195, 4, none⟩ = some (.int .i64 a0_4) := (blk_cell BK195.out 4).trans rfl; have hcz47_5 : w46.cell? ⟨gb195, 5, none⟩ = some (.int .i64 a0_5) := (blk_cell BK195.out 5).trans rfl; have hcz47_6 : w46.cell? ⟨gb195, 6, none⟩ = some (.string a0_6) := (blk_cell BK195.out 6).trans rfl; have hcz47_7 : w46.cell? ⟨gb195, 7, none⟩ = some (.slice A0_7 l0_7.length c0_7) := (blk_cell BK195.out 7).trans rfl; have hfz47_0 := blk_frozen BK195.out 0; have hfz47_1 := blk_frozen BK195.out 1; have hfz47_2 := blk_frozen BK195.out 2; have hfz47_3 := blk_frozen BK195.out 3; have hfz47_4 := blk_frozen BK195.out 4; have hfz47_5 := blk_frozen BK195.out 5; have hfz47_6 := blk_frozen BK195.out 6; have hfz47_7 := blk_frozen BK195.out 7) | ((with_reducible refine gate_callee (f := 24) rfl ?_); refine goesL_ (some 9) rfl rfl Tryz.func24 (by kernel_rfl) rfl #[.agg #[.string a0_0, .int .i64 a0_1, .int .i64 a0_2, .int .i64 a0_3, .int .i64 a0_4, .int .i64 a0_5, .string a0_6, .slice A0_7 l0_7.length c0_7]] rfl (by (try simp only [List.map_toArray, List.map_cons, List.map_nil]); first | done | rfl | (simp only [List.length_drop, List.length_take]; rfl)) ?_; (with_reducible refine (memb_May.calls a0_0 a0_1 a0_2 a0_3 a0_4 a0_5 a0_6 _ _ l0_7 t196 _ ?side1 ?side2 A2.out).mono ?_); (case side1 => repeat (first | exact (Kd.C_below HR0_7.out HB.out) | (with_reducible refine Kd.C_alloc ?_ _) | (with_reducible refine Kd.C_drewN ?_ _) | (with_reducible refine Kd.C_drew ?_))); (case side2 => exact HC0_7.out); rintro e w48 ⟨rfl, hb⟩; refine ⟨_, rfl, ?_⟩; have n0_ := Aside0.mk (blk_below (g := gb195) (o := .cells #[.string a0_0, .int .i64 a0_1, .int .i64 a0_2, .int .i64 a0_3, .int .i64 a0_4, .int .i64 a0_5, .string a0_6, .slice A0_7 l0_7.length c0_7] 38 (0, 0)) (by (with_reducible repeat (first | refine blk_drewN ?_ _ | refine blk_drew ?_ | refine blk_alloc ?_ _)); exact BK195.out) hb); have n1_ := Aside0.mk (below_step (by repeat (first | (with_reducible first | exact HB.out | apply below_alloc | apply pw_below_drewN | apply below_drew1 | refine below_set ?_ GE195.out) | exact HB.out)) hb); clear BK195; clear HB; have BK195 := n0_; have HB := n1_; clear n0_ n1_; (try clear hb); (try clear hb2); (try clear hk); (try clear hi)))
    go_ret2
    exact ⟨_, by first | rfl | (simp [errW_none, errW_some] <;> rfl) | (simp [*, errW_none, errW_some] <;> rfl), by first | exact Kd.R_nil _ _ _ _ _ | exact Kd.N_nil _ _ _ _ _ | exact Kd.V_nil _ _ _ _ _ | exact Kd.Q_nil _ _ _ _ _ | exact Kd.S_nil _ _ _ _ _, by repeat (first | (with_reducible first | exact HB.out | apply below_alloc | apply pw_below_drewN | apply below_drew1 | refine below_set ?_ GE195.out) | exact HB.out)⟩

end Go.Proofs.YtjidenkhgeoaiaaGreatDoor.P

-- F20
-- Written by xprint.py (a program of this session's, over the kit's printer) out of the translation. Not trusted: Lean checks it.
namespace Go.Proofs.YtjidenkhgeoaiaaGreatDoor.P
open Go.RowKit Go.Proofs.YtjidenkhgeoaiaaGreatDoorW.PrintWords Go.Proofs.YtjidenkhgeoaiaaGreatDoorW.PrintLast Go.Proofs.YtjidenkhgeoaiaaGreatDoorW.PrintMore Go.Proofs.YtjidenkhgeoaiaaGreatDoor.Hand
attribute [local go_sem] max2_int min2_int max_two min_two max_three min_three max_four min_four   -- for this text's walks alone
set_option linter.unusedVariables false
set_option linter.unusedSimpArgs false

/-! ### memb_Len: function 20 -/
def memb_Len.f (k : Nat) (a0_0 : ByteArray) (a0_1 : Int) (a0_2 : Int) (a0_3 : Int) (a0_4 : Int) (a0_5 : Int) (a0_6 : ByteArray) (l0_7 : List Int) : Option (Int) := (memb_Lay.f k a0_0 a0_1 a0_2 a0_3 a0_4 a0_5 a0_6 l0_7).bind fun bt227 => (some (bt227.1.length : Int))
theorem memb_Len.mono : ∀ a0 a1 a2 a3 a4 a5 a6 a7 k, LeO (memb_Len.f k a0 a1 a2 a3 a4 a5 a6 a7) (memb_Len.f (k + 1) a0 a1 a2 a3 a4 a5 a6 a7) := by
  intro a0 a1 a2 a3 a4 a5 a6 a7 k
  unfold memb_Len.f
  repeat' first
      | (with_reducible exact memb_Lay.mono _ _ _ _ _ _ _ _ _)
      | (with_reducible exact LeO.refl _)
      | (with_reducible exact LeO.none _)
      | (with_reducible refine LeO.ite ?_ ?_)
      | (with_reducible refine LeO.bind ?_ (fun _ => ?_))
      | exact memb_Lay.mono _ _ _ _ _ _ _ _ _
      | exact LeO.none _
      | refine LeO.ite ?_ ?_
      | refine LeO.bind ?_ (fun _ => ?_)
set_option maxHeartbeats 8000000 in
set_option maxRecDepth 100000 in
theorem memb_Len.calls (k : Nat) (a0_0 : ByteArray) (a0_1 : Int) (a0_2 : Int) (a0_3 : Int) (a0_4 : Int) (a0_5 : Int) (a0_6 : ByteArray) (A0_7 : Option Addr) (c0_7 : Nat) (l0_7 : List Int) (r : Int) (w : World) (HTB : Aside0 (TabOk w)) (hr0_7 : Kd.C (Kd.int .u8) w A0_7 l0_7.length l0_7) (hc0_7 : l0_7.length ≤ c0_7) (h : memb_Len.f k a0_0 a0_1 a0_2 a0_3 a0_4 a0_5 a0_6 l0_7 = some r) :
    Calls Tryz.prog 20 #[.agg #[.string a0_0, .int .i64 a0_1, .int .i64 a0_2, .int .i64 a0_3, .int .i64 a0_4, .int .i64 a0_5, .string a0_6, .slice A0_7 l0_7.length c0_7]] w fun e w' => e = .returned (.int .i64 r) ∧ Below w.heap.size w w' := by
  have hu38 := Tryz.underlying38
  have HR0_7 := Aside0.mk hr0_7
  have HC0_7 := Aside0.mk hc0_7
  clear hr0_7 hc0_7
  have HB := Aside0.mk (Below.refl w.heap.size w)
  have H : ((memb_Lay.f k a0_0 a0_1 a0_2 a0_3 a0_4 a0_5 a0_6 l0_7).bind fun bt227 => (some (bt227.1.length : Int))) = some r := h
  clear h
  replace H := Option.bind_eq_some_iff.mp H
  obtain ⟨⟨t227, t230⟩, A20, H⟩ := H
  replace H : (some (t227.length : Int)) = some r := H
  have A2 := Aside0.mk A20
  clear A20
  obtain rfl := Option.some.inj H
  go_enter Tryz.func20, Tryz.ntmps20
  go_wp2_with (first | ((with_reducible refine gate_dst (N := 1) rfl ?_); refine box_event ?hg (N := 1) ?hd (cs := #[.string a0_0, .int .i64 a0_1, .int .i64 a0_2, .int .i64 a0_3, .int .i64 a0_4, .int .i64 a0_5, .string a0_6, .slice A0_7 l0_7.length c0_7]) (t := 38) ?hr ?_; (case hd => rfl); (case hg => rfl); (case hr => first | (go_simp; done) | (go_simp; rfl)); intro gb226 hg w3 hbox hb; have n0_ := Aside0.mk (below_step (by repeat (first | (with_reducible first | exact HB.out | apply below_alloc | apply pw_below_drewN | apply below_drew1) | exact HB.out)) hb); have n1_ := Aside0.mk (hbox); have n2_ := Aside0.mk ((by rw [hg]; exact (below_size (by repeat (first | (with_reducible first | exact HB.out | apply below_alloc | apply pw_below_drewN | apply below_drew1) | exact HB.out))) : w.heap.size ≤ gb226)); have n3_ := Aside0.mk ((by rw [hg]; exact (below_size (by repeat (first | (with_reducible first | exact HB.out | apply below_alloc | apply pw_below_drewN | apply below_drew1) | exact HB.out))) : w.heap.size ≤ gb226)); clear HB; have HB := n0_; have BK226 := n1_; have GW226 := n2_; have GE226 := n3_; clear n0_ n1_ n2_ n3_; clear hb hbox hg; have hcz4_0 : w3.cell? ⟨gb226, 0, none⟩ = some (.string a0_0) := (blk_cell BK226.out 0).trans rfl; have hcz4_1 : w3.cell? ⟨gb226, 1, none⟩ = some (.int .i64 a0_1) := (blk_cell BK226.out 1).trans rfl; have hcz4_2 : w3.cell? ⟨gb226, 2, none⟩ = some (.int .i64 a0_2) := (blk_cell BK226.out 2).trans rfl; have hcz4_3 : w3.cell? ⟨gb226, 3, none⟩ = some (.int .i64 a0_3) := (blk_cell BK226.out 3).trans rfl; have hcz4_4 : w3.cell? ⟨gb226, 4, none⟩ = some (.int .i64 a0_4) := (blk_cell BK226.out 4).trans rfl; have hcz4_5 : w3.cell? ⟨gb226, 5, none⟩ = some (.int .i64 a0_5) := (blk_cell BK226.out 5).trans rfl; have hcz4_6 : w3.cell? ⟨gb226, 6, none⟩ = some (.string a0_6) := (blk_cell BK226.out 6).trans rfl; have hcz4_7 : w3.cell? ⟨gb226, 7, none⟩ = some (.slice A0_7 l0_7.length c0_7) := (blk_cell BK226.out 7).trans rfl; have hfz4_0 := blk_frozen BK226.out 0; have hfz4_1 := blk_frozen BK226.out 1; have hfz4_2 := blk_frozen BK226.out 2; have hfz4_3 := blk_frozen BK226.out 3; have hfz4_4 := blk_frozen BK226.out 4; have hfz4_5 := blk_frozen BK226.out 5; have hfz4_6 := blk_frozen BK226.out 6; have hfz4_7 := blk_frozen BK226.out 7) | ((with_reducible refine gate_callee (f := 16) rfl ?_); refine goesL_ (some 7) rfl rfl Tryz.func16 (by kernel_rfl) rfl #[.agg #[.string a0_0, .int .i64 a0_1, .int .i64 a0_2, .int .i64 a0_3, .int .i64 a0_4, .int .i64 a0_5, .string a0_6, .slice A0_7 l0_7.length c0_7]] rfl (by (try simp only [List.map_toArray, List.map_cons, List.map_nil]); first | done | rfl | (simp only [List.length_drop, List.length_take]; rfl)) ?_; (with_reducible refine (memb_Lay.calls k a0_0 a0_1 a0_2 a0_3 a0_4 a0_5 a0_6 _ _ l0_7 t227 t230 _ ⟨HTB.out.below (by repeat (first | (with_reducible first | exact HB.out | apply below_alloc | apply pw_below_drewN | apply below_drew1 | refine below_set ?_ GE226.out) | exact HB.out))⟩ ?side1 ?side2 A2.out).mono ?_); (case side1 => repeat (first | exact (Kd.C_below HR0_7.out HB.out) | (with_reducible refine Kd.C_alloc ?_ _) | (with_reducible refine Kd.C_drewN ?_ _) | (with_reducible refine Kd.C_drew ?_))); (case side2 => exact HC0_7.out); rintro e w5 ⟨v228, rfl, ho0, hb⟩; refine ⟨_, rfl, ?_⟩; have n0_ := Aside0.mk (Kd.R_lower ho0 (below_size (by repeat (first | (with_reducible first | exact HB.out | apply below_alloc | apply pw_below_drewN | apply below_drew1 | refine below_set ?_ GE226.out) | exact HB.out)))); have n1_ := Aside0.mk (blk_below (g := gb226) (o := .cells #[.string a0_0, .int .i64 a0_1, .int .i64 a0_2, .int .i64 a0_3, .int .i64 a0_4, .int .i64 a0_5, .string a0_6, .slice A0_7 l0_7.length c0_7] 38 (0, 0)) (by (with_reducible repeat (first | refine blk_drewN ?_ _ | refine blk_drew ?_ | refine blk_alloc ?_ _)); exact BK226.out) hb); have n2_ := Aside0.mk (below_step (by repeat (first | (with_reducible first | exact HB.out | apply below_alloc | apply pw_below_drewN | apply below_drew1 | refine below_set ?_ GE226.out) | exact HB.out)) hb); clear BK226; clear HB; have HO229 := n0_; have BK226 := n1_; have HB := n2_; clear n0_ n1_ n2_; (try clear hb); (try clear hb2); (try clear hk); (try clear hi); (try clear ho0); obtain ⟨Ao6, co6, eo6⟩ := Kd.R_slice HO229.out; subst eo6))
  go_ret
  exact ⟨by first | rfl | (simp [errW_none, errW_some] <;> rfl) | (simp [*, errW_none, errW_some] <;> rfl), by repeat (first | (with_reducible first | exact HB.out | apply below_alloc | apply pw_below_drewN | apply below_drew1 | refine below_set ?_ GE226.out) | exact HB.out)⟩

end Go.Proofs.YtjidenkhgeoaiaaGreatDoor.P

-- F56
-- Written by xprint.py (a program of this session's, over the kit's printer) out of the translation. Not trusted: Lean checks it.
namespace Go.Proofs.YtjidenkhgeoaiaaGreatDoor.P
open Go.RowKit Go.Proofs.YtjidenkhgeoaiaaGreatDoorW.PrintWords Go.Proofs.YtjidenkhgeoaiaaGreatDoorW.PrintLast Go.Proofs.YtjidenkhgeoaiaaGreatDoorW.PrintMore Go.Proofs.YtjidenkhgeoaiaaGreatDoor.Hand
attribute [local go_sem] max2_int min2_int max_two min_two max_three min_three max_four min_four   -- for this text's walks alone
set_option linter.unusedVariables false
set_option linter.unusedSimpArgs false

/-! ### hsum_Told: function 56 -/
def hsum_Told.f (l0 : List Int) : Option (Int × Int) := if (l0.length : Int) = 512 then (if 148 ≤ 156 then (if 156 ≤ (l0.length : Int) then ((numf_Get.f ((l0.take 156).drop 148)).bind fun bt487 => (if bt487.2 = 0 then (if bt487.1 < 0 then (some (0, 3)) else (if bt487.1 > 1048576 then (some (0, 3)) else (some (bt487.1, 0)))) else (some (0, bt487.2)))) else (none)) else (none)) else (some (0, 1))
set_option maxHeartbeats 8000000 in
set_option maxRecDepth 100000 in
theorem hsum_Told.calls (A0 : Option Addr) (c0 : Nat) (l0 : List Int) (r1 : Int) (r2 : Int) (w : World) (hr0 : Kd.C (Kd.int .u8) w A0 l0.length l0) (hc0 : l0.length ≤ c0) (h : hsum_Told.f l0 = some (r1, r2)) :
    Calls Tryz.prog 56 #[.slice A0 l0.length c0] w fun e w' => e = .returned (.tuple #[.int .i64 r1, .int .i64 r2]) ∧ Below w.heap.size w w' := by
  have HR0 := Aside0.mk hr0
  have HC0 := Aside0.mk hc0
  clear hr0 hc0
  have HB := Aside0.mk (Below.refl w.heap.size w)
  have H : (if (l0.length : Int) = 512 then (if 148 ≤ 156 then (if 156 ≤ (l0.length : Int) then ((numf_Get.f ((l0.take 156).drop 148)).bind fun bt487 => (if bt487.2 = 0 then (if bt487.1 < 0 then (some (0, 3)) else (if bt487.1 > 1048576 then (some (0, 3)) else (some (bt487.1, 0)))) else (some (0, bt487.2)))) else (none)) else (none)) else (some (0, 1))) = some (r1, r2) := h
  clear h
  by_cases c2 : (l0.length : Int) = 512
  · rw [if_pos c2] at H
    have c2b0 : ((l0.length : Int) == 512) = true := beq_iff_eq.mpr c2
    have c2b1 : ((l0.length : Int) != 512) = false := bne_eq_false_iff_eq.mpr c2
    clear c2
    by_cases c3 : 148 ≤ 156
    · rw [if_pos c3] at H
      have c3b0 := eq_true c3
      have c3b1 : decide (148 ≤ 156) = true := decide_eq_true c3
      clear c3
      by_cases c4 : 156 ≤ (l0.length : Int)
      · rw [if_pos c4] at H
        have c4b0 := eq_true c4
        have c4b1 : decide (156 ≤ (l0.length : Int)) = true := decide_eq_true c4
        clear c4
        replace H := Option.bind_eq_some_iff.mp H
        obtain ⟨⟨t487, t488⟩, A50, H⟩ := H
        replace H : (if t488 = 0 then (if t487 < 0 then (some (0, 3)) else (if t487 > 1048576 then (some (0, 3)) else (some (t487, 0)))) else (some (0, t488))) = some (r1, r2) := H
        have A5 := Aside0.mk A50
        clear A50
        by_cases c6 : t488 = 0
        · rw [if_pos c6] at H
          have c6b0 : (t488 == 0) = true := beq_iff_eq.mpr c6
          have c6b1 : (t488 != 0) = false := bne_eq_false_iff_eq.mpr c6
          clear c6
          by_cases c7 : t487 < 0
          · rw [if_pos c7] at H
            have c7b0 : decide (t487 < 0) = true := decide_eq_true c7
            clear c7
            simp only [Option.some.injEq, Prod.mk.injEq] at H
            obtain ⟨rfl, rfl⟩ := H
            obtain ⟨i08, hi08, _, hsz8, _⟩ := info_parts info5
            obtain ⟨A8, hcut8, hA8, hC8⟩ := print_mid_of (P := Tryz.prog) (Value.int .u8) 0 31 5 .i64 .i64 Tryz.underlying31 hi08 hsz8 A0 c0 l0 148 156 (by omega) (by first | omega | exact of_decide_eq_true (by first | (with_reducible assumption) | assumption)) (of_decide_eq_true (by first | (with_reducible assumption) | assumption)) HC0.out
            have HR486 := Aside0.mk (Kd.C_of_reads (h1 := fun _ => rfl) (hA8 _ (Kd.reads_of_C HR0.out)))
            have HC486 := Aside0.mk hC8
            clear hA8 hC8 hi08 hsz8
            go_enter Tryz.func56, Tryz.ntmps56
            go_wp2_with (first | ((with_reducible refine gate_callee (f := 59) rfl ?_); refine goesL_ (some 12) rfl rfl Tryz.func59 (by kernel_rfl) rfl #[.slice A8 ((l0.take 156).drop 148).length (c0 - 148)] rfl (by (try simp only [List.map_toArray, List.map_cons, List.map_nil]); first | done | (rw [show ((l0.take 156).drop 148).length = (156 - 148) from (by rw [List.length_drop, List.length_take]; have h_ : (156 : Int) ≤ (l0.length : Int) := of_decide_eq_true (by first | (with_reducible assumption) | assumption); omega)] <;> rfl) | rfl | (simp only [List.length_drop, List.length_take]; rfl)) ?_; (with_reducible refine (numf_Get.calls _ _ ((l0.take 156).drop 148) t487 t488 _ ?side1 ?side2 A5.out).mono ?_); (case side1 => repeat (first | exact HR486.out | (with_reducible refine Kd.C_alloc ?_ _) | (with_reducible refine Kd.C_drewN ?_ _) | (with_reducible refine Kd.C_drew ?_))); (case side2 => exact HC486.out); rintro e w9 ⟨rfl, hb⟩; refine ⟨_, rfl, ?_⟩; have n0_ := Aside0.mk (below_step (by repeat (first | (with_reducible first | exact HB.out | apply below_alloc | apply pw_below_drewN | apply below_drew1) | exact HB.out)) hb); clear HB; have HB := n0_; clear n0_; (try clear hb); (try clear hb2); (try clear hk); (try clear hi)))
            go_ret2
            exact ⟨by first | rfl | (simp [errW_none, errW_some] <;> rfl) | (simp [*, errW_none, errW_some] <;> rfl), by repeat (first | (with_reducible first | exact HB.out | apply below_alloc | apply pw_below_drewN | apply below_drew1) | exact HB.out)⟩
          · rw [if_neg c7] at H
            have c7b0 : decide (t487 < 0) = false := decide_eq_false c7
            clear c7
            by_cases c10 : t487 > 1048576
            · rw [if_pos c10] at H
              have c10b0 : decide (1048576 < t487) = true := decide_eq_true c10
              clear c10
              simp only [Option.some.injEq, Prod.mk.injEq] at H
              obtain ⟨rfl, rfl⟩ := H
              obtain ⟨i011, hi011, _, hsz11, _⟩ := info_parts info5
              obtain ⟨A11, hcut11, hA11, hC11⟩ := print_mid_of (P := Tryz.prog) (Value.int .u8) 0 31 5 .i64 .i64 Tryz.underlying31 hi011 hsz11 A0 c0 l0 148 156 (by omega) (by first | omega | exact of_decide_eq_true (by first | (with_reducible assumption) | assumption)) (of_decide_eq_true (by first | (with_reducible assumption) | assumption)) HC0.out
              have HR486 := Aside0.mk (Kd.C_of_reads (h1 := fun _ => rfl) (hA11 _ (Kd.reads_of_C HR0.out)))
              have HC486 := Aside0.mk hC11
              clear hA11 hC11 hi011 hsz11
              go_enter Tryz.func56, Tryz.ntmps56
              go_wp2_with (first | ((with_reducible refine gate_callee (f := 59) rfl ?_); refine goesL_ (some 12) rfl rfl Tryz.func59 (by kernel_rfl) rfl #[.slice A11 ((l0.take 156).drop 148).length (c0 - 148)] rfl (by (try simp only [List.map_toArray, List.map_cons, List.map_nil]); first | done | (rw [show ((l0.take 156).drop 148).length = (156 - 148) from (by rw [List.length_drop, List.length_take]; have h_ : (156 : Int) ≤ (l0.length : Int) := of_decide_eq_true (by first | (with_reducible assumption) | assumption); omega)] <;> rfl) | rfl | (simp only [List.length_drop, List.length_take]; rfl)) ?_; (with_reducible refine (numf_Get.calls _ _ ((l0.take 156).drop 148) t487 t488 _ ?side1 ?side2 A5.out).mono ?_); (case side1 => repeat (first | exact HR486.out | (with_reducible refine Kd.C_alloc ?_ _) | (with_reducible refine Kd.C_drewN ?_ _) | (with_reducible refine Kd.C_drew ?_))); (case side2 => exact HC486.out); rintro e w12 ⟨rfl, hb⟩; refine ⟨_, rfl, ?_⟩; have n0_ := Aside0.mk (below_step (by repeat (first | (with_reducible first | exact HB.out | apply below_alloc | apply pw_below_drewN | apply below_drew1) | exact HB.out)) hb); clear HB; have HB := n0_; clear n0_; (try clear hb); (try clear hb2); (try clear hk); (try clear hi)))
              go_ret2
              exact ⟨by first | rfl | (simp [errW_none, errW_some] <;> rfl) | (simp [*, errW_none, errW_some] <;> rfl), by repeat (first | (with_reducible first | exact HB.out | apply below_alloc | apply pw_below_drewN | apply below_drew1) | exact HB.out)⟩
            · rw [if_neg c10] at H
              have c10b0 : decide (1048576 < t487) = false := decide_eq_false c10
              clear c10
              simp only [Option.some.injEq, Prod.mk.injEq] at H
              obtain ⟨rfl, rfl⟩ := H
              obtain ⟨i013, hi013, _, hsz13, _⟩ := info_parts info5
              obtain ⟨A13, hcut13, hA13, hC13⟩ := print_mid_of (P := Tryz.prog) (Value.int .u8) 0 31 5 .i64 .i64 Tryz.underlying31 hi013 hsz13 A0 c0 l0 148 156 (by omega) (by first | omega | exact of_decide_eq_true (by first | (with_reducible assumption) | assumption)) (of_decide_eq_true (by first | (with_reducible assumption) | assumption)) HC0.out
              have HR486 := Aside0.mk (Kd.C_of_reads (h1 := fun _ => rfl) (hA13 _ (Kd.reads_of_C HR0.out)))
              have HC486 := Aside0.mk hC13
              clear hA13 hC13 hi013 hsz13
              go_enter Tryz.func56, Tryz.ntmps56
              go_wp2_with (first | ((with_reducible refine gate_callee (f := 59) rfl ?_); refine goesL_ (some 12) rfl rfl Tryz.func59 (by kernel_rfl) rfl #[.slice A13 ((l0.take 156).drop 148).length (c0 - 148)] rfl (by (try simp only [List.map_toArray, List.map_cons, List.map_nil]); first | done | (rw [show ((l0.take 156).drop 148).length = (156 - 148) from (by rw [List.length_drop, List.length_take]; have h_ : (156 : Int) ≤ (l0.length : Int) := of_decide_eq_true (by first | (with_reducible assumption) | assumption); omega)] <;> rfl) | rfl | (simp only [List.length_drop, List.length_take]; rfl)) ?_; (with_reducible refine (numf_Get.calls _ _ ((l0.take 156).drop 148) t487 t488 _ ?side1 ?side2 A5.out).mono ?_); (case side1 => repeat (first | exact HR486.out | (with_reducible refine Kd.C_alloc ?_ _) | (with_reducible refine Kd.C_drewN ?_ _) | (with_reducible refine Kd.C_drew ?_))); (case side2 => exact HC486.out); rintro e w14 ⟨rfl, hb⟩; refine ⟨_, rfl, ?_⟩; have n0_ := Aside0.mk (below_step (by repeat (first | (with_reducible first | exact HB.out | apply below_alloc | apply pw_below_drewN | apply below_drew1) | exact HB.out)) hb); clear HB; have HB := n0_; clear n0_; (try clear hb); (try clear hb2); (try clear hk); (try clear hi)))
              go_ret2
              exact ⟨by first | rfl | (simp [errW_none, errW_some] <;> rfl) | (simp [*, errW_none, errW_some] <;> rfl), by repeat (first | (with_reducible first | exact HB.out | apply below_alloc | apply pw_below_drewN | apply below_drew1) | exact HB.out)⟩
        · rw [if_neg c6] at H
          have c6b0 : (t488 == 0) = false := beq_eq_false_iff_ne.mpr c6
          have c6b1 : (t488 != 0) = true := bne_iff_ne.mpr c6
          simp only [Option.some.injEq, Prod.mk.injEq] at H
          obtain ⟨rfl, rfl⟩ := H
          obtain ⟨i015, hi015, _, hsz15, _⟩ := info_parts info5
          obtain ⟨A15, hcut15, hA15, hC15⟩ := print_mid_of (P := Tryz.prog) (Value.int .u8) 0 31 5 .i64 .i64 Tryz.underlying31 hi015 hsz15 A0 c0 l0 148 156 (by omega) (by first | omega | exact of_decide_eq_true (by first | (with_reducible assumption) | assumption)) (of_decide_eq_true (by first | (with_reducible assumption) | assumption)) HC0.out
          have HR486 := Aside0.mk (Kd.C_of_reads (h1 := fun _ => rfl) (hA15 _ (Kd.reads_of_C HR0.out)))
          have HC486 := Aside0.mk hC15
          clear hA15 hC15 hi015 hsz15
          go_enter Tryz.func56, Tryz.ntmps56
          go_wp2_with (first | ((with_reducible refine gate_callee (f := 59) rfl ?_); refine goesL_ (some 12) rfl rfl Tryz.func59 (by kernel_rfl) rfl #[.slice A15 ((l0.take 156).drop 148).length (c0 - 148)] rfl (by (try simp only [List.map_toArray, List.map_cons, List.map_nil]); first | done | (rw [show ((l0.take 156).drop 148).length = (156 - 148) from (by rw [List.length_drop, List.length_take]; have h_ : (156 : Int) ≤ (l0.length : Int) := of_decide_eq_true (by first | (with_reducible assumption) | assumption); omega)] <;> rfl) | rfl | (simp only [List.length_drop, List.length_take]; rfl)) ?_; (with_reducible refine (numf_Get.calls _ _ ((l0.take 156).drop 148) t487 t488 _ ?side1 ?side2 A5.out).mono ?_); (case side1 => repeat (first | exact HR486.out | (with_reducible refine Kd.C_alloc ?_ _) | (with_reducible refine Kd.C_drewN ?_ _) | (with_reducible refine Kd.C_drew ?_))); (case side2 => exact HC486.out); rintro e w16 ⟨rfl, hb⟩; refine ⟨_, rfl, ?_⟩; have n0_ := Aside0.mk (below_step (by repeat (first | (with_reducible first | exact HB.out | apply below_alloc | apply pw_below_drewN | apply below_drew1) | exact HB.out)) hb); clear HB; have HB := n0_; clear n0_; (try clear hb); (try clear hb2); (try clear hk); (try clear hi)))
          go_ret2
          exact ⟨by first | rfl | (simp [errW_none, errW_some] <;> rfl) | (simp [*, errW_none, errW_some] <;> rfl), by repeat (first | (with_reducible first | exact HB.out | apply below_alloc | apply pw_below_drewN | apply below_drew1) | exact HB.out)⟩
      · rw [if_neg c4] at H
        exact absurd H (by simp)
    · rw [if_neg c3] at H
      exact absurd H (by simp)
  · rw [if_neg c2] at H
    have c2b0 : ((l0.length : Int) == 512) = false := beq_eq_false_iff_ne.mpr c2
    have c2b1 : ((l0.length : Int) != 512) = true := bne_iff_ne.mpr c2
    simp only [Option.some.injEq, Prod.mk.injEq] at H
    obtain ⟨rfl, rfl⟩ := H
    go_enter Tryz.func56, Tryz.ntmps56
    go_wp2
    go_ret2
    exact ⟨by first | rfl | (simp [errW_none, errW_some] <;> rfl) | (simp [*, errW_none, errW_some] <;> rfl), by repeat (first | (with_reducible first | exact HB.out | apply below_alloc | apply pw_below_drewN | apply below_drew1) | exact HB.out)⟩

end Go.Proofs.YtjidenkhgeoaiaaGreatDoor.P

-- F34
-- Written by xprint.py (a program of this session's, over the kit's printer) out of the translation. Not trusted: Lean checks it.
namespace Go.Proofs.YtjidenkhgeoaiaaGreatDoor.P
open Go.RowKit Go.Proofs.YtjidenkhgeoaiaaGreatDoorW.PrintWords Go.Proofs.YtjidenkhgeoaiaaGreatDoorW.PrintLast Go.Proofs.YtjidenkhgeoaiaaGreatDoorW.PrintMore Go.Proofs.YtjidenkhgeoaiaaGreatDoor.Hand
attribute [local go_sem] max2_int min2_int max_two min_two max_three min_three max_four min_four   -- for this text's walks alone
set_option linter.unusedVariables false
set_option linter.unusedSimpArgs false

/-! ### hsum_Check: function 34 -/
def hsum_Check.f (k : Nat) (l0 : List Int) : Option (Int) := (hsum_Told.f l0).bind fun bt489 => (if bt489.2 = 0 then ((hsum_Sum.f k l0).bind fun bt491 => (if bt491.2 = 0 then (if bt491.1 = bt489.1 then (some bt491.2) else (some 9)) else (some bt491.2))) else (some bt489.2))
theorem hsum_Check.mono : ∀ a0 k, LeO (hsum_Check.f k a0) (hsum_Check.f (k + 1) a0) := by
  intro a0 k
  unfold hsum_Check.f
  repeat' first
      | (with_reducible exact hsum_Sum.mono _ _)
      | (with_reducible exact LeO.refl _)
      | (with_reducible exact LeO.none _)
      | (with_reducible refine LeO.ite ?_ ?_)
      | (with_reducible refine LeO.bind ?_ (fun _ => ?_))
      | exact hsum_Sum.mono _ _
      | exact LeO.none _
      | refine LeO.ite ?_ ?_
      | refine LeO.bind ?_ (fun _ => ?_)
set_option maxHeartbeats 8000000 in
set_option maxRecDepth 100000 in
theorem hsum_Check.calls (k : Nat) (A0 : Option Addr) (c0 : Nat) (l0 : List Int) (r : Int) (w : World) (hr0 : Kd.C (Kd.int .u8) w A0 l0.length l0) (hc0 : l0.length ≤ c0) (h : hsum_Check.f k l0 = some r) :
    Calls Tryz.prog 34 #[.slice A0 l0.length c0] w fun e w' => e = .returned (.int .i64 r) ∧ Below w.heap.size w w' := by
  have HR0 := Aside0.mk hr0
  have HC0 := Aside0.mk hc0
  clear hr0 hc0
  have HB := Aside0.mk (Below.refl w.heap.size w)
  have H : ((hsum_Told.f l0).bind fun bt489 => (if bt489.2 = 0 then ((hsum_Sum.f k l0).bind fun bt491 => (if bt491.2 = 0 then (if bt491.1 = bt489.1 then (some bt491.2) else (some 9)) else (some bt491.2))) else (some bt489.2))) = some r := h
  clear h
  replace H := Option.bind_eq_some_iff.mp H
  obtain ⟨⟨t489, t490⟩, A20, H⟩ := H
  replace H : (if t490 = 0 then ((hsum_Sum.f k l0).bind fun bt491 => (if bt491.2 = 0 then (if bt491.1 = t489 then (some bt491.2) else (some 9)) else (some bt491.2))) else (some t490)) = some r := H
  have A2 := Aside0.mk A20
  clear A20
  by_cases c3 : t490 = 0
  · rw [if_pos c3] at H
    have c3b0 : (t490 == 0) = true := beq_iff_eq.mpr c3
    have c3b1 : (t490 != 0) = false := bne_eq_false_iff_eq.mpr c3
    clear c3
    replace H := Option.bind_eq_some_iff.mp H
    obtain ⟨⟨t491, t492⟩, A40, H⟩ := H
    replace H : (if t492 = 0 then (if t491 = t489 then (some t492) else (some 9)) else (some t492)) = some r := H
    have A4 := Aside0.mk A40
    clear A40
    by_cases c5 : t492 = 0
    · rw [if_pos c5] at H
      have c5b0 : (t492 == 0) = true := beq_iff_eq.mpr c5
      have c5b1 : (t492 != 0) = false := bne_eq_false_iff_eq.mpr c5
      clear c5
      by_cases c6 : t491 = t489
      · rw [if_pos c6] at H
        have c6b0 : (t491 == t489) = true := beq_iff_eq.mpr c6
        have c6b1 : (t491 != t489) = false := bne_eq_false_iff_eq.mpr c6
        clear c6
        obtain rfl := Option.some.inj H
        go_enter Tryz.func34, Tryz.ntmps34
        go_wp2_with (first | ((with_reducible refine gate_callee (f := 56) rfl ?_); refine goesL_ (some 8) rfl rfl Tryz.func56 (by kernel_rfl) rfl #[.slice A0 l0.length c0] rfl (by (try simp only [List.map_toArray, List.map_cons, List.map_nil]); first | done | rfl | (simp only [List.length_drop, List.length_take]; rfl)) ?_; (with_reducible refine (hsum_Told.calls _ _ l0 t489 t490 _ ?side1 ?side2 A2.out).mono ?_); (case side1 => repeat (first | exact HR0.out | (with_reducible refine Kd.C_alloc ?_ _) | (with_reducible refine Kd.C_drewN ?_ _) | (with_reducible refine Kd.C_drew ?_))); (case side2 => exact HC0.out); rintro e w7 ⟨rfl, hb⟩; refine ⟨_, rfl, ?_⟩; have n0_ := Aside0.mk (below_step (by repeat (first | (with_reducible first | exact HB.out | apply below_alloc | apply pw_below_drewN | apply below_drew1) | exact HB.out)) hb); clear HB; have HB := n0_; clear n0_; (try clear hb); (try clear hb2); (try clear hk); (try clear hi)) | ((with_reducible refine gate_callee (f := 57) rfl ?_); refine goesL_ (some 16) rfl rfl Tryz.func57 (by kernel_rfl) rfl #[.slice A0 l0.length c0] rfl (by (try simp only [List.map_toArray, List.map_cons, List.map_nil]); first | done | rfl | (simp only [List.length_drop, List.length_take]; rfl)) ?_; (with_reducible refine (hsum_Sum.calls k _ _ l0 t491 t492 _ ?side1 ?side2 A4.out).mono ?_); (case side1 => repeat (first | exact (Kd.C_below HR0.out HB.out) | (with_reducible refine Kd.C_alloc ?_ _) | (with_reducible refine Kd.C_drewN ?_ _) | (with_reducible refine Kd.C_drew ?_))); (case side2 => exact HC0.out); rintro e w' ⟨rfl, ⟨nd, rfl⟩⟩; refine ⟨_, rfl, ?_⟩))
        go_ret
        exact ⟨by first | rfl | (simp [errW_none, errW_some] <;> rfl) | (simp [*, errW_none, errW_some] <;> rfl), by repeat (first | (with_reducible first | exact HB.out | apply below_alloc | apply pw_below_drewN | apply below_drew1) | exact HB.out)⟩
      · rw [if_neg c6] at H
        have c6b0 : (t491 == t489) = false := beq_eq_false_iff_ne.mpr c6
        have c6b1 : (t491 != t489) = true := bne_iff_ne.mpr c6
        obtain rfl := Option.some.inj H
        go_enter Tryz.func34, Tryz.ntmps34
        go_wp2_with (first | ((with_reducible refine gate_callee (f := 56) rfl ?_); refine goesL_ (some 8) rfl rfl Tryz.func56 (by kernel_rfl) rfl #[.slice A0 l0.length c0] rfl (by (try simp only [List.map_toArray, List.map_cons, List.map_nil]); first | done | rfl | (simp only [List.length_drop, List.length_take]; rfl)) ?_; (with_reducible refine (hsum_Told.calls _ _ l0 t489 t490 _ ?side1 ?side2 A2.out).mono ?_); (case side1 => repeat (first | exact HR0.out | (with_reducible refine Kd.C_alloc ?_ _) | (with_reducible refine Kd.C_drewN ?_ _) | (with_reducible refine Kd.C_drew ?_))); (case side2 => exact HC0.out); rintro e w8 ⟨rfl, hb⟩; refine ⟨_, rfl, ?_⟩; have n0_ := Aside0.mk (below_step (by repeat (first | (with_reducible first | exact HB.out | apply below_alloc | apply pw_below_drewN | apply below_drew1) | exact HB.out)) hb); clear HB; have HB := n0_; clear n0_; (try clear hb); (try clear hb2); (try clear hk); (try clear hi)) | ((with_reducible refine gate_callee (f := 57) rfl ?_); refine goesL_ (some 16) rfl rfl Tryz.func57 (by kernel_rfl) rfl #[.slice A0 l0.length c0] rfl (by (try simp only [List.map_toArray, List.map_cons, List.map_nil]); first | done | rfl | (simp only [List.length_drop, List.length_take]; rfl)) ?_; (with_reducible refine (hsum_Sum.calls k _ _ l0 t491 t492 _ ?side1 ?side2 A4.out).mono ?_); (case side1 => repeat (first | exact (Kd.C_below HR0.out HB.out) | (with_reducible refine Kd.C_alloc ?_ _) | (with_reducible refine Kd.C_drewN ?_ _) | (with_reducible refine Kd.C_drew ?_))); (case side2 => exact HC0.out); rintro e w' ⟨rfl, ⟨nd, rfl⟩⟩; refine ⟨_, rfl, ?_⟩))
        go_ret
        exact ⟨by first | rfl | (simp [errW_none, errW_some] <;> rfl) | (simp [*, errW_none, errW_some] <;> rfl), by repeat (first | (with_reducible first | exact HB.out | apply below_alloc | apply pw_below_drewN | apply below_drew1) | exact HB.out)⟩
    · rw [if_neg c5] at H
      have c5b0 : (t492 == 0) = false := beq_eq_false_iff_ne.mpr c5
      have c5b1 : (t492 != 0) = true := bne_iff_ne.mpr c5
      obtain rfl := Option.some.inj H
      go_enter Tryz.func34, Tryz.ntmps34
      go_wp2_with (first | ((with_reducible refine gate_callee (f := 56) rfl ?_); refine goesL_ (some 8) rfl rfl Tryz.func56 (by kernel_rfl) rfl #[.slice A0 l0.length c0] rfl (by (try simp only [List.map_toArray, List.map_cons, List.map_nil]); first | done | rfl | (simp only [List.length_drop, List.length_take]; rfl)) ?_; (with_reducible refine (hsum_Told.calls _ _ l0 t489 t490 _ ?side1 ?side2 A2.out).mono ?_); (case side1 => repeat (first | exact HR0.out | (with_reducible refine Kd.C_alloc ?_ _) | (with_reducible refine Kd.C_drewN ?_ _) | (with_reducible refine Kd.C_drew ?_))); (case side2 => exact HC0.out); rintro e w9 ⟨rfl, hb⟩; refine ⟨_, rfl, ?_⟩; have n0_ := Aside0.mk (below_step (by repeat (first | (with_reducible first | exact HB.out | apply below_alloc | apply pw_below_drewN | apply below_drew1) | exact HB.out)) hb); clear HB; have HB := n0_; clear n0_; (try clear hb); (try clear hb2); (try clear hk); (try clear hi)) | ((with_reducible refine gate_callee (f := 57) rfl ?_); refine goesL_ (some 16) rfl rfl Tryz.func57 (by kernel_rfl) rfl #[.slice A0 l0.length c0] rfl (by (try simp only [List.map_toArray, List.map_cons, List.map_nil]); first | done | rfl | (simp only [List.length_drop, List.length_take]; rfl)) ?_; (with_reducible refine (hsum_Sum.calls k _ _ l0 t491 t492 _ ?side1 ?side2 A4.out).mono ?_); (case side1 => repeat (first | exact (Kd.C_below HR0.out HB.out) | (with_reducible refine Kd.C_alloc ?_ _) | (with_reducible refine Kd.C_drewN ?_ _) | (with_reducible refine Kd.C_drew ?_))); (case side2 => exact HC0.out); rintro e w' ⟨rfl, ⟨nd, rfl⟩⟩; refine ⟨_, rfl, ?_⟩))
      go_ret
      exact ⟨by first | rfl | (simp [errW_none, errW_some] <;> rfl) | (simp [*, errW_none, errW_some] <;> rfl), by repeat (first | (with_reducible first | exact HB.out | apply below_alloc | apply pw_below_drewN | apply below_drew1) | exact HB.out)⟩
  · rw [if_neg c3] at H
    have c3b0 : (t490 == 0) = false := beq_eq_false_iff_ne.mpr c3
    have c3b1 : (t490 != 0) = true := bne_iff_ne.mpr c3
    obtain rfl := Option.some.inj H
    go_enter Tryz.func34, Tryz.ntmps34
    go_wp2_with (first | ((with_reducible refine gate_callee (f := 56) rfl ?_); refine goesL_ (some 8) rfl rfl Tryz.func56 (by kernel_rfl) rfl #[.slice A0 l0.length c0] rfl (by (try simp only [List.map_toArray, List.map_cons, List.map_nil]); first | done | rfl | (simp only [List.length_drop, List.length_take]; rfl)) ?_; (with_reducible refine (hsum_Told.calls _ _ l0 t489 t490 _ ?side1 ?side2 A2.out).mono ?_); (case side1 => repeat (first | exact HR0.out | (with_reducible refine Kd.C_alloc ?_ _) | (with_reducible refine Kd.C_drewN ?_ _) | (with_reducible refine Kd.C_drew ?_))); (case side2 => exact HC0.out); rintro e w10 ⟨rfl, hb⟩; refine ⟨_, rfl, ?_⟩; have n0_ := Aside0.mk (below_step (by repeat (first | (with_reducible first | exact HB.out | apply below_alloc | apply pw_below_drewN | apply below_drew1) | exact HB.out)) hb); clear HB; have HB := n0_; clear n0_; (try clear hb); (try clear hb2); (try clear hk); (try clear hi)))
    go_ret
    exact ⟨by first | rfl | (simp [errW_none, errW_some] <;> rfl) | (simp [*, errW_none, errW_some] <;> rfl), by repeat (first | (with_reducible first | exact HB.out | apply below_alloc | apply pw_below_drewN | apply below_drew1) | exact HB.out)⟩

end Go.Proofs.YtjidenkhgeoaiaaGreatDoor.P

-- HLit
/- '[]byte("..")' of a constant: the literal's row as it stands behind the conversion. -/
namespace Go.Proofs.YtjidenkhgeoaiaaGreatDoor.Hand
open Go.RowKit Go.Shelf Go.Proofs.YtjidenkhgeoaiaaGreatDoorW Go.Proofs.YtjidenkhgeoaiaaGreatDoorW.PrintWords Go.Proofs.YtjidenkhgeoaiaaGreatDoorW.PrintLast Go.Proofs.YtjidenkhgeoaiaaGreatDoorW.PrintMore
set_option linter.unusedVariables false
theorem C_lit (w : World) (xs : List Int) (h : xs.length ≤ 9223372036854775807) (t : TypeId) (fr : Nat × Nat) :
    Kd.C (Kd.int .u8) (w.alloc (.cells (xs.map (Value.int .u8)).toArray t fr)) (some ⟨w.heap.size, 0, none⟩) xs.length xs := by
  refine Kd.C_of_reads (enc := Value.int .u8) (d := (0 : Int)) (h1 := fun _ => rfl) ⟨rfl, h, fun _ => ⟨_, rfl, fun j hj => ?_⟩⟩
  rw [add_flat, Nat.zero_add, cell_fresh]
  simp [hj]
theorem V_lit (w : World) (xs : List Int) (h : xs.length ≤ 9223372036854775807) (t : TypeId) (fr : Nat × Nat) (b : Nat) :
    Kd.V (Kd.int .u8) 5 (w.alloc (.cells (xs.map (Value.int .u8)).toArray t fr)) b (fun k_ => k_ < (w.alloc (.cells (xs.map (Value.int .u8)).toArray t fr)).heap.size) (.slice (some ⟨w.heap.size, 0, none⟩) xs.length xs.length) xs :=
  Kd.V_mk (Nat.le_refl _) (Kd.C_F (Kd.heap_int .u8) (C_lit w xs h t fr))
end Go.Proofs.YtjidenkhgeoaiaaGreatDoor.Hand

-- HHead2
/- Contract, by hand, of head.Parse. -/
namespace Go.Proofs.YtjidenkhgeoaiaaGreatDoor.Hand
open Go.RowKit Go.Proofs.YtjidenkhgeoaiaaGreatDoor.P Go.Proofs.YtjidenkhgeoaiaaGreatDoorW Go.Proofs.YtjidenkhgeoaiaaGreatDoorW.PrintWords Go.Proofs.YtjidenkhgeoaiaaGreatDoorW.PrintLast Go.Proofs.YtjidenkhgeoaiaaGreatDoorW.PrintMore
set_option linter.unusedVariables false
set_option linter.unusedSimpArgs false

def magicL : List UInt8 := [117, 115, 116, 97, 114, 0, 48, 48]
abbrev Head := ByteArray × ByteArray × Int × Int × Int × Int × Int × Int × ByteArray × Int
def noHead (e : Int) : Head := ((⟨#[]⟩ : ByteArray), (⟨#[]⟩ : ByteArray), 0, 0, 0, 0, 0, 0, (⟨#[]⟩ : ByteArray), e)
def cutAt (l : List Int) (a b : Nat) : List Int := (l.take b).drop a
theorem drawn_below {w w' : World} (h : Drawn0 w w') : Below w.heap.size w w' := by
  obtain ⟨n, rfl⟩ := h
  exact pw_below_drewN (Below.refl _ _) n
def typeOf (l : List Int) : Int := if rd l 156 = 0 then 48 else rd l 156
/-- What the fields are, if the sum and the magic are right. -/
def head_fields (l : List Int) : Option (ByteArray × ByteArray × ByteArray × Int × Int × Int × Int × Int × Int) :=
  (strf_Get.f (cutAt l 345 500)).bind fun p => (strf_Get.f (cutAt l 0 100)).bind fun n => (strf_Get.f (cutAt l 157 257)).bind fun k => (numf_Get.f (cutAt l 100 108)).bind fun m => (numf_Get.f (cutAt l 108 116)).bind fun u => (numf_Get.f (cutAt l 116 124)).bind fun g => (numf_Get.f (cutAt l 124 136)).bind fun s => (numf_Get.f (cutAt l 136 148)).bind fun t =>
    some (p.1, n.1, k.1, m.1, u.1, g.1, s.1, t.1, (firstE (firstE (firstE (firstE (firstE (firstE (firstE (firstE 0 p.2) n.2) k.2) m.2) u.2) g.2) s.2) t.2))
def head_Parse.f (k : Nat) (l : List Int) : Option Head :=
  (hsum_Check.f k l).bind fun e => if e = 0 then (if l.length = 512 then (if Lib.hasPrefix (Lib.bytesOf (l.drop 257)) magicL = true then
    (head_fields l).bind fun (p, n, k, m, u, g, s, t, e) => if e = 0 then (head_IsType.f (typeOf l)).bind fun b => (if b = true then (head_below.f p n m u g t s (typeOf l) k).bind fun c => (if c = true then some (noHead 10) else some (p, n, m, u, g, t, s, typeOf l, k, 0)) else some (noHead 11)) else some (noHead e)
    else some (noHead 3)) else none) else some (noHead e)

set_option maxHeartbeats 16000000 in
set_option maxRecDepth 1000000 in
theorem head_Parse.calls (k : Nat) (A0 : Option Addr) (c0 : Nat) (l0 : List Int) (r1 r2 : ByteArray) (r3 r4 r5 r6 r7 r8 : Int) (r9 : ByteArray) (r10 : Int) (w : World) (hr0 : Kd.C (Kd.int .u8) w A0 l0.length l0) (hc0 : l0.length ≤ c0) (h : head_Parse.f k l0 = some (r1, r2, r3, r4, r5, r6, r7, r8, r9, r10)) :
    Calls Tryz.prog 18 #[.slice A0 l0.length c0] w fun e w' => e = .returned (.tuple #[.agg #[.string r1, .string r2, .int .i64 r3, .int .i64 r4, .int .i64 r5, .int .i64 r6, .int .i64 r7, .int .u8 r8, .string r9], .int .i64 r10]) ∧ Below w.heap.size w w' := by
  have hu57 := Tryz.underlying43
  have HR0 := Aside0.mk hr0
  have HC0 := Aside0.mk hc0
  obtain ⟨e0, hK, h⟩ := Option.bind_eq_some_iff.1 h
  have HK := Aside0.mk hK
  clear hK hr0 hc0
  by_cases c0_ : ¬ e0 = 0
  · rw [if_neg c0_] at h
    unfold noHead at h
    simp only [Option.some.injEq, Prod.mk.injEq] at h
    obtain ⟨rfl, rfl, rfl, rfl, rfl, rfl, rfl, rfl, rfl, rfl⟩ := h
    have b1 : (e0 != 0) = true := bne_iff_ne.2 c0_
    clear c0_
    go_enter Tryz.func18, Tryz.ntmps18
    go_wp2_with (first | ((with_reducible refine gate_dst (N := 2) rfl ?_); refine box_event ?hg (N := 2) ?hd (cs := #[.string (⟨#[]⟩ : ByteArray), .string (⟨#[]⟩ : ByteArray), .int .i64 0, .int .i64 0, .int .i64 0, .int .i64 0, .int .i64 0, .int .u8 0, .string (⟨#[]⟩ : ByteArray)]) (t := 43) ?hr ?_; (case hd => rfl); (case hg => rfl); (case hr => first | (go_simp; done) | (go_simp; rfl)); intro gg hg w1 hbox hb; have HB := Aside0.mk hb; have BG := Aside0.mk hbox; have GG := Aside0.mk (Nat.le_of_eq hg.symm); clear hb hbox hg) | (go_at_call 34; (with_reducible refine (hsum_Check.calls k _ c0 l0 e0 _ (Kd.C_below HR0.out HB.out) HC0.out HK.out).mono ?_); rintro e w2 ⟨rfl, hb⟩; have n0_ := Aside0.mk (below_step HB.out hb); have n1_ := Aside0.mk (blk_below BG.out hb); clear HB BG hb; have HB := n0_; have BG := n1_; clear n0_ n1_; have hg0 := (blk_cell BG.out 0).trans (rfl : _ = some (.string (⟨#[]⟩ : ByteArray) : Value)); have fg0 := blk_frozen BG.out 0; have hg1 := (blk_cell BG.out 1).trans (rfl : _ = some (.string (⟨#[]⟩ : ByteArray) : Value)); have fg1 := blk_frozen BG.out 1; have hg2 := (blk_cell BG.out 2).trans (rfl : _ = some (.int .i64 0 : Value)); have fg2 := blk_frozen BG.out 2; have hg3 := (blk_cell BG.out 3).trans (rfl : _ = some (.int .i64 0 : Value)); have fg3 := blk_frozen BG.out 3; have hg4 := (blk_cell BG.out 4).trans (rfl : _ = some (.int .i64 0 : Value)); have fg4 := blk_frozen BG.out 4; have hg5 := (blk_cell BG.out 5).trans (rfl : _ = some (.int .i64 0 : Value)); have fg5 := blk_frozen BG.out 5; have hg6 := (blk_cell BG.out 6).trans (rfl : _ = some (.int .i64 0 : Value)); have fg6 := blk_frozen BG.out 6; have hg7 := (blk_cell BG.out 7).trans (rfl : _ = some (.int .u8 0 : Value)); have fg7 := blk_frozen BG.out 7; have hg8 := (blk_cell BG.out 8).trans (rfl : _ = some (.string (⟨#[]⟩ : ByteArray) : Value)); have fg8 := blk_frozen BG.out 8))
    refine bodyPost_ret (results_ct rfl _ _ gg 43 #[.string (⟨#[]⟩ : ByteArray), .string (⟨#[]⟩ : ByteArray), .int .i64 0, .int .i64 0, .int .i64 0, .int .i64 0, .int .i64 0, .int .u8 0, .string (⟨#[]⟩ : ByteArray)] (0, 0) _ rfl (blk_set (blk_set (blk_set (blk_set (blk_set (blk_set (blk_set (blk_set (blk_set BG.out 0 (.string (⟨#[]⟩ : ByteArray))) 1 (.string (⟨#[]⟩ : ByteArray))) 2 (.int .i64 0)) 3 (.int .i64 0)) 4 (.int .i64 0)) 5 (.int .i64 0)) 6 (.int .i64 0)) 7 (.int .u8 0)) 8 (.string (⟨#[]⟩ : ByteArray))) Tryz.underlying43 rfl (by kernel_rfl)) rfl ?_
    exact ⟨rfl, (below_set (below_set (below_set (below_set (below_set (below_set (below_set (below_set (below_set HB.out GG.out) GG.out) GG.out) GG.out) GG.out) GG.out) GG.out) GG.out) GG.out)⟩
  have c0_' := Decidable.of_not_not c0_
  subst c0_'
  clear c0_
  rw [if_pos rfl] at h
  split at h
  case isFalse => cases h
  rename_i hlen
  have HL := Aside0.mk hlen
  clear hlen
  obtain ⟨i5, hi5, hz5, hs5, hb5⟩ := info_parts info5
  obtain ⟨A7, hcut, hA7, hC7⟩ := print_drop_of (P := Tryz.prog) (Value.int .u8) (0 : Int) 31 5 .i64 Tryz.underlying31 hi5 hs5 A0 c0 l0 257 (by decide) (by have := HL.out; omega) HC0.out
  have HR7 := Aside0.mk (Kd.C_of_reads (h1 := fun _ => rfl) (hA7 w (Kd.reads_of_C (enc := Value.int .u8) (d := (0 : Int)) (h1 := fun _ => rfl) HR0.out)))
  have HC7 := Aside0.mk hC7
  rw [show ((257 : Int)).toNat = 257 from rfl] at hcut HR7 HC7
  have HP : Aside0 (∃ m, m = l0.drop 257) := ⟨_, rfl⟩
  clear hA7 hC7 hz5 hs5 hb5
  generalize hm7 : l0.drop 257 = m7 at hcut HR7 HC7 h
  clear hm7 HP
  have kc := fun W : World => Lib.run_convert_bytes_const (P := Tryz.prog) W 31 5 #[.int .u8 117, .int .u8 115, .int .u8 116, .int .u8 97, .int .u8 114, .int .u8 0, .int .u8 48, .int .u8 48] 8 8 Tryz.underlying31 Tryz.underlying5
  have hml : Lib.bytesOf ([117, 115, 116, 97, 114, 0, 48, 48] : List Int) = magicL := rfl
  by_cases cx : Lib.hasPrefix (Lib.bytesOf m7) magicL = true
  case neg =>
    rw [if_neg cx] at h
    unfold noHead at h
    simp only [Option.some.injEq, Prod.mk.injEq] at h
    obtain ⟨rfl, rfl, rfl, rfl, rfl, rfl, rfl, rfl, rfl, rfl⟩ := h
    have HX := Aside0.mk (show Lib.hasPrefix (Lib.bytesOf m7) (Lib.bytesOf ([117, 115, 116, 97, 114, 0, 48, 48] : List Int)) = false by rw [hml]; simpa using cx)
    clear cx hml
    go_enter Tryz.func18, Tryz.ntmps18
    go_wp2_with (first | ((with_reducible refine gate_dst (N := 2) rfl ?_); refine box_event ?hg (N := 2) ?hd (cs := #[.string (⟨#[]⟩ : ByteArray), .string (⟨#[]⟩ : ByteArray), .int .i64 0, .int .i64 0, .int .i64 0, .int .i64 0, .int .i64 0, .int .u8 0, .string (⟨#[]⟩ : ByteArray)]) (t := 43) ?hr ?_; (case hd => rfl); (case hg => rfl); (case hr => first | (go_simp; done) | (go_simp; rfl)); intro gg hg w1 hbox hb; have HB := Aside0.mk hb; have BG := Aside0.mk hbox; have GG := Aside0.mk (Nat.le_of_eq hg.symm); clear hb hbox hg) | (go_at_call 34; (with_reducible refine (hsum_Check.calls k _ c0 l0 0 _ (Kd.C_below HR0.out HB.out) HC0.out HK.out).mono ?_); rintro e w2 ⟨rfl, hb⟩; have n0_ := Aside0.mk (below_step HB.out hb); have n1_ := Aside0.mk (blk_below BG.out hb); clear HB BG hb; have HB := n0_; have BG := n1_; clear n0_ n1_; have hg0 := (blk_cell BG.out 0).trans (rfl : _ = some (.string (⟨#[]⟩ : ByteArray) : Value)); have fg0 := blk_frozen BG.out 0; have hg1 := (blk_cell BG.out 1).trans (rfl : _ = some (.string (⟨#[]⟩ : ByteArray) : Value)); have fg1 := blk_frozen BG.out 1; have hg2 := (blk_cell BG.out 2).trans (rfl : _ = some (.int .i64 0 : Value)); have fg2 := blk_frozen BG.out 2; have hg3 := (blk_cell BG.out 3).trans (rfl : _ = some (.int .i64 0 : Value)); have fg3 := blk_frozen BG.out 3; have hg4 := (blk_cell BG.out 4).trans (rfl : _ = some (.int .i64 0 : Value)); have fg4 := blk_frozen BG.out 4; have hg5 := (blk_cell BG.out 5).trans (rfl : _ = some (.int .i64 0 : Value)); have fg5 := blk_frozen BG.out 5; have hg6 := (blk_cell BG.out 6).trans (rfl : _ = some (.int .i64 0 : Value)); have fg6 := blk_frozen BG.out 6; have hg7 := (blk_cell BG.out 7).trans (rfl : _ = some (.int .u8 0 : Value)); have fg7 := blk_frozen BG.out 7; have hg8 := (blk_cell BG.out 8).trans (rfl : _ = some (.string (⟨#[]⟩ : ByteArray) : Value)); have fg8 := blk_frozen BG.out 8) | (go_at_call 35; (with_reducible refine (hasPrefix_C A7 _ (c0 - 257) 8 8 m7 ([117, 115, 116, 97, 114, 0, 48, 48] : List Int) false _ HC7.out rfl ?side1 ?side2 ?side3).mono ?_); (case side1 => refine Kd.C_alloc ?_ _; exact Kd.C_below HR7.out HB.out); (case side2 => exact (C_lit w2 ([117, 115, 116, 97, 114, 0, 48, 48] : List Int) (by decide) 5 (8, 9))); (case side3 => exact HX.out); rintro e w3 ⟨rfl, rfl⟩; have n0_ := Aside0.mk (below_alloc HB.out (.cells #[.int .u8 117, .int .u8 115, .int .u8 116, .int .u8 97, .int .u8 114, .int .u8 0, .int .u8 48, .int .u8 48] 5 (8, 9))); have n1_ := Aside0.mk (blk_alloc BG.out (.cells #[.int .u8 117, .int .u8 115, .int .u8 116, .int .u8 97, .int .u8 114, .int .u8 0, .int .u8 48, .int .u8 48] 5 (8, 9))); clear HB BG; have HB := n0_; have BG := n1_; clear n0_ n1_; have hg0 := (blk_cell BG.out 0).trans (rfl : _ = some (.string (⟨#[]⟩ : ByteArray) : Value)); have fg0 := blk_frozen BG.out 0; have hg1 := (blk_cell BG.out 1).trans (rfl : _ = some (.string (⟨#[]⟩ : ByteArray) : Value)); have fg1 := blk_frozen BG.out 1; have hg2 := (blk_cell BG.out 2).trans (rfl : _ = some (.int .i64 0 : Value)); have fg2 := blk_frozen BG.out 2; have hg3 := (blk_cell BG.out 3).trans (rfl : _ = some (.int .i64 0 : Value)); have fg3 := blk_frozen BG.out 3; have hg4 := (blk_cell BG.out 4).trans (rfl : _ = some (.int .i64 0 : Value)); have fg4 := blk_frozen BG.out 4; have hg5 := (blk_cell BG.out 5).trans (rfl : _ = some (.int .i64 0 : Value)); have fg5 := blk_frozen BG.out 5; have hg6 := (blk_cell BG.out 6).trans (rfl : _ = some (.int .i64 0 : Value)); have fg6 := blk_frozen BG.out 6; have hg7 := (blk_cell BG.out 7).trans (rfl : _ = some (.int .u8 0 : Value)); have fg7 := blk_frozen BG.out 7; have hg8 := (blk_cell BG.out 8).trans (rfl : _ = some (.string (⟨#[]⟩ : ByteArray) : Value)); have fg8 := blk_frozen BG.out 8))
    refine bodyPost_ret (results_ct rfl _ _ gg 43 #[.string (⟨#[]⟩ : ByteArray), .string (⟨#[]⟩ : ByteArray), .int .i64 0, .int .i64 0, .int .i64 0, .int .i64 0, .int .i64 0, .int .u8 0, .string (⟨#[]⟩ : ByteArray)] (0, 0) _ rfl (blk_set (blk_set (blk_set (blk_set (blk_set (blk_set (blk_set (blk_set (blk_set BG.out 0 (.string (⟨#[]⟩ : ByteArray))) 1 (.string (⟨#[]⟩ : ByteArray))) 2 (.int .i64 0)) 3 (.int .i64 0)) 4 (.int .i64 0)) 5 (.int .i64 0)) 6 (.int .i64 0)) 7 (.int .u8 0)) 8 (.string (⟨#[]⟩ : ByteArray))) Tryz.underlying43 rfl (by kernel_rfl)) rfl ?_
    exact ⟨rfl, (below_set (below_set (below_set (below_set (below_set (below_set (below_set (below_set (below_set HB.out GG.out) GG.out) GG.out) GG.out) GG.out) GG.out) GG.out) GG.out) GG.out)⟩
  rw [if_pos cx] at h
  have HX := Aside0.mk (show Lib.hasPrefix (Lib.bytesOf m7) (Lib.bytesOf ([117, 115, 116, 97, 114, 0, 48, 48] : List Int)) = true by rw [hml]; exact cx)
  clear cx hml
  obtain ⟨⟨p1, n1, k1, m1, u1, g1, s1, t1, E8⟩, hF, h⟩ := Option.bind_eq_some_iff.1 h
  unfold head_fields at hF
  obtain ⟨⟨p_, p2⟩, hp, hF⟩ := Option.bind_eq_some_iff.1 hF
  unfold cutAt at hp
  have Hp := Aside0.mk hp
  clear hp
  obtain ⟨⟨n_, n2⟩, hn, hF⟩ := Option.bind_eq_some_iff.1 hF
  unfold cutAt at hn
  have Hn := Aside0.mk hn
  clear hn
  obtain ⟨⟨k_, k2⟩, hk, hF⟩ := Option.bind_eq_some_iff.1 hF
  unfold cutAt at hk
  have Hk := Aside0.mk hk
  clear hk
  obtain ⟨⟨m_, m2⟩, hm, hF⟩ := Option.bind_eq_some_iff.1 hF
  unfold cutAt at hm
  have Hm := Aside0.mk hm
  clear hm
  obtain ⟨⟨u_, u2⟩, hu, hF⟩ := Option.bind_eq_some_iff.1 hF
  unfold cutAt at hu
  have Hu := Aside0.mk hu
  clear hu
  obtain ⟨⟨g_, g2⟩, hg, hF⟩ := Option.bind_eq_some_iff.1 hF
  unfold cutAt at hg
  have Hg := Aside0.mk hg
  clear hg
  obtain ⟨⟨s_, s2⟩, hs, hF⟩ := Option.bind_eq_some_iff.1 hF
  unfold cutAt at hs
  have Hs := Aside0.mk hs
  clear hs
  obtain ⟨⟨t_, t2⟩, ht, hF⟩ := Option.bind_eq_some_iff.1 hF
  unfold cutAt at ht
  have Ht := Aside0.mk ht
  clear ht
  simp only [Option.some.injEq, Prod.mk.injEq] at hF
  obtain ⟨rfl, rfl, rfl, rfl, rfl, rfl, rfl, rfl, hE8⟩ := hF
  have HE8 := Aside0.mk hE8
  clear hE8
  dsimp only at h
  have hl156 : 156 < l0.length := by have := HL.out; omega
  obtain ⟨ab, ao, ea, hx156⟩ := C_at HR0.out 156 hl156
  cases ea
  rw [show l0[156] = rd l0 156 by unfold rd; simp [List.getD_eq_getElem?_getD, hl156]] at hx156
  clear hl156
  unfold typeOf at h
  generalize rd l0 156 = x7 at h hx156
  have HH := Aside0.mk h
  clear h
  have q156 : (156 : Int) < (l0.length : Int) := by have := HL.out; omega
  have Q156 := Aside0.mk q156
  replace q156 := eq_true q156
  go_enter Tryz.func18, Tryz.ntmps18
  go_wp2_with (first | ((with_reducible refine gate_dst (N := 2) rfl ?_); refine box_event ?hg (N := 2) ?hd (cs := #[.string (⟨#[]⟩ : ByteArray), .string (⟨#[]⟩ : ByteArray), .int .i64 0, .int .i64 0, .int .i64 0, .int .i64 0, .int .i64 0, .int .u8 0, .string (⟨#[]⟩ : ByteArray)]) (t := 43) ?hr ?_; (case hd => rfl); (case hg => rfl); (case hr => first | (go_simp; done) | (go_simp; rfl)); intro gg hg w1 hbox hb; have HB := Aside0.mk hb; have BG := Aside0.mk hbox; have GG := Aside0.mk (Nat.le_of_eq hg.symm); clear hb hbox hg) | (go_at_call 34; (with_reducible refine (hsum_Check.calls k _ c0 l0 0 _ (Kd.C_below HR0.out HB.out) HC0.out HK.out).mono ?_); rintro e w2 ⟨rfl, hb⟩; have n0_ := Aside0.mk (below_step HB.out hb); have n1_ := Aside0.mk (blk_below BG.out hb); clear HB BG hb; have HB := n0_; have BG := n1_; clear n0_ n1_; skip) | (go_at_call 35; (with_reducible refine (hasPrefix_C A7 _ (c0 - 257) 8 8 m7 ([117, 115, 116, 97, 114, 0, 48, 48] : List Int) true _ HC7.out rfl ?side1 ?side2 ?side3).mono ?_); (case side1 => refine Kd.C_alloc ?_ _; exact Kd.C_below HR7.out HB.out); (case side2 => exact (C_lit w2 ([117, 115, 116, 97, 114, 0, 48, 48] : List Int) (by decide) 5 (8, 9))); (case side3 => exact HX.out); rintro e w3 ⟨rfl, rfl⟩; have n0_ := Aside0.mk (below_alloc HB.out (.cells #[.int .u8 117, .int .u8 115, .int .u8 116, .int .u8 97, .int .u8 114, .int .u8 0, .int .u8 48, .int .u8 48] 5 (8, 9))); have n1_ := Aside0.mk (blk_alloc BG.out (.cells #[.int .u8 117, .int .u8 115, .int .u8 116, .int .u8 97, .int .u8 114, .int .u8 0, .int .u8 48, .int .u8 48] 5 (8, 9))); clear HB BG; have HB := n0_; have BG := n1_; clear n0_ n1_; have hx7 := (HB.out.cell (World.block_lt_of_cell? w _ hx156)).trans hx156) | ((with_reducible refine gate_dst (N := 22) rfl ?_); refine box_event ?hg (N := 22) ?hd (cs := #[.slice (some ⟨ab, ao, none⟩) l0.length c0, .int .i64 0]) (t := 75) ?hr ?_; (case hd => rfl); (case hg => rfl); (case hr => first | (go_simp; done) | (go_simp; rfl)); intro gr hg w4 hbox hb; have n0_ := Aside0.mk (below_step HB.out hb); have n1_ := Aside0.mk (blk_below BG.out hb); have GR := Aside0.mk (Nat.le_trans (below_size HB.out) (Nat.le_of_eq hg.symm)); have BR := Aside0.mk hbox; clear HB BG hb hbox hg; have HB := n0_; have BG := n1_; clear n0_ n1_; have hy7 := (HB.out.cell (World.block_lt_of_cell? w _ hx156)).trans hx156) | ((with_reducible refine gate_dst (N := 6) rfl ?_); refine box_event ?hg (N := 6) ?hd (cs := #[.string (⟨#[]⟩ : ByteArray), .string (⟨#[]⟩ : ByteArray), .int .i64 0, .int .i64 0, .int .i64 0, .int .i64 0, .int .i64 0, .int .u8 0, .string (⟨#[]⟩ : ByteArray)]) (t := 43) ?hr ?_; (case hd => rfl); (case hg => rfl); (case hr => first | (go_simp; done) | (go_simp; rfl)); intro gh hg w5 hbox hb; have n0_ := Aside0.mk (below_step HB.out hb); have n1_ := Aside0.mk (blk_below BG.out hb); have n2_ := Aside0.mk (blk_below BR.out hb); have GH := Aside0.mk (Nat.le_trans (below_size HB.out) (Nat.le_of_eq hg.symm)); have NGH : Aside0 (gg ≠ gh) := ⟨by have := blk_lt BG.out; omega⟩; have BH := Aside0.mk hbox; clear HB BG BR hb hbox hg; have HB := n0_; have BG := n1_; have BR := n2_; clear n0_ n1_ n2_; have NRH : Aside0 (gr ≠ gh) := ⟨blk_ne BR.out BH.out (by decide)⟩; have NRG : Aside0 (gg ≠ gr) := ⟨blk_ne BG.out BR.out (by decide)⟩; have hh0 := (blk_cell BH.out 0).trans (rfl : _ = some (.string (⟨#[]⟩ : ByteArray) : Value)); have fh0 := blk_frozen BH.out 0; have hh1 := (blk_cell BH.out 1).trans (rfl : _ = some (.string (⟨#[]⟩ : ByteArray) : Value)); have fh1 := blk_frozen BH.out 1; have hh2 := (blk_cell BH.out 2).trans (rfl : _ = some (.int .i64 0 : Value)); have fh2 := blk_frozen BH.out 2; have hh3 := (blk_cell BH.out 3).trans (rfl : _ = some (.int .i64 0 : Value)); have fh3 := blk_frozen BH.out 3; have hh4 := (blk_cell BH.out 4).trans (rfl : _ = some (.int .i64 0 : Value)); have fh4 := blk_frozen BH.out 4; have hh5 := (blk_cell BH.out 5).trans (rfl : _ = some (.int .i64 0 : Value)); have fh5 := blk_frozen BH.out 5; have hh6 := (blk_cell BH.out 6).trans (rfl : _ = some (.int .i64 0 : Value)); have fh6 := blk_frozen BH.out 6; have hh7 := (blk_cell BH.out 7).trans (rfl : _ = some (.int .u8 0 : Value)); have fh7 := blk_frozen BH.out 7; have hh8 := (blk_cell BH.out 8).trans (rfl : _ = some (.string (⟨#[]⟩ : ByteArray) : Value)); have fh8 := blk_frozen BH.out 8))
  go_at_call 36
  with_reducible refine (reader_text.calls (some ⟨ab, ao, none⟩) c0 gr l0 345 155 0 p2 p_ _ (by decide) (by decide) (by have := HL.out; omega) (by have := HL.out; omega) HC0.out ?sb (Kd.C_below HR0.out ?sB) (by rw [show ((345 : Int) + 155).toNat = 500 from rfl, show (345 : Int).toNat = 345 from rfl]; exact Hp.out)).mono ?_
  case sb => exact (blk_far (blk_far (blk_far (blk_far (blk_far (blk_far (blk_far (blk_far (blk_far BR.out (p := ⟨gh, 0, none⟩) NRH.out (.string (⟨#[]⟩ : ByteArray))) (p := ⟨gh, 1, none⟩) NRH.out (.string (⟨#[]⟩ : ByteArray))) (p := ⟨gh, 2, none⟩) NRH.out (.int .i64 0)) (p := ⟨gh, 3, none⟩) NRH.out (.int .i64 0)) (p := ⟨gh, 4, none⟩) NRH.out (.int .i64 0)) (p := ⟨gh, 5, none⟩) NRH.out (.int .i64 0)) (p := ⟨gh, 6, none⟩) NRH.out (.int .i64 0)) (p := ⟨gh, 7, none⟩) NRH.out (.int .u8 x7)) (p := ⟨gh, 8, none⟩) NRH.out (.string (⟨#[]⟩ : ByteArray)))
  case sB => exact (below_set (j := 8) (v := .string (⟨#[]⟩ : ByteArray)) (below_set (j := 7) (v := .int .u8 x7) (below_set (j := 6) (v := .int .i64 0) (below_set (j := 5) (v := .int .i64 0) (below_set (j := 4) (v := .int .i64 0) (below_set (j := 3) (v := .int .i64 0) (below_set (j := 2) (v := .int .i64 0) (below_set (j := 1) (v := .string (⟨#[]⟩ : ByteArray)) (below_set (j := 0) (v := .string (⟨#[]⟩ : ByteArray)) HB.out GH.out) GH.out) GH.out) GH.out) GH.out) GH.out) GH.out) GH.out) GH.out)
  rintro en w6 ⟨rfl, hbr, hn⟩
  have n0_ := Aside0.mk (Below.near (below_set (j := 8) (v := .string (⟨#[]⟩ : ByteArray)) (below_set (j := 7) (v := .int .u8 x7) (below_set (j := 6) (v := .int .i64 0) (below_set (j := 5) (v := .int .i64 0) (below_set (j := 4) (v := .int .i64 0) (below_set (j := 3) (v := .int .i64 0) (below_set (j := 2) (v := .int .i64 0) (below_set (j := 1) (v := .string (⟨#[]⟩ : ByteArray)) (below_set (j := 0) (v := .string (⟨#[]⟩ : ByteArray)) HB.out GH.out) GH.out) GH.out) GH.out) GH.out) GH.out) GH.out) GH.out) GH.out) (below_size (below_set (j := 8) (v := .string (⟨#[]⟩ : ByteArray)) (below_set (j := 7) (v := .int .u8 x7) (below_set (j := 6) (v := .int .i64 0) (below_set (j := 5) (v := .int .i64 0) (below_set (j := 4) (v := .int .i64 0) (below_set (j := 3) (v := .int .i64 0) (below_set (j := 2) (v := .int .i64 0) (below_set (j := 1) (v := .string (⟨#[]⟩ : ByteArray)) (below_set (j := 0) (v := .string (⟨#[]⟩ : ByteArray)) HB.out GH.out) GH.out) GH.out) GH.out) GH.out) GH.out) GH.out) GH.out) GH.out)) GR.out hn)
  have n1_ := Aside0.mk (hn.blk (blk_far (blk_far (blk_far (blk_far (blk_far (blk_far (blk_far (blk_far (blk_far BG.out (p := ⟨gh, 0, none⟩) NGH.out (.string (⟨#[]⟩ : ByteArray))) (p := ⟨gh, 1, none⟩) NGH.out (.string (⟨#[]⟩ : ByteArray))) (p := ⟨gh, 2, none⟩) NGH.out (.int .i64 0)) (p := ⟨gh, 3, none⟩) NGH.out (.int .i64 0)) (p := ⟨gh, 4, none⟩) NGH.out (.int .i64 0)) (p := ⟨gh, 5, none⟩) NGH.out (.int .i64 0)) (p := ⟨gh, 6, none⟩) NGH.out (.int .i64 0)) (p := ⟨gh, 7, none⟩) NGH.out (.int .u8 x7)) (p := ⟨gh, 8, none⟩) NGH.out (.string (⟨#[]⟩ : ByteArray))) NRG.out)
  have n2_ : Aside0 (w6.heap[gh]? = some (.cells #[.string (⟨#[]⟩ : ByteArray), .string (⟨#[]⟩ : ByteArray), .int .i64 0, .int .i64 0, .int .i64 0, .int .i64 0, .int .i64 0, .int .u8 x7, .string (⟨#[]⟩ : ByteArray)] 43 (0, 0))) := ⟨hn.blk (blk_set (blk_set (blk_set (blk_set (blk_set (blk_set (blk_set (blk_set (blk_set BH.out 0 (.string (⟨#[]⟩ : ByteArray))) 1 (.string (⟨#[]⟩ : ByteArray))) 2 (.int .i64 0)) 3 (.int .i64 0)) 4 (.int .i64 0)) 5 (.int .i64 0)) 6 (.int .i64 0)) 7 (.int .u8 x7)) 8 (.string (⟨#[]⟩ : ByteArray))) NRH.out.symm⟩
  have n3_ : Aside0 (w6.heap[gr]? = some (.cells #[.slice (some ⟨ab, ao, none⟩) l0.length c0, .int .i64 (firstE 0 p2)] 75 (0, 0))) := ⟨hbr⟩
  clear HB BG BH BR hbr hn
  have HB := n0_
  have BG := n1_
  have BH := n2_
  have BR := n3_
  clear n0_ n1_ n2_ n3_
  have hs := (blk_cell BH.out 0).trans (rfl : _ = some (.string (⟨#[]⟩ : ByteArray) : Value))
  have fs := blk_frozen BH.out 0
  go_wp2_with fail
  clear hs fs
  go_at_call 36
  with_reducible refine (reader_text.calls (some ⟨ab, ao, none⟩) c0 gr l0 0 100 (firstE 0 p2) n2 n_ _ (by decide) (by decide) (by have := HL.out; omega) (by have := HL.out; omega) HC0.out ?sb (Kd.C_below HR0.out ?sB) (by rw [show ((0 : Int) + 100).toNat = 100 from rfl, show (0 : Int).toNat = 0 from rfl]; exact Hn.out)).mono ?_
  case sb => exact (blk_far BR.out (p := ⟨gh, 0, none⟩) NRH.out (.string p_))
  case sB => exact (below_set (j := 0) (v := .string p_) HB.out GH.out)
  rintro en w7 ⟨rfl, hbr, hn⟩
  have n0_ := Aside0.mk (Below.near (below_set (j := 0) (v := .string p_) HB.out GH.out) (below_size (below_set (j := 0) (v := .string p_) HB.out GH.out)) GR.out hn)
  have n1_ := Aside0.mk (hn.blk (blk_far BG.out (p := ⟨gh, 0, none⟩) NGH.out (.string p_)) NRG.out)
  have n2_ : Aside0 (w7.heap[gh]? = some (.cells #[.string p_, .string (⟨#[]⟩ : ByteArray), .int .i64 0, .int .i64 0, .int .i64 0, .int .i64 0, .int .i64 0, .int .u8 x7, .string (⟨#[]⟩ : ByteArray)] 43 (0, 0))) := ⟨hn.blk (blk_set BH.out 0 (.string p_)) NRH.out.symm⟩
  have n3_ : Aside0 (w7.heap[gr]? = some (.cells #[.slice (some ⟨ab, ao, none⟩) l0.length c0, .int .i64 (firstE (firstE 0 p2) n2)] 75 (0, 0))) := ⟨hbr⟩
  clear HB BG BH BR hbr hn
  have HB := n0_
  have BG := n1_
  have BH := n2_
  have BR := n3_
  clear n0_ n1_ n2_ n3_
  have hs := (blk_cell BH.out 1).trans (rfl : _ = some (.string (⟨#[]⟩ : ByteArray) : Value))
  have fs := blk_frozen BH.out 1
  go_wp2_with fail
  clear hs fs
  go_at_call 36
  with_reducible refine (reader_text.calls (some ⟨ab, ao, none⟩) c0 gr l0 157 100 (firstE (firstE 0 p2) n2) k2 k_ _ (by decide) (by decide) (by have := HL.out; omega) (by have := HL.out; omega) HC0.out ?sb (Kd.C_below HR0.out ?sB) (by rw [show ((157 : Int) + 100).toNat = 257 from rfl, show (157 : Int).toNat = 157 from rfl]; exact Hk.out)).mono ?_
  case sb => exact (blk_far BR.out (p := ⟨gh, 1, none⟩) NRH.out (.string n_))
  case sB => exact (below_set (j := 1) (v := .string n_) HB.out GH.out)
  rintro en w8 ⟨rfl, hbr, hn⟩
  have n0_ := Aside0.mk (Below.near (below_set (j := 1) (v := .string n_) HB.out GH.out) (below_size (below_set (j := 1) (v := .string n_) HB.out GH.out)) GR.out hn)
  have n1_ := Aside0.mk (hn.blk (blk_far BG.out (p := ⟨gh, 1, none⟩) NGH.out (.string n_)) NRG.out)
  have n2_ : Aside0 (w8.heap[gh]? = some (.cells #[.string p_, .string n_, .int .i64 0, .int .i64 0, .int .i64 0, .int .i64 0, .int .i64 0, .int .u8 x7, .string (⟨#[]⟩ : ByteArray)] 43 (0, 0))) := ⟨hn.blk (blk_set BH.out 1 (.string n_)) NRH.out.symm⟩
  have n3_ : Aside0 (w8.heap[gr]? = some (.cells #[.slice (some ⟨ab, ao, none⟩) l0.length c0, .int .i64 (firstE (firstE (firstE 0 p2) n2) k2)] 75 (0, 0))) := ⟨hbr⟩
  clear HB BG BH BR hbr hn
  have HB := n0_
  have BG := n1_
  have BH := n2_
  have BR := n3_
  clear n0_ n1_ n2_ n3_
  have hs := (blk_cell BH.out 8).trans (rfl : _ = some (.string (⟨#[]⟩ : ByteArray) : Value))
  have fs := blk_frozen BH.out 8
  go_wp2_with fail
  clear hs fs
  go_at_call 37
  with_reducible refine (reader_number.calls (some ⟨ab, ao, none⟩) c0 gr l0 100 8 (firstE (firstE (firstE 0 p2) n2) k2) m2 m_ _ (by decide) (by decide) (by have := HL.out; omega) (by have := HL.out; omega) HC0.out ?sb (Kd.C_below HR0.out ?sB) (by rw [show ((100 : Int) + 8).toNat = 108 from rfl, show (100 : Int).toNat = 100 from rfl]; exact Hm.out)).mono ?_
  case sb => exact (blk_far BR.out (p := ⟨gh, 8, none⟩) NRH.out (.string k_))
  case sB => exact (below_set (j := 8) (v := .string k_) HB.out GH.out)
  rintro en w9 ⟨rfl, hbr, hn⟩
  have n0_ := Aside0.mk (Below.near (below_set (j := 8) (v := .string k_) HB.out GH.out) (below_size (below_set (j := 8) (v := .string k_) HB.out GH.out)) GR.out hn)
  have n1_ := Aside0.mk (hn.blk (blk_far BG.out (p := ⟨gh, 8, none⟩) NGH.out (.string k_)) NRG.out)
  have n2_ : Aside0 (w9.heap[gh]? = some (.cells #[.string p_, .string n_, .int .i64 0, .int .i64 0, .int .i64 0, .int .i64 0, .int .i64 0, .int .u8 x7, .string k_] 43 (0, 0))) := ⟨hn.blk (blk_set BH.out 8 (.string k_)) NRH.out.symm⟩
  have n3_ : Aside0 (w9.heap[gr]? = some (.cells #[.slice (some ⟨ab, ao, none⟩) l0.length c0, .int .i64 (firstE (firstE (firstE (firstE 0 p2) n2) k2) m2)] 75 (0, 0))) := ⟨hbr⟩
  clear HB BG BH BR hbr hn
  have HB := n0_
  have BG := n1_
  have BH := n2_
  have BR := n3_
  clear n0_ n1_ n2_ n3_
  have hs := (blk_cell BH.out 2).trans (rfl : _ = some (.int .i64 0 : Value))
  have fs := blk_frozen BH.out 2
  go_wp2_with fail
  clear hs fs
  go_at_call 37
  with_reducible refine (reader_number.calls (some ⟨ab, ao, none⟩) c0 gr l0 108 8 (firstE (firstE (firstE (firstE 0 p2) n2) k2) m2) u2 u_ _ (by decide) (by decide) (by have := HL.out; omega) (by have := HL.out; omega) HC0.out ?sb (Kd.C_below HR0.out ?sB) (by rw [show ((108 : Int) + 8).toNat = 116 from rfl, show (108 : Int).toNat = 108 from rfl]; exact Hu.out)).mono ?_
  case sb => exact (blk_far BR.out (p := ⟨gh, 2, none⟩) NRH.out (.int .i64 m_))
  case sB => exact (below_set (j := 2) (v := .int .i64 m_) HB.out GH.out)
  rintro en w10 ⟨rfl, hbr, hn⟩
  have n0_ := Aside0.mk (Below.near (below_set (j := 2) (v := .int .i64 m_) HB.out GH.out) (below_size (below_set (j := 2) (v := .int .i64 m_) HB.out GH.out)) GR.out hn)
  have n1_ := Aside0.mk (hn.blk (blk_far BG.out (p := ⟨gh, 2, none⟩) NGH.out (.int .i64 m_)) NRG.out)
  have n2_ : Aside0 (w10.heap[gh]? = some (.cells #[.string p_, .string n_, .int .i64 m_, .int .i64 0, .int .i64 0, .int .i64 0, .int .i64 0, .int .u8 x7, .string k_] 43 (0, 0))) := ⟨hn.blk (blk_set BH.out 2 (.int .i64 m_)) NRH.out.symm⟩
  have n3_ : Aside0 (w10.heap[gr]? = some (.cells #[.slice (some ⟨ab, ao, none⟩) l0.length c0, .int .i64 (firstE (firstE (firstE (firstE (firstE 0 p2) n2) k2) m2) u2)] 75 (0, 0))) := ⟨hbr⟩
  clear HB BG BH BR hbr hn
  have HB := n0_
  have BG := n1_
  have BH := n2_
  have BR := n3_
  clear n0_ n1_ n2_ n3_
  have hs := (blk_cell BH.out 3).trans (rfl : _ = some (.int .i64 0 : Value))
  have fs := blk_frozen BH.out 3
  go_wp2_with fail
  clear hs fs
  go_at_call 37
  with_reducible refine (reader_number.calls (some ⟨ab, ao, none⟩) c0 gr l0 116 8 (firstE (firstE (firstE (firstE (firstE 0 p2) n2) k2) m2) u2) g2 g_ _ (by decide) (by decide) (by have := HL.out; omega) (by have := HL.out; omega) HC0.out ?sb (Kd.C_below HR0.out ?sB) (by rw [show ((116 : Int) + 8).toNat = 124 from rfl, show (116 : Int).toNat = 116 from rfl]; exact Hg.out)).mono ?_
  case sb => exact (blk_far BR.out (p := ⟨gh, 3, none⟩) NRH.out (.int .i64 u_))
  case sB => exact (below_set (j := 3) (v := .int .i64 u_) HB.out GH.out)
  rintro en w11 ⟨rfl, hbr, hn⟩
  have n0_ := Aside0.mk (Below.near (below_set (j := 3) (v := .int .i64 u_) HB.out GH.out) (below_size (below_set (j := 3) (v := .int .i64 u_) HB.out GH.out)) GR.out hn)
  have n1_ := Aside0.mk (hn.blk (blk_far BG.out (p := ⟨gh, 3, none⟩) NGH.out (.int .i64 u_)) NRG.out)
  have n2_ : Aside0 (w11.heap[gh]? = some (.cells #[.string p_, .string n_, .int .i64 m_, .int .i64 u_, .int .i64 0, .int .i64 0, .int .i64 0, .int .u8 x7, .string k_] 43 (0, 0))) := ⟨hn.blk (blk_set BH.out 3 (.int .i64 u_)) NRH.out.symm⟩
  have n3_ : Aside0 (w11.heap[gr]? = some (.cells #[.slice (some ⟨ab, ao, none⟩) l0.length c0, .int .i64 (firstE (firstE (firstE (firstE (firstE (firstE 0 p2) n2) k2) m2) u2) g2)] 75 (0, 0))) := ⟨hbr⟩
  clear HB BG BH BR hbr hn
  have HB := n0_
  have BG := n1_
  have BH := n2_
  have BR := n3_
  clear n0_ n1_ n2_ n3_
  have hs := (blk_cell BH.out 4).trans (rfl : _ = some (.int .i64 0 : Value))
  have fs := blk_frozen BH.out 4
  go_wp2_with fail
  clear hs fs
  go_at_call 37
  with_reducible refine (reader_number.calls (some ⟨ab, ao, none⟩) c0 gr l0 124 12 (firstE (firstE (firstE (firstE (firstE (firstE 0 p2) n2) k2) m2) u2) g2) s2 s_ _ (by decide) (by decide) (by have := HL.out; omega) (by have := HL.out; omega) HC0.out ?sb (Kd.C_below HR0.out ?sB) (by rw [show ((124 : Int) + 12).toNat = 136 from rfl, show (124 : Int).toNat = 124 from rfl]; exact Hs.out)).mono ?_
  case sb => exact (blk_far BR.out (p := ⟨gh, 4, none⟩) NRH.out (.int .i64 g_))
  case sB => exact (below_set (j := 4) (v := .int .i64 g_) HB.out GH.out)
  rintro en w12 ⟨rfl, hbr, hn⟩
  have n0_ := Aside0.mk (Below.near (below_set (j := 4) (v := .int .i64 g_) HB.out GH.out) (below_size (below_set (j := 4) (v := .int .i64 g_) HB.out GH.out)) GR.out hn)
  have n1_ := Aside0.mk (hn.blk (blk_far BG.out (p := ⟨gh, 4, none⟩) NGH.out (.int .i64 g_)) NRG.out)
  have n2_ : Aside0 (w12.heap[gh]? = some (.cells #[.string p_, .string n_, .int .i64 m_, .int .i64 u_, .int .i64 g_, .int .i64 0, .int .i64 0, .int .u8 x7, .string k_] 43 (0, 0))) := ⟨hn.blk (blk_set BH.out 4 (.int .i64 g_)) NRH.out.symm⟩
  have n3_ : Aside0 (w12.heap[gr]? = some (.cells #[.slice (some ⟨ab, ao, none⟩) l0.length c0, .int .i64 (firstE (firstE (firstE (firstE (firstE (firstE (firstE 0 p2) n2) k2) m2) u2) g2) s2)] 75 (0, 0))) := ⟨hbr⟩
  clear HB BG BH BR hbr hn
  have HB := n0_
  have BG := n1_
  have BH := n2_
  have BR := n3_
  clear n0_ n1_ n2_ n3_
  have hs := (blk_cell BH.out 6).trans (rfl : _ = some (.int .i64 0 : Value))
  have fs := blk_frozen BH.out 6
  go_wp2_with fail
  clear hs fs
  go_at_call 37
  with_reducible refine (reader_number.calls (some ⟨ab, ao, none⟩) c0 gr l0 136 12 (firstE (firstE (firstE (firstE (firstE (firstE (firstE 0 p2) n2) k2) m2) u2) g2) s2) t2 t_ _ (by decide) (by decide) (by have := HL.out; omega) (by have := HL.out; omega) HC0.out ?sb (Kd.C_below HR0.out ?sB) (by rw [show ((136 : Int) + 12).toNat = 148 from rfl, show (136 : Int).toNat = 136 from rfl]; exact Ht.out)).mono ?_
  case sb => exact (blk_far BR.out (p := ⟨gh, 6, none⟩) NRH.out (.int .i64 s_))
  case sB => exact (below_set (j := 6) (v := .int .i64 s_) HB.out GH.out)
  rintro en w13 ⟨rfl, hbr, hn⟩
  have n0_ := Aside0.mk (Below.near (below_set (j := 6) (v := .int .i64 s_) HB.out GH.out) (below_size (below_set (j := 6) (v := .int .i64 s_) HB.out GH.out)) GR.out hn)
  have n1_ := Aside0.mk (hn.blk (blk_far BG.out (p := ⟨gh, 6, none⟩) NGH.out (.int .i64 s_)) NRG.out)
  have n2_ : Aside0 (w13.heap[gh]? = some (.cells #[.string p_, .string n_, .int .i64 m_, .int .i64 u_, .int .i64 g_, .int .i64 0, .int .i64 s_, .int .u8 x7, .string k_] 43 (0, 0))) := ⟨hn.blk (blk_set BH.out 6 (.int .i64 s_)) NRH.out.symm⟩
  have n3_ : Aside0 (w13.heap[gr]? = some (.cells #[.slice (some ⟨ab, ao, none⟩) l0.length c0, .int .i64 (firstE (firstE (firstE (firstE (firstE (firstE (firstE (firstE 0 p2) n2) k2) m2) u2) g2) s2) t2)] 75 (0, 0))) := ⟨hbr⟩
  clear HB BG BH BR hbr hn
  have HB := n0_
  have BG := n1_
  have BH := n2_
  have BR := n3_
  clear n0_ n1_ n2_ n3_
  have n0_ : Aside0 (w13.heap[gr]? = some (.cells #[.slice (some ⟨ab, ao, none⟩) l0.length c0, .int .i64 E8] 75 (0, 0))) := ⟨by rw [← HE8.out]; exact BR.out⟩
  clear BR
  have BR := n0_
  clear n0_
  by_cases cz : x7 = 0
  · subst cz
    have h := HH.out
    clear HH
    rw [if_pos (rfl : (0 : Int) = 0)] at h
    have hh0 := (blk_cell BH.out 0).trans (rfl : _ = some (.string p_ : Value))
    have fh0 := blk_frozen BH.out 0
    have hh1 := (blk_cell BH.out 1).trans (rfl : _ = some (.string n_ : Value))
    have fh1 := blk_frozen BH.out 1
    have hh2 := (blk_cell BH.out 2).trans (rfl : _ = some (.int .i64 m_ : Value))
    have fh2 := blk_frozen BH.out 2
    have hh3 := (blk_cell BH.out 3).trans (rfl : _ = some (.int .i64 u_ : Value))
    have fh3 := blk_frozen BH.out 3
    have hh4 := (blk_cell BH.out 4).trans (rfl : _ = some (.int .i64 g_ : Value))
    have fh4 := blk_frozen BH.out 4
    have hh5 := (blk_cell BH.out 5).trans (rfl : _ = some (.int .i64 0 : Value))
    have fh5 := blk_frozen BH.out 5
    have hh6 := (blk_cell BH.out 6).trans (rfl : _ = some (.int .i64 s_ : Value))
    have fh6 := blk_frozen BH.out 6
    have hh7 := (blk_cell BH.out 7).trans (rfl : _ = some (.int .u8 0 : Value))
    have fh7 := blk_frozen BH.out 7
    have hh8 := (blk_cell BH.out 8).trans (rfl : _ = some (.string k_ : Value))
    have fh8 := blk_frozen BH.out 8
    have hg0 := (blk_cell BG.out 0).trans (rfl : _ = some (.string (⟨#[]⟩ : ByteArray) : Value))
    have fg0 := blk_frozen BG.out 0
    have hg1 := (blk_cell BG.out 1).trans (rfl : _ = some (.string (⟨#[]⟩ : ByteArray) : Value))
    have fg1 := blk_frozen BG.out 1
    have hg2 := (blk_cell BG.out 2).trans (rfl : _ = some (.int .i64 0 : Value))
    have fg2 := blk_frozen BG.out 2
    have hg3 := (blk_cell BG.out 3).trans (rfl : _ = some (.int .i64 0 : Value))
    have fg3 := blk_frozen BG.out 3
    have hg4 := (blk_cell BG.out 4).trans (rfl : _ = some (.int .i64 0 : Value))
    have fg4 := blk_frozen BG.out 4
    have hg5 := (blk_cell BG.out 5).trans (rfl : _ = some (.int .i64 0 : Value))
    have fg5 := blk_frozen BG.out 5
    have hg6 := (blk_cell BG.out 6).trans (rfl : _ = some (.int .i64 0 : Value))
    have fg6 := blk_frozen BG.out 6
    have hg7 := (blk_cell BG.out 7).trans (rfl : _ = some (.int .u8 0 : Value))
    have fg7 := blk_frozen BG.out 7
    have hg8 := (blk_cell BG.out 8).trans (rfl : _ = some (.string (⟨#[]⟩ : ByteArray) : Value))
    have fg8 := blk_frozen BG.out 8
    have hr1 := (blk_cell BR.out 1).trans (rfl : _ = some (.int .i64 E8 : Value))
    by_cases cE : ¬ E8 = 0
    · rw [if_neg cE] at h
      unfold noHead at h
      simp only [Option.some.injEq, Prod.mk.injEq] at h
      obtain ⟨rfl, rfl, rfl, rfl, rfl, rfl, rfl, rfl, rfl, rfl⟩ := h
      have b1 : (E8 != 0) = true := bne_iff_ne.2 cE
      clear cE
      have BX := Aside0.mk (show (World.setCell (World.setCell w13 ⟨gh, 5, none⟩ (.int .i64 t_)) ⟨gh, 7, none⟩ (.int .u8 48)).heap[gg]? = some (.cells #[.string (⟨#[]⟩ : ByteArray), .string (⟨#[]⟩ : ByteArray), .int .i64 0, .int .i64 0, .int .i64 0, .int .i64 0, .int .i64 0, .int .u8 0, .string (⟨#[]⟩ : ByteArray)] 43 (0, 0)) from (blk_far (blk_far BG.out (p := ⟨gh, 5, none⟩) NGH.out (.int .i64 t_)) (p := ⟨gh, 7, none⟩) NGH.out (.int .u8 48)))
      have xg0 := (blk_cell BX.out 0).trans (rfl : _ = some (.string (⟨#[]⟩ : ByteArray) : Value))
      have xf0 := blk_frozen BX.out 0
      have xg1 := (blk_cell BX.out 1).trans (rfl : _ = some (.string (⟨#[]⟩ : ByteArray) : Value))
      have xf1 := blk_frozen BX.out 1
      have xg2 := (blk_cell BX.out 2).trans (rfl : _ = some (.int .i64 0 : Value))
      have xf2 := blk_frozen BX.out 2
      have xg3 := (blk_cell BX.out 3).trans (rfl : _ = some (.int .i64 0 : Value))
      have xf3 := blk_frozen BX.out 3
      have xg4 := (blk_cell BX.out 4).trans (rfl : _ = some (.int .i64 0 : Value))
      have xf4 := blk_frozen BX.out 4
      have xg5 := (blk_cell BX.out 5).trans (rfl : _ = some (.int .i64 0 : Value))
      have xf5 := blk_frozen BX.out 5
      have xg6 := (blk_cell BX.out 6).trans (rfl : _ = some (.int .i64 0 : Value))
      have xf6 := blk_frozen BX.out 6
      have xg7 := (blk_cell BX.out 7).trans (rfl : _ = some (.int .u8 0 : Value))
      have xf7 := blk_frozen BX.out 7
      have xg8 := (blk_cell BX.out 8).trans (rfl : _ = some (.string (⟨#[]⟩ : ByteArray) : Value))
      have xf8 := blk_frozen BX.out 8
      clear hg0 fg0 hh0 fh0 hg1 fg1 hh1 fh1 hg2 fg2 hh2 fh2 hg3 fg3 hh3 fh3 hg4 fg4 hh4 fh4 hg6 fg6 hh6 fh6 hg8 fg8 hh8 fh8 hg5 fg5 hg7 fg7
      go_wp2
      have n0_ := Aside0.mk (below_drew1 (show Below w.heap.size w (World.setCell (World.setCell w13 ⟨gh, 5, none⟩ (.int .i64 t_)) ⟨gh, 7, none⟩ (.int .u8 48)) from (below_set (j := 7) (v := .int .u8 48) (below_set (j := 5) (v := .int .i64 t_) HB.out GH.out) GH.out)))
      have n1_ : Aside0 ((World.drew (World.setCell (World.setCell w13 ⟨gh, 5, none⟩ (.int .i64 t_)) ⟨gh, 7, none⟩ (.int .u8 48))).heap[gg]? = some (.cells #[.string (⟨#[]⟩ : ByteArray), .string (⟨#[]⟩ : ByteArray), .int .i64 0, .int .i64 0, .int .i64 0, .int .i64 0, .int .i64 0, .int .u8 0, .string (⟨#[]⟩ : ByteArray)] 43 (0, 0))) := ⟨blk_drew BX.out⟩
      have n2_ : Aside0 ((World.drew (World.setCell (World.setCell w13 ⟨gh, 5, none⟩ (.int .i64 t_)) ⟨gh, 7, none⟩ (.int .u8 48))).heap[gr]? = some (.cells #[.slice (some ⟨ab, ao, none⟩) l0.length c0, .int .i64 E8] 75 (0, 0))) := ⟨blk_drew (blk_far (blk_far BR.out (p := ⟨gh, 5, none⟩) NRH.out (.int .i64 t_)) (p := ⟨gh, 7, none⟩) NRH.out (.int .u8 48))⟩
      clear HB BG BR BX
      have HB := n0_
      have BG := n1_
      have BR := n2_
      clear n0_ n1_ n2_ xg0 xf0 xg1 xf1 xg2 xf2 xg3 xf3 xg4 xf4 xg5 xf5 xg6 xf6 xg7 xf7 xg8 xf8
      refine start_ (n := 7) (S := fun w' => w'.cell? ⟨gr, 1, none⟩ = some (.int .i64 E8)) (ds := []) #[false, false, false, false, false, false, false] (by kernel_rfl) rfl rfl ((blk_cell BR.out 1).trans rfl) (fun hHeld => ?_)
      generalize World.drew (World.setCell (World.setCell w13 ⟨gh, 5, none⟩ (.int .i64 t_)) ⟨gh, 7, none⟩ (.int .u8 48)) = wx at HB BG BR hHeld ⊢
      have xg0 := (blk_cell BG.out 0).trans (rfl : _ = some (.string (⟨#[]⟩ : ByteArray) : Value))
      have xf0 := blk_frozen BG.out 0
      have xg1 := (blk_cell BG.out 1).trans (rfl : _ = some (.string (⟨#[]⟩ : ByteArray) : Value))
      have xf1 := blk_frozen BG.out 1
      have xg2 := (blk_cell BG.out 2).trans (rfl : _ = some (.int .i64 0 : Value))
      have xf2 := blk_frozen BG.out 2
      have xg3 := (blk_cell BG.out 3).trans (rfl : _ = some (.int .i64 0 : Value))
      have xf3 := blk_frozen BG.out 3
      have xg4 := (blk_cell BG.out 4).trans (rfl : _ = some (.int .i64 0 : Value))
      have xf4 := blk_frozen BG.out 4
      have xg5 := (blk_cell BG.out 5).trans (rfl : _ = some (.int .i64 0 : Value))
      have xf5 := blk_frozen BG.out 5
      have xg6 := (blk_cell BG.out 6).trans (rfl : _ = some (.int .i64 0 : Value))
      have xf6 := blk_frozen BG.out 6
      have xg7 := (blk_cell BG.out 7).trans (rfl : _ = some (.int .u8 0 : Value))
      have xf7 := blk_frozen BG.out 7
      have xg8 := (blk_cell BG.out 8).trans (rfl : _ = some (.string (⟨#[]⟩ : ByteArray) : Value))
      have xf8 := blk_frozen BG.out 8
      refine pure_ (i := 0) (N := some 65) (v := ?_) (a' := ?_) #[true, false, false, false, false, false, false] rfl rfl (by kernel_rfl) (fun _ _ _ h => h) (Or.inl ⟨by rfl, ?_⟩) ?_ ?_
      rotate_left
      · intro w'
        go_simp
        with_reducible rfl
      rotate_left
      · simp only [Act.put, List.setIfInBounds_toArray, List.set_cons_zero, List.set_cons_succ, i64_w, i32_w]
        rfl
      refine pure_ (i := 1) (N := some 66) (v := ?_) (a' := ?_) #[true, true, false, false, false, false, false] rfl rfl (by kernel_rfl) (fun _ _ _ h => h) (Or.inl ⟨by rfl, ?_⟩) ?_ ?_
      rotate_left
      · intro w'
        go_simp
        with_reducible rfl
      rotate_left
      · simp only [Act.put, List.setIfInBounds_toArray, List.set_cons_zero, List.set_cons_succ, i64_w, i32_w]
        rfl
      refine pure_ (i := 2) (N := some 67) (v := ?_) (a' := ?_) #[true, true, true, false, false, false, false] rfl rfl (by kernel_rfl) (fun _ _ _ h => h) (Or.inl ⟨by rfl, ?_⟩) ?_ ?_
      rotate_left
      · intro w'
        go_simp
        with_reducible rfl
      rotate_left
      · simp only [Act.put, List.setIfInBounds_toArray, List.set_cons_zero, List.set_cons_succ, i64_w, i32_w]
        rfl
      refine pure_ (i := 3) (N := some 68) (v := ?_) (a' := ?_) #[true, true, true, true, false, false, false] rfl rfl (by kernel_rfl) (fun _ _ _ h => h) (Or.inl ⟨by rfl, ?_⟩) ?_ ?_
      rotate_left
      · intro w'
        go_simp
        with_reducible rfl
      rotate_left
      · simp only [Act.put, List.setIfInBounds_toArray, List.set_cons_zero, List.set_cons_succ, i64_w, i32_w]
        rfl
      refine take_ (i := 4) (N := some 69) (v := ?_) (a' := ?_) #[true, true, true, true, true, false, false] rfl rfl (by kernel_rfl) (fun _ _ _ h => h) (Or.inl ⟨by rfl, ?_⟩) hHeld ?_ ?_
      rotate_left
      · intro w' s0
        go_simp
        with_reducible rfl
      rotate_left
      · simp only [Act.put, List.setIfInBounds_toArray, List.set_cons_zero, List.set_cons_succ, i64_w, i32_w]
        rfl
      refine one_ (i := 5) (N := none) #[true, true, true, true, true, true, false] rfl rfl (by kernel_rfl) (by decide) (fun K hK => ?_)
      refine skip_ (w1 := ?_) (by rfl) rfl ?_ ?_
      rotate_left
      · go_simp
        rfl
      refine hK.out _ _ ((blk_cell (blk_far (blk_far (blk_far (blk_far (blk_far (blk_far (blk_far (blk_far (blk_far BR.out (p := ⟨gg, 0, none⟩) NRG.out.symm (.string (⟨#[]⟩ : ByteArray))) (p := ⟨gg, 1, none⟩) NRG.out.symm (.string (⟨#[]⟩ : ByteArray))) (p := ⟨gg, 2, none⟩) NRG.out.symm (.int .i64 0)) (p := ⟨gg, 3, none⟩) NRG.out.symm (.int .i64 0)) (p := ⟨gg, 4, none⟩) NRG.out.symm (.int .i64 0)) (p := ⟨gg, 5, none⟩) NRG.out.symm (.int .i64 0)) (p := ⟨gg, 6, none⟩) NRG.out.symm (.int .i64 0)) (p := ⟨gg, 7, none⟩) NRG.out.symm (.int .u8 0)) (p := ⟨gg, 8, none⟩) NRG.out.symm (.string (⟨#[]⟩ : ByteArray))) 1).trans rfl) (fun hHeld => ?_)
      clear hK K
      refine pure_ (i := 6) (N := some 3) (v := ?_) (a' := ?_) #[true, true, true, true, true, true, true] rfl rfl (by kernel_rfl) (fun _ _ _ h => h) (Or.inl ⟨by rfl, ?_⟩) ?_ ?_
      rotate_left
      · intro w'
        go_simp
        with_reducible rfl
      rotate_left
      · simp only [Act.put, List.setIfInBounds_toArray, List.set_cons_zero, List.set_cons_succ, i64_w, i32_w]
        rfl
      refine done_ (by kernel_rfl) ?_
      go_wp2
      refine bodyPost_ret (results_ct rfl _ _ gg 43 #[.string (⟨#[]⟩ : ByteArray), .string (⟨#[]⟩ : ByteArray), .int .i64 0, .int .i64 0, .int .i64 0, .int .i64 0, .int .i64 0, .int .u8 0, .string (⟨#[]⟩ : ByteArray)] (0, 0) _ rfl (by have h_ := (blk_set (blk_set (blk_set (blk_set (blk_set (blk_set (blk_set (blk_set (blk_set BG.out 0 (.string (⟨#[]⟩ : ByteArray))) 1 (.string (⟨#[]⟩ : ByteArray))) 2 (.int .i64 0)) 3 (.int .i64 0)) 4 (.int .i64 0)) 5 (.int .i64 0)) 6 (.int .i64 0)) 7 (.int .u8 0)) 8 (.string (⟨#[]⟩ : ByteArray))); exact h_) Tryz.underlying43 rfl (by kernel_rfl)) rfl ?_
      exact ⟨rfl, (by repeat (first | (with_reducible first | exact HB.out | apply below_alloc | apply pw_below_drewN | apply below_drew1 | refine below_set ?_ GG.out | refine below_set ?_ GH.out) | exact HB.out))⟩
    have cE' := Decidable.of_not_not cE
    subst cE'
    clear cE
    rw [if_pos rfl] at h
    obtain ⟨b, hT, h⟩ := Option.bind_eq_some_iff.1 h
    have HT := Aside0.mk hT
    clear hT
    cases b with
    | false =>
      rw [if_neg (by decide)] at h
      unfold noHead at h
      simp only [Option.some.injEq, Prod.mk.injEq] at h
      obtain ⟨rfl, rfl, rfl, rfl, rfl, rfl, rfl, rfl, rfl, rfl⟩ := h
      go_wp2_with ((go_at_call 38; (with_reducible refine (head_IsType.calls 48 false _ HT.out).mono ?_); rintro e w14 ⟨rfl, hd⟩; have hb := drawn_below hd; have n0_ := Aside0.mk (below_step (by repeat (first | (with_reducible first | exact HB.out | apply below_alloc | apply pw_below_drewN | apply below_drew1 | refine below_set ?_ GG.out | refine below_set ?_ GH.out) | exact HB.out)) hb); have n1_ := Aside0.mk (blk_below (g := gg) (o := .cells #[.string (⟨#[]⟩ : ByteArray), .string (⟨#[]⟩ : ByteArray), .int .i64 0, .int .i64 0, .int .i64 0, .int .i64 0, .int .i64 0, .int .u8 0, .string (⟨#[]⟩ : ByteArray)] 43 (0, 0)) (by have h_ := (blk_far (blk_far BG.out (p := ⟨gh, 5, none⟩) NGH.out (.int .i64 t_)) (p := ⟨gh, 7, none⟩) NGH.out (.int .u8 48)); exact h_) hb); clear HB BG hb hd; have HB := n0_; have BG := n1_; clear n0_ n1_; have hg0 := (blk_cell BG.out 0).trans (rfl : _ = some (.string (⟨#[]⟩ : ByteArray) : Value)); have fg0 := blk_frozen BG.out 0; have hg1 := (blk_cell BG.out 1).trans (rfl : _ = some (.string (⟨#[]⟩ : ByteArray) : Value)); have fg1 := blk_frozen BG.out 1; have hg2 := (blk_cell BG.out 2).trans (rfl : _ = some (.int .i64 0 : Value)); have fg2 := blk_frozen BG.out 2; have hg3 := (blk_cell BG.out 3).trans (rfl : _ = some (.int .i64 0 : Value)); have fg3 := blk_frozen BG.out 3; have hg4 := (blk_cell BG.out 4).trans (rfl : _ = some (.int .i64 0 : Value)); have fg4 := blk_frozen BG.out 4; have hg5 := (blk_cell BG.out 5).trans (rfl : _ = some (.int .i64 0 : Value)); have fg5 := blk_frozen BG.out 5; have hg6 := (blk_cell BG.out 6).trans (rfl : _ = some (.int .i64 0 : Value)); have fg6 := blk_frozen BG.out 6; have hg7 := (blk_cell BG.out 7).trans (rfl : _ = some (.int .u8 0 : Value)); have fg7 := blk_frozen BG.out 7; have hg8 := (blk_cell BG.out 8).trans (rfl : _ = some (.string (⟨#[]⟩ : ByteArray) : Value)); have fg8 := blk_frozen BG.out 8))
      refine bodyPost_ret (results_ct rfl _ _ gg 43 #[.string (⟨#[]⟩ : ByteArray), .string (⟨#[]⟩ : ByteArray), .int .i64 0, .int .i64 0, .int .i64 0, .int .i64 0, .int .i64 0, .int .u8 0, .string (⟨#[]⟩ : ByteArray)] (0, 0) _ rfl (by have h_ := (blk_set (blk_set (blk_set (blk_set (blk_set (blk_set (blk_set (blk_set (blk_set BG.out 0 (.string (⟨#[]⟩ : ByteArray))) 1 (.string (⟨#[]⟩ : ByteArray))) 2 (.int .i64 0)) 3 (.int .i64 0)) 4 (.int .i64 0)) 5 (.int .i64 0)) 6 (.int .i64 0)) 7 (.int .u8 0)) 8 (.string (⟨#[]⟩ : ByteArray))); exact h_) Tryz.underlying43 rfl (by kernel_rfl)) rfl ?_
      exact ⟨rfl, (by repeat (first | (with_reducible first | exact HB.out | apply below_alloc | apply pw_below_drewN | apply below_drew1 | refine below_set ?_ GG.out | refine below_set ?_ GH.out) | exact HB.out))⟩
    | true =>
      rw [if_pos rfl] at h
      obtain ⟨c, hB, h⟩ := Option.bind_eq_some_iff.1 h
      have HBw := Aside0.mk hB
      clear hB
      cases c with
      | true =>
        rw [if_pos rfl] at h
        unfold noHead at h
        simp only [Option.some.injEq, Prod.mk.injEq] at h
        obtain ⟨rfl, rfl, rfl, rfl, rfl, rfl, rfl, rfl, rfl, rfl⟩ := h
        go_wp2_with (first | (go_at_call 38; (with_reducible refine (head_IsType.calls 48 true _ HT.out).mono ?_); rintro e w' ⟨rfl, ⟨nd, rfl⟩⟩) | (go_at_call 39; (with_reducible refine (head_below.calls p_ n_ m_ u_ g_ t_ s_ 48 k_ true _ HBw.out).mono ?_); rintro e w14 ⟨rfl, hb⟩; have n0_ := Aside0.mk (below_step (by repeat (first | (with_reducible first | exact HB.out | apply below_alloc | apply pw_below_drewN | apply below_drew1 | refine below_set ?_ GG.out | refine below_set ?_ GH.out) | exact HB.out)) hb); have n1_ := Aside0.mk (blk_below (g := gg) (o := .cells #[.string (⟨#[]⟩ : ByteArray), .string (⟨#[]⟩ : ByteArray), .int .i64 0, .int .i64 0, .int .i64 0, .int .i64 0, .int .i64 0, .int .u8 0, .string (⟨#[]⟩ : ByteArray)] 43 (0, 0)) (by have h_ := (blk_far (blk_far BG.out (p := ⟨gh, 5, none⟩) NGH.out (.int .i64 t_)) (p := ⟨gh, 7, none⟩) NGH.out (.int .u8 48)); exact h_) hb); have n2_ := Aside0.mk (blk_below (g := gh) (o := .cells #[.string p_, .string n_, .int .i64 m_, .int .i64 u_, .int .i64 g_, .int .i64 t_, .int .i64 s_, .int .u8 48, .string k_] 43 (0, 0)) (by have h_ := (blk_set (blk_set BH.out 5 (.int .i64 t_)) 7 (.int .u8 48)); exact h_) hb); clear HB BG BH hb; have HB := n0_; have BG := n1_; have BH := n2_; clear n0_ n1_ n2_; have hg0 := (blk_cell BG.out 0).trans (rfl : _ = some (.string (⟨#[]⟩ : ByteArray) : Value)); have fg0 := blk_frozen BG.out 0; have hg1 := (blk_cell BG.out 1).trans (rfl : _ = some (.string (⟨#[]⟩ : ByteArray) : Value)); have fg1 := blk_frozen BG.out 1; have hg2 := (blk_cell BG.out 2).trans (rfl : _ = some (.int .i64 0 : Value)); have fg2 := blk_frozen BG.out 2; have hg3 := (blk_cell BG.out 3).trans (rfl : _ = some (.int .i64 0 : Value)); have fg3 := blk_frozen BG.out 3; have hg4 := (blk_cell BG.out 4).trans (rfl : _ = some (.int .i64 0 : Value)); have fg4 := blk_frozen BG.out 4; have hg5 := (blk_cell BG.out 5).trans (rfl : _ = some (.int .i64 0 : Value)); have fg5 := blk_frozen BG.out 5; have hg6 := (blk_cell BG.out 6).trans (rfl : _ = some (.int .i64 0 : Value)); have fg6 := blk_frozen BG.out 6; have hg7 := (blk_cell BG.out 7).trans (rfl : _ = some (.int .u8 0 : Value)); have fg7 := blk_frozen BG.out 7; have hg8 := (blk_cell BG.out 8).trans (rfl : _ = some (.string (⟨#[]⟩ : ByteArray) : Value)); have fg8 := blk_frozen BG.out 8; have hh0 := (blk_cell BH.out 0).trans (rfl : _ = some (.string p_ : Value)); have fh0 := blk_frozen BH.out 0; have hh1 := (blk_cell BH.out 1).trans (rfl : _ = some (.string n_ : Value)); have fh1 := blk_frozen BH.out 1; have hh2 := (blk_cell BH.out 2).trans (rfl : _ = some (.int .i64 m_ : Value)); have fh2 := blk_frozen BH.out 2; have hh3 := (blk_cell BH.out 3).trans (rfl : _ = some (.int .i64 u_ : Value)); have fh3 := blk_frozen BH.out 3; have hh4 := (blk_cell BH.out 4).trans (rfl : _ = some (.int .i64 g_ : Value)); have fh4 := blk_frozen BH.out 4; have hh5 := (blk_cell BH.out 5).trans (rfl : _ = some (.int .i64 t_ : Value)); have fh5 := blk_frozen BH.out 5; have hh6 := (blk_cell BH.out 6).trans (rfl : _ = some (.int .i64 s_ : Value)); have fh6 := blk_frozen BH.out 6; have hh7 := (blk_cell BH.out 7).trans (rfl : _ = some (.int .u8 48 : Value)); have fh7 := blk_frozen BH.out 7; have hh8 := (blk_cell BH.out 8).trans (rfl : _ = some (.string k_ : Value)); have fh8 := blk_frozen BH.out 8))
        refine bodyPost_ret (results_ct rfl _ _ gg 43 #[.string (⟨#[]⟩ : ByteArray), .string (⟨#[]⟩ : ByteArray), .int .i64 0, .int .i64 0, .int .i64 0, .int .i64 0, .int .i64 0, .int .u8 0, .string (⟨#[]⟩ : ByteArray)] (0, 0) _ rfl (by have h_ := (blk_set (blk_set (blk_set (blk_set (blk_set (blk_set (blk_set (blk_set (blk_set BG.out 0 (.string (⟨#[]⟩ : ByteArray))) 1 (.string (⟨#[]⟩ : ByteArray))) 2 (.int .i64 0)) 3 (.int .i64 0)) 4 (.int .i64 0)) 5 (.int .i64 0)) 6 (.int .i64 0)) 7 (.int .u8 0)) 8 (.string (⟨#[]⟩ : ByteArray))); exact h_) Tryz.underlying43 rfl (by kernel_rfl)) rfl ?_
        exact ⟨rfl, (by repeat (first | (with_reducible first | exact HB.out | apply below_alloc | apply pw_below_drewN | apply below_drew1 | refine below_set ?_ GG.out | refine below_set ?_ GH.out) | exact HB.out))⟩
      | false =>
        rw [if_neg (by decide)] at h
        simp only [Option.some.injEq, Prod.mk.injEq] at h
        obtain ⟨rfl, rfl, rfl, rfl, rfl, rfl, rfl, rfl, rfl, rfl⟩ := h
        go_wp2_with (first | (go_at_call 38; (with_reducible refine (head_IsType.calls 48 true _ HT.out).mono ?_); rintro e w' ⟨rfl, ⟨nd, rfl⟩⟩) | (go_at_call 39; (with_reducible refine (head_below.calls p_ n_ m_ u_ g_ t_ s_ 48 k_ false _ HBw.out).mono ?_); rintro e w14 ⟨rfl, hb⟩; have n0_ := Aside0.mk (below_step (by repeat (first | (with_reducible first | exact HB.out | apply below_alloc | apply pw_below_drewN | apply below_drew1 | refine below_set ?_ GG.out | refine below_set ?_ GH.out) | exact HB.out)) hb); have n1_ := Aside0.mk (blk_below (g := gg) (o := .cells #[.string (⟨#[]⟩ : ByteArray), .string (⟨#[]⟩ : ByteArray), .int .i64 0, .int .i64 0, .int .i64 0, .int .i64 0, .int .i64 0, .int .u8 0, .string (⟨#[]⟩ : ByteArray)] 43 (0, 0)) (by have h_ := (blk_far (blk_far BG.out (p := ⟨gh, 5, none⟩) NGH.out (.int .i64 t_)) (p := ⟨gh, 7, none⟩) NGH.out (.int .u8 48)); exact h_) hb); have n2_ := Aside0.mk (blk_below (g := gh) (o := .cells #[.string p_, .string n_, .int .i64 m_, .int .i64 u_, .int .i64 g_, .int .i64 t_, .int .i64 s_, .int .u8 48, .string k_] 43 (0, 0)) (by have h_ := (blk_set (blk_set BH.out 5 (.int .i64 t_)) 7 (.int .u8 48)); exact h_) hb); clear HB BG BH hb; have HB := n0_; have BG := n1_; have BH := n2_; clear n0_ n1_ n2_; have hg0 := (blk_cell BG.out 0).trans (rfl : _ = some (.string (⟨#[]⟩ : ByteArray) : Value)); have fg0 := blk_frozen BG.out 0; have hg1 := (blk_cell BG.out 1).trans (rfl : _ = some (.string (⟨#[]⟩ : ByteArray) : Value)); have fg1 := blk_frozen BG.out 1; have hg2 := (blk_cell BG.out 2).trans (rfl : _ = some (.int .i64 0 : Value)); have fg2 := blk_frozen BG.out 2; have hg3 := (blk_cell BG.out 3).trans (rfl : _ = some (.int .i64 0 : Value)); have fg3 := blk_frozen BG.out 3; have hg4 := (blk_cell BG.out 4).trans (rfl : _ = some (.int .i64 0 : Value)); have fg4 := blk_frozen BG.out 4; have hg5 := (blk_cell BG.out 5).trans (rfl : _ = some (.int .i64 0 : Value)); have fg5 := blk_frozen BG.out 5; have hg6 := (blk_cell BG.out 6).trans (rfl : _ = some (.int .i64 0 : Value)); have fg6 := blk_frozen BG.out 6; have hg7 := (blk_cell BG.out 7).trans (rfl : _ = some (.int .u8 0 : Value)); have fg7 := blk_frozen BG.out 7; have hg8 := (blk_cell BG.out 8).trans (rfl : _ = some (.string (⟨#[]⟩ : ByteArray) : Value)); have fg8 := blk_frozen BG.out 8; have hh0 := (blk_cell BH.out 0).trans (rfl : _ = some (.string p_ : Value)); have fh0 := blk_frozen BH.out 0; have hh1 := (blk_cell BH.out 1).trans (rfl : _ = some (.string n_ : Value)); have fh1 := blk_frozen BH.out 1; have hh2 := (blk_cell BH.out 2).trans (rfl : _ = some (.int .i64 m_ : Value)); have fh2 := blk_frozen BH.out 2; have hh3 := (blk_cell BH.out 3).trans (rfl : _ = some (.int .i64 u_ : Value)); have fh3 := blk_frozen BH.out 3; have hh4 := (blk_cell BH.out 4).trans (rfl : _ = some (.int .i64 g_ : Value)); have fh4 := blk_frozen BH.out 4; have hh5 := (blk_cell BH.out 5).trans (rfl : _ = some (.int .i64 t_ : Value)); have fh5 := blk_frozen BH.out 5; have hh6 := (blk_cell BH.out 6).trans (rfl : _ = some (.int .i64 s_ : Value)); have fh6 := blk_frozen BH.out 6; have hh7 := (blk_cell BH.out 7).trans (rfl : _ = some (.int .u8 48 : Value)); have fh7 := blk_frozen BH.out 7; have hh8 := (blk_cell BH.out 8).trans (rfl : _ = some (.string k_ : Value)); have fh8 := blk_frozen BH.out 8))
        refine bodyPost_ret (results_ct rfl _ _ gg 43 #[.string p_, .string n_, .int .i64 m_, .int .i64 u_, .int .i64 g_, .int .i64 t_, .int .i64 s_, .int .u8 48, .string k_] (0, 0) _ rfl (by have h_ := (blk_set (blk_set (blk_set (blk_set (blk_set (blk_set (blk_set (blk_set (blk_set BG.out 0 (.string p_)) 1 (.string n_)) 2 (.int .i64 m_)) 3 (.int .i64 u_)) 4 (.int .i64 g_)) 5 (.int .i64 t_)) 6 (.int .i64 s_)) 7 (.int .u8 48)) 8 (.string k_)); exact h_) Tryz.underlying43 rfl (by kernel_rfl)) rfl ?_
        exact ⟨rfl, (by repeat (first | (with_reducible first | exact HB.out | apply below_alloc | apply pw_below_drewN | apply below_drew1 | refine below_set ?_ GG.out | refine below_set ?_ GH.out) | exact HB.out))⟩
  · have bz : (x7 == 0) = false := beq_eq_false_iff_ne.2 cz
    have HZ := Aside0.mk cz
    clear cz
    have h := HH.out
    clear HH
    rw [if_neg HZ.out] at h
    have hh0 := (blk_cell BH.out 0).trans (rfl : _ = some (.string p_ : Value))
    have fh0 := blk_frozen BH.out 0
    have hh1 := (blk_cell BH.out 1).trans (rfl : _ = some (.string n_ : Value))
    have fh1 := blk_frozen BH.out 1
    have hh2 := (blk_cell BH.out 2).trans (rfl : _ = some (.int .i64 m_ : Value))
    have fh2 := blk_frozen BH.out 2
    have hh3 := (blk_cell BH.out 3).trans (rfl : _ = some (.int .i64 u_ : Value))
    have fh3 := blk_frozen BH.out 3
    have hh4 := (blk_cell BH.out 4).trans (rfl : _ = some (.int .i64 g_ : Value))
    have fh4 := blk_frozen BH.out 4
    have hh5 := (blk_cell BH.out 5).trans (rfl : _ = some (.int .i64 0 : Value))
    have fh5 := blk_frozen BH.out 5
    have hh6 := (blk_cell BH.out 6).trans (rfl : _ = some (.int .i64 s_ : Value))
    have fh6 := blk_frozen BH.out 6
    have hh7 := (blk_cell BH.out 7).trans (rfl : _ = some (.int .u8 x7 : Value))
    have fh7 := blk_frozen BH.out 7
    have hh8 := (blk_cell BH.out 8).trans (rfl : _ = some (.string k_ : Value))
    have fh8 := blk_frozen BH.out 8
    have hg0 := (blk_cell BG.out 0).trans (rfl : _ = some (.string (⟨#[]⟩ : ByteArray) : Value))
    have fg0 := blk_frozen BG.out 0
    have hg1 := (blk_cell BG.out 1).trans (rfl : _ = some (.string (⟨#[]⟩ : ByteArray) : Value))
    have fg1 := blk_frozen BG.out 1
    have hg2 := (blk_cell BG.out 2).trans (rfl : _ = some (.int .i64 0 : Value))
    have fg2 := blk_frozen BG.out 2
    have hg3 := (blk_cell BG.out 3).trans (rfl : _ = some (.int .i64 0 : Value))
    have fg3 := blk_frozen BG.out 3
    have hg4 := (blk_cell BG.out 4).trans (rfl : _ = some (.int .i64 0 : Value))
    have fg4 := blk_frozen BG.out 4
    have hg5 := (blk_cell BG.out 5).trans (rfl : _ = some (.int .i64 0 : Value))
    have fg5 := blk_frozen BG.out 5
    have hg6 := (blk_cell BG.out 6).trans (rfl : _ = some (.int .i64 0 : Value))
    have fg6 := blk_frozen BG.out 6
    have hg7 := (blk_cell BG.out 7).trans (rfl : _ = some (.int .u8 0 : Value))
    have fg7 := blk_frozen BG.out 7
    have hg8 := (blk_cell BG.out 8).trans (rfl : _ = some (.string (⟨#[]⟩ : ByteArray) : Value))
    have fg8 := blk_frozen BG.out 8
    have hr1 := (blk_cell BR.out 1).trans (rfl : _ = some (.int .i64 E8 : Value))
    by_cases cE : ¬ E8 = 0
    · rw [if_neg cE] at h
      unfold noHead at h
      simp only [Option.some.injEq, Prod.mk.injEq] at h
      obtain ⟨rfl, rfl, rfl, rfl, rfl, rfl, rfl, rfl, rfl, rfl⟩ := h
      have b1 : (E8 != 0) = true := bne_iff_ne.2 cE
      clear cE
      have BX := Aside0.mk (show (World.setCell w13 ⟨gh, 5, none⟩ (.int .i64 t_)).heap[gg]? = some (.cells #[.string (⟨#[]⟩ : ByteArray), .string (⟨#[]⟩ : ByteArray), .int .i64 0, .int .i64 0, .int .i64 0, .int .i64 0, .int .i64 0, .int .u8 0, .string (⟨#[]⟩ : ByteArray)] 43 (0, 0)) from (blk_far BG.out (p := ⟨gh, 5, none⟩) NGH.out (.int .i64 t_)))
      have xg0 := (blk_cell BX.out 0).trans (rfl : _ = some (.string (⟨#[]⟩ : ByteArray) : Value))
      have xf0 := blk_frozen BX.out 0
      have xg1 := (blk_cell BX.out 1).trans (rfl : _ = some (.string (⟨#[]⟩ : ByteArray) : Value))
      have xf1 := blk_frozen BX.out 1
      have xg2 := (blk_cell BX.out 2).trans (rfl : _ = some (.int .i64 0 : Value))
      have xf2 := blk_frozen BX.out 2
      have xg3 := (blk_cell BX.out 3).trans (rfl : _ = some (.int .i64 0 : Value))
      have xf3 := blk_frozen BX.out 3
      have xg4 := (blk_cell BX.out 4).trans (rfl : _ = some (.int .i64 0 : Value))
      have xf4 := blk_frozen BX.out 4
      have xg5 := (blk_cell BX.out 5).trans (rfl : _ = some (.int .i64 0 : Value))
      have xf5 := blk_frozen BX.out 5
      have xg6 := (blk_cell BX.out 6).trans (rfl : _ = some (.int .i64 0 : Value))
      have xf6 := blk_frozen BX.out 6
      have xg7 := (blk_cell BX.out 7).trans (rfl : _ = some (.int .u8 0 : Value))
      have xf7 := blk_frozen BX.out 7
      have xg8 := (blk_cell BX.out 8).trans (rfl : _ = some (.string (⟨#[]⟩ : ByteArray) : Value))
      have xf8 := blk_frozen BX.out 8
      clear hg0 fg0 hh0 fh0 hg1 fg1 hh1 fh1 hg2 fg2 hh2 fh2 hg3 fg3 hh3 fh3 hg4 fg4 hh4 fh4 hg6 fg6 hh6 fh6 hg8 fg8 hh8 fh8 hg5 fg5 hg7 fg7
      go_wp2
      have n0_ := Aside0.mk (below_drew1 (show Below w.heap.size w (World.setCell w13 ⟨gh, 5, none⟩ (.int .i64 t_)) from (below_set (j := 5) (v := .int .i64 t_) HB.out GH.out)))
      have n1_ : Aside0 ((World.drew (World.setCell w13 ⟨gh, 5, none⟩ (.int .i64 t_))).heap[gg]? = some (.cells #[.string (⟨#[]⟩ : ByteArray), .string (⟨#[]⟩ : ByteArray), .int .i64 0, .int .i64 0, .int .i64 0, .int .i64 0, .int .i64 0, .int .u8 0, .string (⟨#[]⟩ : ByteArray)] 43 (0, 0))) := ⟨blk_drew BX.out⟩
      have n2_ : Aside0 ((World.drew (World.setCell w13 ⟨gh, 5, none⟩ (.int .i64 t_))).heap[gr]? = some (.cells #[.slice (some ⟨ab, ao, none⟩) l0.length c0, .int .i64 E8] 75 (0, 0))) := ⟨blk_drew (blk_far BR.out (p := ⟨gh, 5, none⟩) NRH.out (.int .i64 t_))⟩
      clear HB BG BR BX
      have HB := n0_
      have BG := n1_
      have BR := n2_
      clear n0_ n1_ n2_ xg0 xf0 xg1 xf1 xg2 xf2 xg3 xf3 xg4 xf4 xg5 xf5 xg6 xf6 xg7 xf7 xg8 xf8
      refine start_ (n := 7) (S := fun w' => w'.cell? ⟨gr, 1, none⟩ = some (.int .i64 E8)) (ds := []) #[false, false, false, false, false, false, false] (by kernel_rfl) rfl rfl ((blk_cell BR.out 1).trans rfl) (fun hHeld => ?_)
      generalize World.drew (World.setCell w13 ⟨gh, 5, none⟩ (.int .i64 t_)) = wx at HB BG BR hHeld ⊢
      have xg0 := (blk_cell BG.out 0).trans (rfl : _ = some (.string (⟨#[]⟩ : ByteArray) : Value))
      have xf0 := blk_frozen BG.out 0
      have xg1 := (blk_cell BG.out 1).trans (rfl : _ = some (.string (⟨#[]⟩ : ByteArray) : Value))
      have xf1 := blk_frozen BG.out 1
      have xg2 := (blk_cell BG.out 2).trans (rfl : _ = some (.int .i64 0 : Value))
      have xf2 := blk_frozen BG.out 2
      have xg3 := (blk_cell BG.out 3).trans (rfl : _ = some (.int .i64 0 : Value))
      have xf3 := blk_frozen BG.out 3
      have xg4 := (blk_cell BG.out 4).trans (rfl : _ = some (.int .i64 0 : Value))
      have xf4 := blk_frozen BG.out 4
      have xg5 := (blk_cell BG.out 5).trans (rfl : _ = some (.int .i64 0 : Value))
      have xf5 := blk_frozen BG.out 5
      have xg6 := (blk_cell BG.out 6).trans (rfl : _ = some (.int .i64 0 : Value))
      have xf6 := blk_frozen BG.out 6
      have xg7 := (blk_cell BG.out 7).trans (rfl : _ = some (.int .u8 0 : Value))
      have xf7 := blk_frozen BG.out 7
      have xg8 := (blk_cell BG.out 8).trans (rfl : _ = some (.string (⟨#[]⟩ : ByteArray) : Value))
      have xf8 := blk_frozen BG.out 8
      refine pure_ (i := 0) (N := some 65) (v := ?_) (a' := ?_) #[true, false, false, false, false, false, false] rfl rfl (by kernel_rfl) (fun _ _ _ h => h) (Or.inl ⟨by rfl, ?_⟩) ?_ ?_
      rotate_left
      · intro w'
        go_simp
        with_reducible rfl
      rotate_left
      · simp only [Act.put, List.setIfInBounds_toArray, List.set_cons_zero, List.set_cons_succ, i64_w, i32_w]
        rfl
      refine pure_ (i := 1) (N := some 66) (v := ?_) (a' := ?_) #[true, true, false, false, false, false, false] rfl rfl (by kernel_rfl) (fun _ _ _ h => h) (Or.inl ⟨by rfl, ?_⟩) ?_ ?_
      rotate_left
      · intro w'
        go_simp
        with_reducible rfl
      rotate_left
      · simp only [Act.put, List.setIfInBounds_toArray, List.set_cons_zero, List.set_cons_succ, i64_w, i32_w]
        rfl
      refine pure_ (i := 2) (N := some 67) (v := ?_) (a' := ?_) #[true, true, true, false, false, false, false] rfl rfl (by kernel_rfl) (fun _ _ _ h => h) (Or.inl ⟨by rfl, ?_⟩) ?_ ?_
      rotate_left
      · intro w'
        go_simp
        with_reducible rfl
      rotate_left
      · simp only [Act.put, List.setIfInBounds_toArray, List.set_cons_zero, List.set_cons_succ, i64_w, i32_w]
        rfl
      refine pure_ (i := 3) (N := some 68) (v := ?_) (a' := ?_) #[true, true, true, true, false, false, false] rfl rfl (by kernel_rfl) (fun _ _ _ h => h) (Or.inl ⟨by rfl, ?_⟩) ?_ ?_
      rotate_left
      · intro w'
        go_simp
        with_reducible rfl
      rotate_left
      · simp only [Act.put, List.setIfInBounds_toArray, List.set_cons_zero, List.set_cons_succ, i64_w, i32_w]
        rfl
      refine take_ (i := 4) (N := some 69) (v := ?_) (a' := ?_) #[true, true, true, true, true, false, false] rfl rfl (by kernel_rfl) (fun _ _ _ h => h) (Or.inl ⟨by rfl, ?_⟩) hHeld ?_ ?_
      rotate_left
      · intro w' s0
        go_simp
        with_reducible rfl
      rotate_left
      · simp only [Act.put, List.setIfInBounds_toArray, List.set_cons_zero, List.set_cons_succ, i64_w, i32_w]
        rfl
      refine one_ (i := 5) (N := none) #[true, true, true, true, true, true, false] rfl rfl (by kernel_rfl) (by decide) (fun K hK => ?_)
      refine skip_ (w1 := ?_) (by rfl) rfl ?_ ?_
      rotate_left
      · go_simp
        rfl
      refine hK.out _ _ ((blk_cell (blk_far (blk_far (blk_far (blk_far (blk_far (blk_far (blk_far (blk_far (blk_far BR.out (p := ⟨gg, 0, none⟩) NRG.out.symm (.string (⟨#[]⟩ : ByteArray))) (p := ⟨gg, 1, none⟩) NRG.out.symm (.string (⟨#[]⟩ : ByteArray))) (p := ⟨gg, 2, none⟩) NRG.out.symm (.int .i64 0)) (p := ⟨gg, 3, none⟩) NRG.out.symm (.int .i64 0)) (p := ⟨gg, 4, none⟩) NRG.out.symm (.int .i64 0)) (p := ⟨gg, 5, none⟩) NRG.out.symm (.int .i64 0)) (p := ⟨gg, 6, none⟩) NRG.out.symm (.int .i64 0)) (p := ⟨gg, 7, none⟩) NRG.out.symm (.int .u8 0)) (p := ⟨gg, 8, none⟩) NRG.out.symm (.string (⟨#[]⟩ : ByteArray))) 1).trans rfl) (fun hHeld => ?_)
      clear hK K
      refine pure_ (i := 6) (N := some 3) (v := ?_) (a' := ?_) #[true, true, true, true, true, true, true] rfl rfl (by kernel_rfl) (fun _ _ _ h => h) (Or.inl ⟨by rfl, ?_⟩) ?_ ?_
      rotate_left
      · intro w'
        go_simp
        with_reducible rfl
      rotate_left
      · simp only [Act.put, List.setIfInBounds_toArray, List.set_cons_zero, List.set_cons_succ, i64_w, i32_w]
        rfl
      refine done_ (by kernel_rfl) ?_
      go_wp2
      refine bodyPost_ret (results_ct rfl _ _ gg 43 #[.string (⟨#[]⟩ : ByteArray), .string (⟨#[]⟩ : ByteArray), .int .i64 0, .int .i64 0, .int .i64 0, .int .i64 0, .int .i64 0, .int .u8 0, .string (⟨#[]⟩ : ByteArray)] (0, 0) _ rfl (by have h_ := (blk_set (blk_set (blk_set (blk_set (blk_set (blk_set (blk_set (blk_set (blk_set BG.out 0 (.string (⟨#[]⟩ : ByteArray))) 1 (.string (⟨#[]⟩ : ByteArray))) 2 (.int .i64 0)) 3 (.int .i64 0)) 4 (.int .i64 0)) 5 (.int .i64 0)) 6 (.int .i64 0)) 7 (.int .u8 0)) 8 (.string (⟨#[]⟩ : ByteArray))); exact h_) Tryz.underlying43 rfl (by kernel_rfl)) rfl ?_
      exact ⟨rfl, (by repeat (first | (with_reducible first | exact HB.out | apply below_alloc | apply pw_below_drewN | apply below_drew1 | refine below_set ?_ GG.out | refine below_set ?_ GH.out) | exact HB.out))⟩
    have cE' := Decidable.of_not_not cE
    subst cE'
    clear cE
    rw [if_pos rfl] at h
    obtain ⟨b, hT, h⟩ := Option.bind_eq_some_iff.1 h
    have HT := Aside0.mk hT
    clear hT
    cases b with
    | false =>
      rw [if_neg (by decide)] at h
      unfold noHead at h
      simp only [Option.some.injEq, Prod.mk.injEq] at h
      obtain ⟨rfl, rfl, rfl, rfl, rfl, rfl, rfl, rfl, rfl, rfl⟩ := h
      go_wp2_with ((go_at_call 38; (with_reducible refine (head_IsType.calls x7 false _ HT.out).mono ?_); rintro e w14 ⟨rfl, hd⟩; have hb := drawn_below hd; have n0_ := Aside0.mk (below_step (by repeat (first | (with_reducible first | exact HB.out | apply below_alloc | apply pw_below_drewN | apply below_drew1 | refine below_set ?_ GG.out | refine below_set ?_ GH.out) | exact HB.out)) hb); have n1_ := Aside0.mk (blk_below (g := gg) (o := .cells #[.string (⟨#[]⟩ : ByteArray), .string (⟨#[]⟩ : ByteArray), .int .i64 0, .int .i64 0, .int .i64 0, .int .i64 0, .int .i64 0, .int .u8 0, .string (⟨#[]⟩ : ByteArray)] 43 (0, 0)) (by have h_ := (blk_far BG.out (p := ⟨gh, 5, none⟩) NGH.out (.int .i64 t_)); exact h_) hb); clear HB BG hb hd; have HB := n0_; have BG := n1_; clear n0_ n1_; have hg0 := (blk_cell BG.out 0).trans (rfl : _ = some (.string (⟨#[]⟩ : ByteArray) : Value)); have fg0 := blk_frozen BG.out 0; have hg1 := (blk_cell BG.out 1).trans (rfl : _ = some (.string (⟨#[]⟩ : ByteArray) : Value)); have fg1 := blk_frozen BG.out 1; have hg2 := (blk_cell BG.out 2).trans (rfl : _ = some (.int .i64 0 : Value)); have fg2 := blk_frozen BG.out 2; have hg3 := (blk_cell BG.out 3).trans (rfl : _ = some (.int .i64 0 : Value)); have fg3 := blk_frozen BG.out 3; have hg4 := (blk_cell BG.out 4).trans (rfl : _ = some (.int .i64 0 : Value)); have fg4 := blk_frozen BG.out 4; have hg5 := (blk_cell BG.out 5).trans (rfl : _ = some (.int .i64 0 : Value)); have fg5 := blk_frozen BG.out 5; have hg6 := (blk_cell BG.out 6).trans (rfl : _ = some (.int .i64 0 : Value)); have fg6 := blk_frozen BG.out 6; have hg7 := (blk_cell BG.out 7).trans (rfl : _ = some (.int .u8 0 : Value)); have fg7 := blk_frozen BG.out 7; have hg8 := (blk_cell BG.out 8).trans (rfl : _ = some (.string (⟨#[]⟩ : ByteArray) : Value)); have fg8 := blk_frozen BG.out 8))
      refine bodyPost_ret (results_ct rfl _ _ gg 43 #[.string (⟨#[]⟩ : ByteArray), .string (⟨#[]⟩ : ByteArray), .int .i64 0, .int .i64 0, .int .i64 0, .int .i64 0, .int .i64 0, .int .u8 0, .string (⟨#[]⟩ : ByteArray)] (0, 0) _ rfl (by have h_ := (blk_set (blk_set (blk_set (blk_set (blk_set (blk_set (blk_set (blk_set (blk_set BG.out 0 (.string (⟨#[]⟩ : ByteArray))) 1 (.string (⟨#[]⟩ : ByteArray))) 2 (.int .i64 0)) 3 (.int .i64 0)) 4 (.int .i64 0)) 5 (.int .i64 0)) 6 (.int .i64 0)) 7 (.int .u8 0)) 8 (.string (⟨#[]⟩ : ByteArray))); exact h_) Tryz.underlying43 rfl (by kernel_rfl)) rfl ?_
      exact ⟨rfl, (by repeat (first | (with_reducible first | exact HB.out | apply below_alloc | apply pw_below_drewN | apply below_drew1 | refine below_set ?_ GG.out | refine below_set ?_ GH.out) | exact HB.out))⟩
    | true =>
      rw [if_pos rfl] at h
      obtain ⟨c, hB, h⟩ := Option.bind_eq_some_iff.1 h
      have HBw := Aside0.mk hB
      clear hB
      cases c with
      | true =>
        rw [if_pos rfl] at h
        unfold noHead at h
        simp only [Option.some.injEq, Prod.mk.injEq] at h
        obtain ⟨rfl, rfl, rfl, rfl, rfl, rfl, rfl, rfl, rfl, rfl⟩ := h
        go_wp2_with (first | (go_at_call 38; (with_reducible refine (head_IsType.calls x7 true _ HT.out).mono ?_); rintro e w' ⟨rfl, ⟨nd, rfl⟩⟩) | (go_at_call 39; (with_reducible refine (head_below.calls p_ n_ m_ u_ g_ t_ s_ x7 k_ true _ HBw.out).mono ?_); rintro e w14 ⟨rfl, hb⟩; have n0_ := Aside0.mk (below_step (by repeat (first | (with_reducible first | exact HB.out | apply below_alloc | apply pw_below_drewN | apply below_drew1 | refine below_set ?_ GG.out | refine below_set ?_ GH.out) | exact HB.out)) hb); have n1_ := Aside0.mk (blk_below (g := gg) (o := .cells #[.string (⟨#[]⟩ : ByteArray), .string (⟨#[]⟩ : ByteArray), .int .i64 0, .int .i64 0, .int .i64 0, .int .i64 0, .int .i64 0, .int .u8 0, .string (⟨#[]⟩ : ByteArray)] 43 (0, 0)) (by have h_ := (blk_far BG.out (p := ⟨gh, 5, none⟩) NGH.out (.int .i64 t_)); exact h_) hb); have n2_ := Aside0.mk (blk_below (g := gh) (o := .cells #[.string p_, .string n_, .int .i64 m_, .int .i64 u_, .int .i64 g_, .int .i64 t_, .int .i64 s_, .int .u8 x7, .string k_] 43 (0, 0)) (by have h_ := (blk_set BH.out 5 (.int .i64 t_)); exact h_) hb); clear HB BG BH hb; have HB := n0_; have BG := n1_; have BH := n2_; clear n0_ n1_ n2_; have hg0 := (blk_cell BG.out 0).trans (rfl : _ = some (.string (⟨#[]⟩ : ByteArray) : Value)); have fg0 := blk_frozen BG.out 0; have hg1 := (blk_cell BG.out 1).trans (rfl : _ = some (.string (⟨#[]⟩ : ByteArray) : Value)); have fg1 := blk_frozen BG.out 1; have hg2 := (blk_cell BG.out 2).trans (rfl : _ = some (.int .i64 0 : Value)); have fg2 := blk_frozen BG.out 2; have hg3 := (blk_cell BG.out 3).trans (rfl : _ = some (.int .i64 0 : Value)); have fg3 := blk_frozen BG.out 3; have hg4 := (blk_cell BG.out 4).trans (rfl : _ = some (.int .i64 0 : Value)); have fg4 := blk_frozen BG.out 4; have hg5 := (blk_cell BG.out 5).trans (rfl : _ = some (.int .i64 0 : Value)); have fg5 := blk_frozen BG.out 5; have hg6 := (blk_cell BG.out 6).trans (rfl : _ = some (.int .i64 0 : Value)); have fg6 := blk_frozen BG.out 6; have hg7 := (blk_cell BG.out 7).trans (rfl : _ = some (.int .u8 0 : Value)); have fg7 := blk_frozen BG.out 7; have hg8 := (blk_cell BG.out 8).trans (rfl : _ = some (.string (⟨#[]⟩ : ByteArray) : Value)); have fg8 := blk_frozen BG.out 8; have hh0 := (blk_cell BH.out 0).trans (rfl : _ = some (.string p_ : Value)); have fh0 := blk_frozen BH.out 0; have hh1 := (blk_cell BH.out 1).trans (rfl : _ = some (.string n_ : Value)); have fh1 := blk_frozen BH.out 1; have hh2 := (blk_cell BH.out 2).trans (rfl : _ = some (.int .i64 m_ : Value)); have fh2 := blk_frozen BH.out 2; have hh3 := (blk_cell BH.out 3).trans (rfl : _ = some (.int .i64 u_ : Value)); have fh3 := blk_frozen BH.out 3; have hh4 := (blk_cell BH.out 4).trans (rfl : _ = some (.int .i64 g_ : Value)); have fh4 := blk_frozen BH.out 4; have hh5 := (blk_cell BH.out 5).trans (rfl : _ = some (.int .i64 t_ : Value)); have fh5 := blk_frozen BH.out 5; have hh6 := (blk_cell BH.out 6).trans (rfl : _ = some (.int .i64 s_ : Value)); have fh6 := blk_frozen BH.out 6; have hh7 := (blk_cell BH.out 7).trans (rfl : _ = some (.int .u8 x7 : Value)); have fh7 := blk_frozen BH.out 7; have hh8 := (blk_cell BH.out 8).trans (rfl : _ = some (.string k_ : Value)); have fh8 := blk_frozen BH.out 8))
        refine bodyPost_ret (results_ct rfl _ _ gg 43 #[.string (⟨#[]⟩ : ByteArray), .string (⟨#[]⟩ : ByteArray), .int .i64 0, .int .i64 0, .int .i64 0, .int .i64 0, .int .i64 0, .int .u8 0, .string (⟨#[]⟩ : ByteArray)] (0, 0) _ rfl (by have h_ := (blk_set (blk_set (blk_set (blk_set (blk_set (blk_set (blk_set (blk_set (blk_set BG.out 0 (.string (⟨#[]⟩ : ByteArray))) 1 (.string (⟨#[]⟩ : ByteArray))) 2 (.int .i64 0)) 3 (.int .i64 0)) 4 (.int .i64 0)) 5 (.int .i64 0)) 6 (.int .i64 0)) 7 (.int .u8 0)) 8 (.string (⟨#[]⟩ : ByteArray))); exact h_) Tryz.underlying43 rfl (by kernel_rfl)) rfl ?_
        exact ⟨rfl, (by repeat (first | (with_reducible first | exact HB.out | apply below_alloc | apply pw_below_drewN | apply below_drew1 | refine below_set ?_ GG.out | refine below_set ?_ GH.out) | exact HB.out))⟩
      | false =>
        rw [if_neg (by decide)] at h
        simp only [Option.some.injEq, Prod.mk.injEq] at h
        obtain ⟨rfl, rfl, rfl, rfl, rfl, rfl, rfl, rfl, rfl, rfl⟩ := h
        go_wp2_with (first | (go_at_call 38; (with_reducible refine (head_IsType.calls x7 true _ HT.out).mono ?_); rintro e w' ⟨rfl, ⟨nd, rfl⟩⟩) | (go_at_call 39; (with_reducible refine (head_below.calls p_ n_ m_ u_ g_ t_ s_ x7 k_ false _ HBw.out).mono ?_); rintro e w14 ⟨rfl, hb⟩; have n0_ := Aside0.mk (below_step (by repeat (first | (with_reducible first | exact HB.out | apply below_alloc | apply pw_below_drewN | apply below_drew1 | refine below_set ?_ GG.out | refine below_set ?_ GH.out) | exact HB.out)) hb); have n1_ := Aside0.mk (blk_below (g := gg) (o := .cells #[.string (⟨#[]⟩ : ByteArray), .string (⟨#[]⟩ : ByteArray), .int .i64 0, .int .i64 0, .int .i64 0, .int .i64 0, .int .i64 0, .int .u8 0, .string (⟨#[]⟩ : ByteArray)] 43 (0, 0)) (by have h_ := (blk_far BG.out (p := ⟨gh, 5, none⟩) NGH.out (.int .i64 t_)); exact h_) hb); have n2_ := Aside0.mk (blk_below (g := gh) (o := .cells #[.string p_, .string n_, .int .i64 m_, .int .i64 u_, .int .i64 g_, .int .i64 t_, .int .i64 s_, .int .u8 x7, .string k_] 43 (0, 0)) (by have h_ := (blk_set BH.out 5 (.int .i64 t_)); exact h_) hb); clear HB BG BH hb; have HB := n0_; have BG := n1_; have BH := n2_; clear n0_ n1_ n2_; have hg0 := (blk_cell BG.out 0).trans (rfl : _ = some (.string (⟨#[]⟩ : ByteArray) : Value)); have fg0 := blk_frozen BG.out 0; have hg1 := (blk_cell BG.out 1).trans (rfl : _ = some (.string (⟨#[]⟩ : ByteArray) : Value)); have fg1 := blk_frozen BG.out 1; have hg2 := (blk_cell BG.out 2).trans (rfl : _ = some (.int .i64 0 : Value)); have fg2 := blk_frozen BG.out 2; have hg3 := (blk_cell BG.out 3).trans (rfl : _ = some (.int .i64 0 : Value)); have fg3 := blk_frozen BG.out 3; have hg4 := (blk_cell BG.out 4).trans (rfl : _ = some (.int .i64 0 : Value)); have fg4 := blk_frozen BG.out 4; have hg5 := (blk_cell BG.out 5).trans (rfl : _ = some (.int .i64 0 : Value)); have fg5 := blk_frozen BG.out 5; have hg6 := (blk_cell BG.out 6).trans (rfl : _ = some (.int .i64 0 : Value)); have fg6 := blk_frozen BG.out 6; have hg7 := (blk_cell BG.out 7).trans (rfl : _ = some (.int .u8 0 : Value)); have fg7 := blk_frozen BG.out 7; have hg8 := (blk_cell BG.out 8).trans (rfl : _ = some (.string (⟨#[]⟩ : ByteArray) : Value)); have fg8 := blk_frozen BG.out 8; have hh0 := (blk_cell BH.out 0).trans (rfl : _ = some (.string p_ : Value)); have fh0 := blk_frozen BH.out 0; have hh1 := (blk_cell BH.out 1).trans (rfl : _ = some (.string n_ : Value)); have fh1 := blk_frozen BH.out 1; have hh2 := (blk_cell BH.out 2).trans (rfl : _ = some (.int .i64 m_ : Value)); have fh2 := blk_frozen BH.out 2; have hh3 := (blk_cell BH.out 3).trans (rfl : _ = some (.int .i64 u_ : Value)); have fh3 := blk_frozen BH.out 3; have hh4 := (blk_cell BH.out 4).trans (rfl : _ = some (.int .i64 g_ : Value)); have fh4 := blk_frozen BH.out 4; have hh5 := (blk_cell BH.out 5).trans (rfl : _ = some (.int .i64 t_ : Value)); have fh5 := blk_frozen BH.out 5; have hh6 := (blk_cell BH.out 6).trans (rfl : _ = some (.int .i64 s_ : Value)); have fh6 := blk_frozen BH.out 6; have hh7 := (blk_cell BH.out 7).trans (rfl : _ = some (.int .u8 x7 : Value)); have fh7 := blk_frozen BH.out 7; have hh8 := (blk_cell BH.out 8).trans (rfl : _ = some (.string k_ : Value)); have fh8 := blk_frozen BH.out 8))
        refine bodyPost_ret (results_ct rfl _ _ gg 43 #[.string p_, .string n_, .int .i64 m_, .int .i64 u_, .int .i64 g_, .int .i64 t_, .int .i64 s_, .int .u8 x7, .string k_] (0, 0) _ rfl (by have h_ := (blk_set (blk_set (blk_set (blk_set (blk_set (blk_set (blk_set (blk_set (blk_set BG.out 0 (.string p_)) 1 (.string n_)) 2 (.int .i64 m_)) 3 (.int .i64 u_)) 4 (.int .i64 g_)) 5 (.int .i64 t_)) 6 (.int .i64 s_)) 7 (.int .u8 x7)) 8 (.string k_)); exact h_) Tryz.underlying43 rfl (by kernel_rfl)) rfl ?_
        exact ⟨rfl, (by repeat (first | (with_reducible first | exact HB.out | apply below_alloc | apply pw_below_drewN | apply below_drew1 | refine below_set ?_ GG.out | refine below_set ?_ GH.out) | exact HB.out))⟩
end Go.Proofs.YtjidenkhgeoaiaaGreatDoor.Hand

-- HHead2m
/- head.Parse: more rounds give the same answer. -/
namespace Go.Proofs.YtjidenkhgeoaiaaGreatDoor.Hand
open Go.RowKit Go.Proofs.YtjidenkhgeoaiaaGreatDoor.P Go.Proofs.YtjidenkhgeoaiaaGreatDoorW Go.Proofs.YtjidenkhgeoaiaaGreatDoorW.PrintWords Go.Proofs.YtjidenkhgeoaiaaGreatDoorW.PrintLast Go.Proofs.YtjidenkhgeoaiaaGreatDoorW.PrintMore
set_option linter.unusedVariables false
set_option linter.unusedSimpArgs false
theorem head_Parse.mono : ∀ l k, LeO (head_Parse.f k l) (head_Parse.f (k + 1) l) := by
  intro l k
  unfold head_Parse.f
  exact LeO.bind (hsum_Check.mono _ _) (fun _ => LeO.refl _)
end Go.Proofs.YtjidenkhgeoaiaaGreatDoor.Hand
