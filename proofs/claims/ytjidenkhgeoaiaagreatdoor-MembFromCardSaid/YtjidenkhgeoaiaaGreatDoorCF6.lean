import Derived.Test.YtjidenkhgeoaiaaGreatDoorCF5
namespace Go.Proofs.YtjidenkhgeoaiaaGreatDoor.P
open Go.RowKit Go.Proofs.YtjidenkhgeoaiaaGreatDoorW.PrintWords Go.Proofs.YtjidenkhgeoaiaaGreatDoorW.PrintLast Go.Proofs.YtjidenkhgeoaiaaGreatDoorW.PrintMore Go.Proofs.YtjidenkhgeoaiaaGreatDoor.Hand
attribute [local go_sem] max2_int min2_int max_two min_two max_three min_three max_four min_four   -- for this text's walks alone
set_option linter.unusedVariables false
set_option linter.unusedSimpArgs false

/-! ### thwartref08_From: function 12 -/
mutual
def thwartref08_From.j0 : Nat → List (S34) → List Int → ByteArray → Int → Int → Int → Int → Int → ByteArray → Option (ByteArray × Int × Int × Int × Int × Int × ByteArray × List Int × Int)
 | 0, _, _, _, _, _, _, _, _, _ => none
 | k + 1, x1, x2, x306000, x306001, x306002, x306003, x306004, x306005, x306006 => (thwartref06_Find.f k x1 (⟨#[108, 105, 110, 107, 112, 97, 116, 104]⟩ : ByteArray)).bind fun bt308 => (if bt308.2 = true then (thwartref08_From.j1 k x2 x306000 x306001 x306002 x306003 x306004 x306005 bt308.1) else (thwartref08_From.j1 k x2 x306000 x306001 x306002 x306003 x306004 x306005 x306006))
def thwartref08_From.j1 : Nat → List Int → ByteArray → Int → Int → Int → Int → Int → ByteArray → Option (ByteArray × Int × Int × Int × Int × Int × ByteArray × List Int × Int)
 | 0, _, _, _, _, _, _, _, _ => none
 | k + 1, x2, x306000, x306001, x306002, x306003, x306004, x306005, x306006 => if x306001 = 1 then (thwartref08_From.j2 k x2 true x306000 x306001 x306002 x306003 x306004 x306005 x306006) else (thwartref08_From.j2 k x2 (x306001 == 4) x306000 x306001 x306002 x306003 x306004 x306005 x306006)
def thwartref08_From.j2 : Nat → List Int → Bool → ByteArray → Int → Int → Int → Int → Int → ByteArray → Option (ByteArray × Int × Int × Int × Int × Int × ByteArray × List Int × Int)
 | 0, _, _, _, _, _, _, _, _, _ => none
 | k + 1, x2, x54, x306000, x306001, x306002, x306003, x306004, x306005, x306006 => if x54 = true then (thwartref08_From.j3 k x2 x306000 x306001 x306002 x306003 x306004 x306005 (⟨#[]⟩ : ByteArray)) else (thwartref08_From.j3 k x2 x306000 x306001 x306002 x306003 x306004 x306005 x306006)
def thwartref08_From.j3 : Nat → List Int → ByteArray → Int → Int → Int → Int → Int → ByteArray → Option (ByteArray × Int × Int × Int × Int × Int × ByteArray × List Int × Int)
 | 0, _, _, _, _, _, _, _, _ => none
 | k + 1, x2, x306000, x306001, x306002, x306003, x306004, x306005, x306006 => if x306001 = 1 then ((thwartref08_May.f k x306000 x306001 x306002 x306003 x306004 x306005 x306006 x2).bind fun t310 => (if t310 = 0 then (some (x306000, x306001, x306002, x306003, x306004, x306005, x306006, x2, 0)) else (some ((⟨#[]⟩ : ByteArray), 0, 0, 0, 0, 0, (⟨#[]⟩ : ByteArray), ([] : List Int), t310)))) else ((thwartref08_May.f k x306000 x306001 x306002 x306003 x306004 x306005 x306006 ([] : List Int)).bind fun t311 => (if t311 = 0 then (some (x306000, x306001, x306002, x306003, x306004, x306005, x306006, ([] : List Int), 0)) else (some ((⟨#[]⟩ : ByteArray), 0, 0, 0, 0, 0, (⟨#[]⟩ : ByteArray), ([] : List Int), t311))))
end
def thwartref08_From.f (k : Nat) (a0_0 : ByteArray) (a0_1 : ByteArray) (a0_2 : Int) (a0_3 : Int) (a0_4 : Int) (a0_5 : Int) (a0_6 : Int) (a0_7 : Int) (a0_8 : ByteArray) (l1 : List (S34)) (l2 : List Int) : Option (ByteArray × Int × Int × Int × Int × Int × ByteArray × List Int × Int) := (thwartref02_Join.f a0_0 a0_1).bind fun t303 => ((thwartref08_Kind.f k a0_7).bind fun t304 => (if t304 = 0 then (some ((⟨#[]⟩ : ByteArray), 0, 0, 0, 0, 0, (⟨#[]⟩ : ByteArray), ([] : List Int), 11)) else ((thwartref06_Find.f k l1 (⟨#[112, 97, 116, 104]⟩ : ByteArray)).bind fun bt306 => (if bt306.2 = true then (thwartref08_From.j0 k l1 l2 bt306.1 t304 a0_2 a0_3 a0_4 a0_5 a0_8) else (thwartref08_From.j0 k l1 l2 t303 t304 a0_2 a0_3 a0_4 a0_5 a0_8)))))
theorem thwartref08_From.mono_l : ∀ k, (∀ y0 y1 y2 y3 y4 y5 y6 y7 y8, LeO (thwartref08_From.j0 k y0 y1 y2 y3 y4 y5 y6 y7 y8) (thwartref08_From.j0 (k + 1) y0 y1 y2 y3 y4 y5 y6 y7 y8)) ∧ (∀ y0 y1 y2 y3 y4 y5 y6 y7, LeO (thwartref08_From.j1 k y0 y1 y2 y3 y4 y5 y6 y7) (thwartref08_From.j1 (k + 1) y0 y1 y2 y3 y4 y5 y6 y7)) ∧ (∀ y0 y1 y2 y3 y4 y5 y6 y7 y8, LeO (thwartref08_From.j2 k y0 y1 y2 y3 y4 y5 y6 y7 y8) (thwartref08_From.j2 (k + 1) y0 y1 y2 y3 y4 y5 y6 y7 y8)) ∧ (∀ y0 y1 y2 y3 y4 y5 y6 y7, LeO (thwartref08_From.j3 k y0 y1 y2 y3 y4 y5 y6 y7) (thwartref08_From.j3 (k + 1) y0 y1 y2 y3 y4 y5 y6 y7))
 | 0 => ⟨fun _ _ _ _ _ _ _ _ _ r h => by simp [thwartref08_From.j0] at h, fun _ _ _ _ _ _ _ _ r h => by simp [thwartref08_From.j1] at h, fun _ _ _ _ _ _ _ _ _ r h => by simp [thwartref08_From.j2] at h, fun _ _ _ _ _ _ _ _ r h => by simp [thwartref08_From.j3] at h⟩
 | k + 1 => by
  obtain ⟨ih0, ih1, ih2, ih3⟩ := thwartref08_From.mono_l k
  refine ⟨?_, ?_, ?_, ?_⟩
  ·intro y0 y1 y2 y3 y4 y5 y6 y7 y8
   unfold thwartref08_From.j0
   repeat' first
   | (with_reducible exact ih0 _ _ _ _ _ _ _ _ _)
   | (with_reducible exact ih1 _ _ _ _ _ _ _ _)
   | (with_reducible exact ih2 _ _ _ _ _ _ _ _ _)
   | (with_reducible exact ih3 _ _ _ _ _ _ _ _)
   | (with_reducible exact thwartref06_Find.mono _ _ _)
   | (with_reducible exact thwartref08_Kind.mono _ _)
   | (with_reducible exact thwartref08_May.mono _ _ _ _ _ _ _ _ _)
   | (with_reducible exact LeO.refl _)
   | (with_reducible exact LeO.none _)
   | (with_reducible refine LeO.ite ?_ ?_)
   | (with_reducible refine LeO.bind ?_ (fun _ => ?_))
   | exact ih0 _ _ _ _ _ _ _ _ _
   | exact ih1 _ _ _ _ _ _ _ _
   | exact ih2 _ _ _ _ _ _ _ _ _
   | exact ih3 _ _ _ _ _ _ _ _
   | exact thwartref06_Find.mono _ _ _
   | exact thwartref08_Kind.mono _ _
   | exact thwartref08_May.mono _ _ _ _ _ _ _ _ _
   | exact LeO.none _
   | refine LeO.ite ?_ ?_
   | refine LeO.bind ?_ (fun _ => ?_)
  ·intro y0 y1 y2 y3 y4 y5 y6 y7
   unfold thwartref08_From.j1
   repeat' first
   | (with_reducible exact ih0 _ _ _ _ _ _ _ _ _)
   | (with_reducible exact ih1 _ _ _ _ _ _ _ _)
   | (with_reducible exact ih2 _ _ _ _ _ _ _ _ _)
   | (with_reducible exact ih3 _ _ _ _ _ _ _ _)
   | (with_reducible exact thwartref06_Find.mono _ _ _)
   | (with_reducible exact thwartref08_Kind.mono _ _)
   | (with_reducible exact thwartref08_May.mono _ _ _ _ _ _ _ _ _)
   | (with_reducible exact LeO.refl _)
   | (with_reducible exact LeO.none _)
   | (with_reducible refine LeO.ite ?_ ?_)
   | (with_reducible refine LeO.bind ?_ (fun _ => ?_))
   | exact ih0 _ _ _ _ _ _ _ _ _
   | exact ih1 _ _ _ _ _ _ _ _
   | exact ih2 _ _ _ _ _ _ _ _ _
   | exact ih3 _ _ _ _ _ _ _ _
   | exact thwartref06_Find.mono _ _ _
   | exact thwartref08_Kind.mono _ _
   | exact thwartref08_May.mono _ _ _ _ _ _ _ _ _
   | exact LeO.none _
   | refine LeO.ite ?_ ?_
   | refine LeO.bind ?_ (fun _ => ?_)
  ·intro y0 y1 y2 y3 y4 y5 y6 y7 y8
   unfold thwartref08_From.j2
   repeat' first
   | (with_reducible exact ih0 _ _ _ _ _ _ _ _ _)
   | (with_reducible exact ih1 _ _ _ _ _ _ _ _)
   | (with_reducible exact ih2 _ _ _ _ _ _ _ _ _)
   | (with_reducible exact ih3 _ _ _ _ _ _ _ _)
   | (with_reducible exact thwartref06_Find.mono _ _ _)
   | (with_reducible exact thwartref08_Kind.mono _ _)
   | (with_reducible exact thwartref08_May.mono _ _ _ _ _ _ _ _ _)
   | (with_reducible exact LeO.refl _)
   | (with_reducible exact LeO.none _)
   | (with_reducible refine LeO.ite ?_ ?_)
   | (with_reducible refine LeO.bind ?_ (fun _ => ?_))
   | exact ih0 _ _ _ _ _ _ _ _ _
   | exact ih1 _ _ _ _ _ _ _ _
   | exact ih2 _ _ _ _ _ _ _ _ _
   | exact ih3 _ _ _ _ _ _ _ _
   | exact thwartref06_Find.mono _ _ _
   | exact thwartref08_Kind.mono _ _
   | exact thwartref08_May.mono _ _ _ _ _ _ _ _ _
   | exact LeO.none _
   | refine LeO.ite ?_ ?_
   | refine LeO.bind ?_ (fun _ => ?_)
  ·intro y0 y1 y2 y3 y4 y5 y6 y7
   unfold thwartref08_From.j3
   repeat' first
   | (with_reducible exact ih0 _ _ _ _ _ _ _ _ _)
   | (with_reducible exact ih1 _ _ _ _ _ _ _ _)
   | (with_reducible exact ih2 _ _ _ _ _ _ _ _ _)
   | (with_reducible exact ih3 _ _ _ _ _ _ _ _)
   | (with_reducible exact thwartref06_Find.mono _ _ _)
   | (with_reducible exact thwartref08_Kind.mono _ _)
   | (with_reducible exact thwartref08_May.mono _ _ _ _ _ _ _ _ _)
   | (with_reducible exact LeO.refl _)
   | (with_reducible exact LeO.none _)
   | (with_reducible refine LeO.ite ?_ ?_)
   | (with_reducible refine LeO.bind ?_ (fun _ => ?_))
   | exact ih0 _ _ _ _ _ _ _ _ _
   | exact ih1 _ _ _ _ _ _ _ _
   | exact ih2 _ _ _ _ _ _ _ _ _
   | exact ih3 _ _ _ _ _ _ _ _
   | exact thwartref06_Find.mono _ _ _
   | exact thwartref08_Kind.mono _ _
   | exact thwartref08_May.mono _ _ _ _ _ _ _ _ _
   | exact LeO.none _
   | refine LeO.ite ?_ ?_
   | refine LeO.bind ?_ (fun _ => ?_)
theorem thwartref08_From.mono : ∀ a0 a1 a2 a3 a4 a5 a6 a7 a8 a9 a10 k, LeO (thwartref08_From.f k a0 a1 a2 a3 a4 a5 a6 a7 a8 a9 a10) (thwartref08_From.f (k + 1) a0 a1 a2 a3 a4 a5 a6 a7 a8 a9 a10) := by
 intro a0 a1 a2 a3 a4 a5 a6 a7 a8 a9 a10 k
 obtain ⟨ih0, ih1, ih2, ih3⟩ := thwartref08_From.mono_l k
 unfold thwartref08_From.f
 repeat' first
   | (with_reducible exact ih0 _ _ _ _ _ _ _ _ _)
   | (with_reducible exact ih1 _ _ _ _ _ _ _ _)
   | (with_reducible exact ih2 _ _ _ _ _ _ _ _ _)
   | (with_reducible exact ih3 _ _ _ _ _ _ _ _)
   | (with_reducible exact thwartref06_Find.mono _ _ _)
   | (with_reducible exact thwartref08_Kind.mono _ _)
   | (with_reducible exact thwartref08_May.mono _ _ _ _ _ _ _ _ _)
   | (with_reducible exact LeO.refl _)
   | (with_reducible exact LeO.none _)
   | (with_reducible refine LeO.ite ?_ ?_)
   | (with_reducible refine LeO.bind ?_ (fun _ => ?_))
   | exact ih0 _ _ _ _ _ _ _ _ _
   | exact ih1 _ _ _ _ _ _ _ _
   | exact ih2 _ _ _ _ _ _ _ _ _
   | exact ih3 _ _ _ _ _ _ _ _
   | exact thwartref06_Find.mono _ _ _
   | exact thwartref08_Kind.mono _ _
   | exact thwartref08_May.mono _ _ _ _ _ _ _ _ _
   | exact LeO.none _
   | refine LeO.ite ?_ ?_
   | refine LeO.bind ?_ (fun _ => ?_)
def thwartref08_From.T1 : Bool × List (List Nat × List Nat) := (true, [([], []), ([0], [0]), ([], []), ([2], [2]), ([1, 3], [1, 3]), ([], []), ([5], [5]), ([6, 4], [6]), ([], []), ([8], [8]), ([], []), ([10], [10]), ([4, 7, 9, 11], [4, 7, 9, 11]), ([], []), ([13, 12, 7, 0, 1, 2, 3, 4, 5, 6, 7, 8, 9, 10, 11, 12, 13], [12, 13])])
def thwartref08_From.B1 : List Nat := [0, 1, 0, 4, 15, 0, 32, 127, 0, 256, 0, 1024, 4095, 0, 16383]
theorem thwartref08_From.tab1 : rtab .any (opsOf Tryz.f12 1) = thwartref08_From.T1 := by kernel_rfl
theorem thwartref08_From.bits1 : waitsOk thwartref08_From.T1.2 thwartref08_From.B1 = true := by kernel_rfl
set_option maxHeartbeats 40000000 in
set_option maxRecDepth 100000 in
theorem thwartref08_From.calls (k : Nat) (a0_0 : ByteArray) (a0_1 : ByteArray) (a0_2 : Int) (a0_3 : Int) (a0_4 : Int) (a0_5 : Int) (a0_6 : Int) (a0_7 : Int) (a0_8 : ByteArray) (A1 : Option Addr) (c1 : Nat) (l1 : List (S34)) (P2_ : Nat → Prop) (A2 : Option Addr) (c2 : Nat) (l2 : List Int) (r1 : ByteArray) (r2 : Int) (r3 : Int) (r4 : Int) (r5 : Int) (r6 : Int) (r7 : ByteArray) (r8 : List Int) (r9 : Int) (w : World) (hr1 : Kd.C k34 w A1 l1.length l1) (hc1 : l1.length ≤ c1) (hs2 : Kd.V (Kd.int .u8) 5 w w.heap.size (fun k_ => P2_ k_) (.slice A2 l2.length c2) l2) (h : thwartref08_From.f k a0_0 a0_1 a0_2 a0_3 a0_4 a0_5 a0_6 a0_7 a0_8 l1 l2 = some (r1, r2, r3, r4, r5, r6, r7, r8, r9)) :
  Calls Tryz.prog 12 #[.agg #[.string a0_0, .string a0_1, .int .i64 a0_2, .int .i64 a0_3, .int .i64 a0_4, .int .i64 a0_5, .int .i64 a0_6, .int .u8 a0_7, .string a0_8], .slice A1 l1.length c1, .slice A2 l2.length c2] w fun e w' => ∃ v7_ : Value, e = .returned (.tuple #[.agg #[.string r1, .int .i64 r2, .int .i64 r3, .int .i64 r4, .int .i64 r5, .int .i64 r6, .string r7, v7_], .int .i64 r9]) ∧ Kd.V (Kd.int .u8) 5 w' w.heap.size (fun k_ => (P2_ k_ ∨ w.heap.size ≤ k_)) v7_ r8 ∧ Below w.heap.size w w' := by
 have hu29 := Tryz.underlying29
 have hu45 := Tryz.underlying45
 have hu27 := Tryz.underlying27
 have HR1 := Aside0.mk hr1
 have HC1 := Aside0.mk hc1
 clear hr1 hc1
 have HO2 := Aside0.mk (show Kd.V (Kd.int .u8) 5 w w.heap.size (fun k_ => (P2_ k_ ∨ w.heap.size ≤ k_)) (.slice A2 l2.length c2) l2 from Kd.V_mono hs2 (fun k_ hk => .inl hk))
 have HB := Aside0.mk (Below.refl w.heap.size w)
 have H : ((thwartref02_Join.f a0_0 a0_1).bind fun t303 => ((thwartref08_Kind.f k a0_7).bind fun t304 => (if t304 = 0 then (some ((⟨#[]⟩ : ByteArray), 0, 0, 0, 0, 0, (⟨#[]⟩ : ByteArray), ([] : List Int), 11)) else ((thwartref06_Find.f k l1 (⟨#[112, 97, 116, 104]⟩ : ByteArray)).bind fun bt306 => (if bt306.2 = true then (thwartref08_From.j0 k l1 l2 bt306.1 t304 a0_2 a0_3 a0_4 a0_5 a0_8) else (thwartref08_From.j0 k l1 l2 t303 t304 a0_2 a0_3 a0_4 a0_5 a0_8)))))) = some (r1, r2, r3, r4, r5, r6, r7, r8, r9) := h
 clear h
 replace H := Option.bind_eq_some_iff.mp H
 obtain ⟨t303, A40, H⟩ := H
 try dsimp only at H
 have A4 := Aside0.mk A40
 clear A40
 replace H := Option.bind_eq_some_iff.mp H
 obtain ⟨t304, A50, H⟩ := H
 try dsimp only at H
 have A5 := Aside0.mk A50
 clear A50
 have HH_ := Aside0.mk H
 clear H
 go_enter Tryz.func12, Tryz.ntmps12
 try go_wp2_with (first | ((with_reducible refine gate_dst (N := 3) rfl ?_); refine boxA_ 3 29 #[.string a0_0, .string a0_1, .int .i64 a0_2, .int .i64 a0_3, .int .i64 a0_4, .int .i64 a0_5, .int .i64 a0_6, .int .u8 a0_7, .string a0_8] ?_; intro gb301 hg w28 hbox hb; have n0_ := Aside0.mk (Kd.V_below (Kd.V_elderB (by (with_reducible repeat (first | apply Kd.V_alloc | apply Kd.V_drewN | apply Kd.V_drew)); exact HO2.out) gb301 (Nat.le_of_eq hg.symm)) hb); have n1_ := Aside0.mk (bstep_ hb); have n2_ := Aside0.mk (hbox); have n3_ := Aside0.mk ((by rw [hg]; exact bsize_ : w.heap.size ≤ gb301)); have n4_ := Aside0.mk ((by rw [hg]; exact bsize_ : w.heap.size ≤ gb301)); clear HO2; clear HB; have HO2 := n0_; have HB := n1_; have BK301 := n2_; have GW301 := n3_; have GE301 := n4_; clear n0_ n1_ n2_ n3_ n4_; clear hb hbox hg) | ((with_reducible refine gate_dst (N := 6) rfl ?_); refine boxA_ 6 45 #[.string (⟨#[]⟩ : ByteArray), .int .i64 0, .int .i64 0, .int .i64 0, .int .i64 0, .int .i64 0, .string (⟨#[]⟩ : ByteArray), .slice none 0 0] ?_; intro gb302 hg w29 hbox hb; have n0_ := Aside0.mk (Kd.V_below (Kd.V_elderB (by (with_reducible repeat (first | apply Kd.V_alloc | apply Kd.V_drewN | apply Kd.V_drew)); exact HO2.out) gb302 (Nat.le_of_eq hg.symm)) hb); have n1_ := Aside0.mk (blkB_ BK301.out hb); have n2_ := Aside0.mk (bstep_ hb); have n3_ := Aside0.mk (hbox); have n4_ := Aside0.mk ((by rw [hg]; exact bsize_ : w.heap.size ≤ gb302)); have n5_ := Aside0.mk ((by rw [hg]; exact bsize_ : w.heap.size ≤ gb302)); have n6_ := Aside0.mk ((by rw [hg]; exact Nat.ne_of_lt (blkL_ BK301.out) : gb301 ≠ gb302)); have n7_ := Aside0.mk ((by rw [hg]; exact Nat.ne_of_gt (blkL_ BK301.out) : gb302 ≠ gb301)); clear HO2; clear BK301; clear HB; have HO2 := n0_; have BK301 := n1_; have HB := n2_; have BK302 := n3_; have GW302 := n4_; have GE302 := n5_; have NB301_302 := n6_; have NB302_301 := n7_; clear n0_ n1_ n2_ n3_ n4_ n5_ n6_ n7_; clear hb hbox hg))
 have n0_ := Aside0.mk (Kd.V_drew HO2.out)
 have n1_ := Aside0.mk (blk_drew BK301.out)
 have n2_ := Aside0.mk (blk_drew BK302.out)
 have n3_ := Aside0.mk (below_drew1 HB.out)
 clear HO2
 clear BK301
 clear BK302
 clear HB
 have HO2 := n0_
 have BK301 := n1_
 have BK302 := n2_
 have HB := n3_
 clear n0_ n1_ n2_ n3_
 refine start_ (n := 15) (S := fun w' => w'.cell? ⟨gb301, 0, none⟩ = some (.string a0_0) ∧ w'.cell? ⟨gb301, 1, none⟩ = some (.string a0_1) ∧ w'.cell? ⟨gb301, 2, none⟩ = some (.int .i64 a0_2) ∧ w'.cell? ⟨gb301, 3, none⟩ = some (.int .i64 a0_3) ∧ w'.cell? ⟨gb301, 4, none⟩ = some (.int .i64 a0_4) ∧ w'.cell? ⟨gb301, 5, none⟩ = some (.int .i64 a0_5) ∧ w'.cell? ⟨gb301, 6, none⟩ = some (.int .i64 a0_6) ∧ w'.cell? ⟨gb301, 7, none⟩ = some (.int .u8 a0_7) ∧ w'.cell? ⟨gb301, 8, none⟩ = some (.string a0_8)) (ds := []) #[false, false, false, false, false, false, false, false, false, false, false, false, false, false, false] (by kernel_rfl) rfl rfl (blk_c9 BK301.out) (fun hHeld => ?_); refine with_tabW thwartref08_From.tab1 thwartref08_From.bits1 (fun HT_ HW_ => ?_)
 generalize w29.drew = w30 at HO2 BK301 BK302 HB hHeld ⊢
 refine pureS_ 0 14 ?_
 refine pureS_ 2 16 ?_
 refine pureS_ 5 19 ?_
 refine pureS_ 8 22 ?_
 refine pureS_ 10 24 ?_
 refine takeS_ 1 15 ?_
 refine takeS_ 3 17 ?_
 refine takeS_ 6 20 ?_
 refine takeS_ 9 23 ?_
 refine takeS_ 11 25 ?_
 refine join_ (σ := Nat) 1 #[true, true, true, true, true, true, true, true, true, true, true, true, true, true, false] (fun s_ => [(18, .string t303), (21, .int .i64 t304), (8, .pointer (some ⟨s_, 0, none⟩)), (26, .agg #[.string t303, .int .i64 t304, .int .i64 a0_2, .int .i64 a0_3, .int .i64 a0_4, .int .i64 a0_5, .string a0_8, .slice none 0 0])]) (fun s_ w' => (w'.cell? ⟨gb301, 0, none⟩ = some (.string a0_0) ∧ w'.cell? ⟨gb301, 1, none⟩ = some (.string a0_1) ∧ w'.cell? ⟨gb301, 2, none⟩ = some (.int .i64 a0_2) ∧ w'.cell? ⟨gb301, 3, none⟩ = some (.int .i64 a0_3) ∧ w'.cell? ⟨gb301, 4, none⟩ = some (.int .i64 a0_4) ∧ w'.cell? ⟨gb301, 5, none⟩ = some (.int .i64 a0_5) ∧ w'.cell? ⟨gb301, 6, none⟩ = some (.int .i64 a0_6) ∧ w'.cell? ⟨gb301, 7, none⟩ = some (.int .u8 a0_7) ∧ w'.cell? ⟨gb301, 8, none⟩ = some (.string a0_8)) ∧ (Kd.V (Kd.int .u8) 5 w' w.heap.size (fun k_ => (P2_ k_ ∨ w.heap.size ≤ k_) ∧ k_ ≠ gb301 ∧ k_ ≠ gb302 ∧ k_ ≠ s_) (.slice A2 l2.length c2) l2) ∧ (w'.heap[gb301]? = some (.cells #[.string a0_0, .string a0_1, .int .i64 a0_2, .int .i64 a0_3, .int .i64 a0_4, .int .i64 a0_5, .int .i64 a0_6, .int .u8 a0_7, .string a0_8] 29 (0, 0))) ∧ (w'.heap[gb302]? = some (.cells #[.string (⟨#[]⟩ : ByteArray), .int .i64 0, .int .i64 0, .int .i64 0, .int .i64 0, .int .i64 0, .string (⟨#[]⟩ : ByteArray), .slice none 0 0] 45 (0, 0))) ∧ (w'.heap[s_]? = some (.cells #[.string (⟨#[]⟩ : ByteArray), .int .i64 0, .int .i64 0, .int .i64 0, .int .i64 0, .int .i64 0, .string (⟨#[]⟩ : ByteArray), .slice none 0 0] 45 (0, 0))) ∧ (w.heap.size ≤ s_) ∧ (w.heap.size ≤ s_) ∧ (gb301 ≠ s_) ∧ (s_ ≠ gb301) ∧ (gb302 ≠ s_) ∧ (s_ ≠ gb302) ∧ (Below w.heap.size w w')) ?_ ?_
 rotate_left
 ·intro hCont
  refine two_ (i := 4) (j := 13) (Ni := some 18) (Nj := some 8) #[true, true, true, true, true, true, true, false, true, true, true, true, false, false, false] #[true, true, true, true, false, true, true, false, true, true, true, true, false, true, false] rfl rfl rfl rfl (two_of HT_.out (by kernel_rfl)) (by decide) (by decide) (fun K hK => ?_) (fun K hK => ?_)
  ·skip
   refine goes_ Tryz.func25 (by kernel_rfl) rfl #[.string a0_0, .string a0_1] (by rfl) rfl rfl (by (try simp only [List.map_toArray, List.map_cons, List.map_nil]); first | done | rfl | (simp only [List.length_drop, List.length_take]; rfl)) ?_
   with_reducible refine (thwartref02_Join.calls a0_0 a0_1 t303 _ A4.out).mono ?_
   rintro e w' ⟨rfl, ⟨nd, rfl⟩⟩
   refine ⟨_, rfl, ?_⟩
   refine hK.out _ _ (blk_c9 BK301.out) (fun hHeld => ?_)
   clear hK K
   refine normS_ 18 ?_
   refine two_ (i := 7) (j := 13) (Ni := some 21) (Nj := some 8) #[true, true, true, true, true, true, true, true, true, true, true, true, false, false, false] #[true, true, true, true, true, true, true, false, true, true, true, true, false, true, false] rfl rfl rfl rfl (two_of HT_.out (by kernel_rfl)) (by decide) (by decide) (fun K hK => ?_) (fun K hK => ?_)
   ·skip
    refine goes_ Tryz.func9 (by kernel_rfl) rfl #[.int .u8 a0_7] (by rfl) rfl rfl (by (try simp only [List.map_toArray, List.map_cons, List.map_nil]); first | done | rfl | (simp only [List.length_drop, List.length_take]; rfl)) ?_
    with_reducible refine (thwartref08_Kind.calls k a0_7 t304 _ A5.out).mono ?_
    rintro e w31 ⟨rfl, hb⟩
    refine ⟨_, rfl, ?_⟩
    have n0_ := Aside0.mk (Kd.V_below (by (with_reducible repeat (first | apply Kd.V_alloc | apply Kd.V_drewN | apply Kd.V_drew)); exact HO2.out) hb)
    have n1_ := Aside0.mk (blkB_ BK301.out hb)
    have n2_ := Aside0.mk (blkB_ BK302.out hb)
    have n3_ := Aside0.mk (bstep_ hb)
    clear HO2
    clear BK301
    clear BK302
    clear HB
    have HO2 := n0_
    have BK301 := n1_
    have BK302 := n2_
    have HB := n3_
    clear n0_ n1_ n2_ n3_
    (try clear hb)
    (try clear hb2)
    (try clear hk)
    (try clear hi)
    refine hK.out _ _ (blk_c9 BK301.out) (fun hHeld => ?_)
    clear hK K
    refine normS_ 21 ?_
    refine pureS_ 12 26 ?_
    refine one_ (i := 13) (N := some 8) #[true, true, true, true, true, true, true, true, true, true, true, true, true, true, false] rfl rfl (one_of HT_.out (by kernel_rfl)) (by decide) (fun K hK => ?_)
    refine box_step ?hg (N := 8) ?hd (cs := #[.string (⟨#[]⟩ : ByteArray), .int .i64 0, .int .i64 0, .int .i64 0, .int .i64 0, .int .i64 0, .string (⟨#[]⟩ : ByteArray), .slice none 0 0]) (t := 45) ?hr ?_; (case hd => rfl); (case hg => rfl); (case hr => first | (go_simp; done) | (go_simp; rfl))
    intro gb305 hg w32 hbox hb
    have n0_ := Aside0.mk (Kd.V_below (Kd.V_elderB (by (with_reducible repeat (first | apply Kd.V_alloc | apply Kd.V_drewN | apply Kd.V_drew)); exact HO2.out) gb305 (Nat.le_of_eq hg.symm)) hb)
    have n1_ := Aside0.mk (blkB_ BK301.out hb)
    have n2_ := Aside0.mk (blkB_ BK302.out hb)
    have n3_ := Aside0.mk (bstep_ hb)
    have n4_ := Aside0.mk (hbox)
    have n5_ := Aside0.mk ((by rw [hg]; exact bsize_ : w.heap.size ≤ gb305))
    have n6_ := Aside0.mk ((by rw [hg]; exact bsize_ : w.heap.size ≤ gb305))
    have n7_ := Aside0.mk ((by rw [hg]; exact Nat.ne_of_lt (blkL_ BK301.out) : gb301 ≠ gb305))
    have n8_ := Aside0.mk ((by rw [hg]; exact Nat.ne_of_gt (blkL_ BK301.out) : gb305 ≠ gb301))
    have n9_ := Aside0.mk ((by rw [hg]; exact Nat.ne_of_lt (blkL_ BK302.out) : gb302 ≠ gb305))
    have n10_ := Aside0.mk ((by rw [hg]; exact Nat.ne_of_gt (blkL_ BK302.out) : gb305 ≠ gb302))
    clear HO2
    clear BK301
    clear BK302
    clear HB
    have HO2 := n0_
    have BK301 := n1_
    have BK302 := n2_
    have HB := n3_
    have BK305 := n4_
    have GW305 := n5_
    have GE305 := n6_
    have NB301_305 := n7_
    have NB305_301 := n8_
    have NB302_305 := n9_
    have NB305_302 := n10_
    clear n0_ n1_ n2_ n3_ n4_ n5_ n6_ n7_ n8_ n9_ n10_
    clear hb hbox hg
    refine hK.out _ _ (blk_c9 BK301.out) (fun hHeld => ?_)
    clear hK K
    refine normS_ 8 ?_
    exact norm_ (by simp only [putAll, Act.put, List.setIfInBounds_toArray, List.set_cons_zero, List.set_cons_succ]) (hCont (gb305) _ ⟨hHeld, (by (with_reducible repeat (first | apply Kd.V_alloc | apply Kd.V_drewN | apply Kd.V_drew)); exact Kd.V_mono HO2.out (fun _ hk => ⟨hk.1.1.1, ⟨hk.1.1.2, ⟨hk.1.2, hk.2⟩⟩⟩)), (by (with_reducible repeat (first | refine blk_drewN ?_ _ | refine blk_drew ?_ | refine blk_alloc ?_ _)); exact BK301.out), (by (with_reducible repeat (first | refine blk_drewN ?_ _ | refine blk_drew ?_ | refine blk_alloc ?_ _)); exact BK302.out), (by (with_reducible repeat (first | refine blk_drewN ?_ _ | refine blk_drew ?_ | refine blk_alloc ?_ _)); exact BK305.out), GW305.out, GE305.out, NB301_305.out, NB305_301.out, NB302_305.out, NB305_302.out, belA_⟩)
   ·skip
    refine box_step ?hg (N := 8) ?hd (cs := #[.string (⟨#[]⟩ : ByteArray), .int .i64 0, .int .i64 0, .int .i64 0, .int .i64 0, .int .i64 0, .string (⟨#[]⟩ : ByteArray), .slice none 0 0]) (t := 45) ?hr ?_; (case hd => rfl); (case hg => rfl); (case hr => first | (go_simp; done) | (go_simp; rfl))
    intro gb305 hg w31 hbox hb
    have n0_ := Aside0.mk (Kd.V_below (Kd.V_elderB (by (with_reducible repeat (first | apply Kd.V_alloc | apply Kd.V_drewN | apply Kd.V_drew)); exact HO2.out) gb305 (Nat.le_of_eq hg.symm)) hb)
    have n1_ := Aside0.mk (blkB_ BK301.out hb)
    have n2_ := Aside0.mk (blkB_ BK302.out hb)
    have n3_ := Aside0.mk (bstep_ hb)
    have n4_ := Aside0.mk (hbox)
    have n5_ := Aside0.mk ((by rw [hg]; exact bsize_ : w.heap.size ≤ gb305))
    have n6_ := Aside0.mk ((by rw [hg]; exact bsize_ : w.heap.size ≤ gb305))
    have n7_ := Aside0.mk ((by rw [hg]; exact Nat.ne_of_lt (blkL_ BK301.out) : gb301 ≠ gb305))
    have n8_ := Aside0.mk ((by rw [hg]; exact Nat.ne_of_gt (blkL_ BK301.out) : gb305 ≠ gb301))
    have n9_ := Aside0.mk ((by rw [hg]; exact Nat.ne_of_lt (blkL_ BK302.out) : gb302 ≠ gb305))
    have n10_ := Aside0.mk ((by rw [hg]; exact Nat.ne_of_gt (blkL_ BK302.out) : gb305 ≠ gb302))
    clear HO2
    clear BK301
    clear BK302
    clear HB
    have HO2 := n0_
    have BK301 := n1_
    have BK302 := n2_
    have HB := n3_
    have BK305 := n4_
    have GW305 := n5_
    have GE305 := n6_
    have NB301_305 := n7_
    have NB305_301 := n8_
    have NB302_305 := n9_
    have NB305_302 := n10_
    clear n0_ n1_ n2_ n3_ n4_ n5_ n6_ n7_ n8_ n9_ n10_
    clear hb hbox hg
    refine hK.out _ _ (blk_c9 BK301.out) (fun hHeld => ?_)
    clear hK K
    refine normS_ 8 ?_
    refine one_ (i := 7) (N := some 21) #[true, true, true, true, true, true, true, true, true, true, true, true, false, true, false] rfl rfl (one_of HT_.out (by kernel_rfl)) (by decide) (fun K hK => ?_)
    refine goes_ Tryz.func9 (by kernel_rfl) rfl #[.int .u8 a0_7] (by rfl) rfl rfl (by (try simp only [List.map_toArray, List.map_cons, List.map_nil]); first | done | rfl | (simp only [List.length_drop, List.length_take]; rfl)) ?_
    with_reducible refine (thwartref08_Kind.calls k a0_7 t304 _ A5.out).mono ?_
    rintro e w32 ⟨rfl, hb⟩
    refine ⟨_, rfl, ?_⟩
    have n0_ := Aside0.mk (Kd.V_below (by (with_reducible repeat (first | apply Kd.V_alloc | apply Kd.V_drewN | apply Kd.V_drew)); exact HO2.out) hb)
    have n1_ := Aside0.mk (blkB_ BK301.out hb)
    have n2_ := Aside0.mk (blkB_ BK302.out hb)
    have n3_ := Aside0.mk (blkB_ BK305.out hb)
    have n4_ := Aside0.mk (bstep_ hb)
    clear HO2
    clear BK301
    clear BK302
    clear BK305
    clear HB
    have HO2 := n0_
    have BK301 := n1_
    have BK302 := n2_
    have BK305 := n3_
    have HB := n4_
    clear n0_ n1_ n2_ n3_ n4_
    (try clear hb)
    (try clear hb2)
    (try clear hk)
    (try clear hi)
    refine hK.out _ _ (blk_c9 BK301.out) (fun hHeld => ?_)
    clear hK K
    refine normS_ 21 ?_
    refine pureS_ 12 26 ?_
    exact norm_ (by simp only [putAll, Act.put, List.setIfInBounds_toArray, List.set_cons_zero, List.set_cons_succ]) (hCont (gb305) _ ⟨hHeld, (by (with_reducible repeat (first | apply Kd.V_alloc | apply Kd.V_drewN | apply Kd.V_drew)); exact Kd.V_mono HO2.out (fun _ hk => ⟨hk.1.1.1, ⟨hk.1.1.2, ⟨hk.1.2, hk.2⟩⟩⟩)), (by (with_reducible repeat (first | refine blk_drewN ?_ _ | refine blk_drew ?_ | refine blk_alloc ?_ _)); exact BK301.out), (by (with_reducible repeat (first | refine blk_drewN ?_ _ | refine blk_drew ?_ | refine blk_alloc ?_ _)); exact BK302.out), (by (with_reducible repeat (first | refine blk_drewN ?_ _ | refine blk_drew ?_ | refine blk_alloc ?_ _)); exact BK305.out), GW305.out, GE305.out, NB301_305.out, NB305_301.out, NB302_305.out, NB305_302.out, belA_⟩)
  ·skip
   refine box_step ?hg (N := 8) ?hd (cs := #[.string (⟨#[]⟩ : ByteArray), .int .i64 0, .int .i64 0, .int .i64 0, .int .i64 0, .int .i64 0, .string (⟨#[]⟩ : ByteArray), .slice none 0 0]) (t := 45) ?hr ?_; (case hd => rfl); (case hg => rfl); (case hr => first | (go_simp; done) | (go_simp; rfl))
   intro gb305 hg w31 hbox hb
   have n0_ := Aside0.mk (Kd.V_below (Kd.V_elderB (by (with_reducible repeat (first | apply Kd.V_alloc | apply Kd.V_drewN | apply Kd.V_drew)); exact HO2.out) gb305 (Nat.le_of_eq hg.symm)) hb)
   have n1_ := Aside0.mk (blkB_ BK301.out hb)
   have n2_ := Aside0.mk (blkB_ BK302.out hb)
   have n3_ := Aside0.mk (bstep_ hb)
   have n4_ := Aside0.mk (hbox)
   have n5_ := Aside0.mk ((by rw [hg]; exact bsize_ : w.heap.size ≤ gb305))
   have n6_ := Aside0.mk ((by rw [hg]; exact bsize_ : w.heap.size ≤ gb305))
   have n7_ := Aside0.mk ((by rw [hg]; exact Nat.ne_of_lt (blkL_ BK301.out) : gb301 ≠ gb305))
   have n8_ := Aside0.mk ((by rw [hg]; exact Nat.ne_of_gt (blkL_ BK301.out) : gb305 ≠ gb301))
   have n9_ := Aside0.mk ((by rw [hg]; exact Nat.ne_of_lt (blkL_ BK302.out) : gb302 ≠ gb305))
   have n10_ := Aside0.mk ((by rw [hg]; exact Nat.ne_of_gt (blkL_ BK302.out) : gb305 ≠ gb302))
   clear HO2
   clear BK301
   clear BK302
   clear HB
   have HO2 := n0_
   have BK301 := n1_
   have BK302 := n2_
   have HB := n3_
   have BK305 := n4_
   have GW305 := n5_
   have GE305 := n6_
   have NB301_305 := n7_
   have NB305_301 := n8_
   have NB302_305 := n9_
   have NB305_302 := n10_
   clear n0_ n1_ n2_ n3_ n4_ n5_ n6_ n7_ n8_ n9_ n10_
   clear hb hbox hg
   refine hK.out _ _ (blk_c9 BK301.out) (fun hHeld => ?_)
   clear hK K
   refine normS_ 8 ?_
   refine one_ (i := 4) (N := some 18) #[true, true, true, true, true, true, true, false, true, true, true, true, false, true, false] rfl rfl (one_of HT_.out (by kernel_rfl)) (by decide) (fun K hK => ?_)
   refine goes_ Tryz.func25 (by kernel_rfl) rfl #[.string a0_0, .string a0_1] (by rfl) rfl rfl (by (try simp only [List.map_toArray, List.map_cons, List.map_nil]); first | done | rfl | (simp only [List.length_drop, List.length_take]; rfl)) ?_
   with_reducible refine (thwartref02_Join.calls a0_0 a0_1 t303 _ A4.out).mono ?_
   rintro e w' ⟨rfl, ⟨nd, rfl⟩⟩
   refine ⟨_, rfl, ?_⟩
   refine hK.out _ _ (blk_c9 BK301.out) (fun hHeld => ?_)
   clear hK K
   refine normS_ 18 ?_
   refine one_ (i := 7) (N := some 21) #[true, true, true, true, true, true, true, true, true, true, true, true, false, true, false] rfl rfl (one_of HT_.out (by kernel_rfl)) (by decide) (fun K hK => ?_)
   refine goes_ Tryz.func9 (by kernel_rfl) rfl #[.int .u8 a0_7] (by rfl) rfl rfl (by (try simp only [List.map_toArray, List.map_cons, List.map_nil]); first | done | rfl | (simp only [List.length_drop, List.length_take]; rfl)) ?_
   with_reducible refine (thwartref08_Kind.calls k a0_7 t304 _ A5.out).mono ?_
   rintro e w32 ⟨rfl, hb⟩
   refine ⟨_, rfl, ?_⟩
   have n0_ := Aside0.mk (Kd.V_below (by (with_reducible repeat (first | apply Kd.V_alloc | apply Kd.V_drewN | apply Kd.V_drew)); exact HO2.out) hb)
   have n1_ := Aside0.mk (blkB_ BK301.out hb)
   have n2_ := Aside0.mk (blkB_ BK302.out hb)
   have n3_ := Aside0.mk (blkB_ BK305.out hb)
   have n4_ := Aside0.mk (bstep_ hb)
   clear HO2
   clear BK301
   clear BK302
   clear BK305
   clear HB
   have HO2 := n0_
   have BK301 := n1_
   have BK302 := n2_
   have BK305 := n3_
   have HB := n4_
   clear n0_ n1_ n2_ n3_ n4_
   (try clear hb)
   (try clear hb2)
   (try clear hk)
   (try clear hi)
   refine hK.out _ _ (blk_c9 BK301.out) (fun hHeld => ?_)
   clear hK K
   refine normS_ 21 ?_
   refine pureS_ 12 26 ?_
   exact norm_ (by simp only [putAll, Act.put, List.setIfInBounds_toArray, List.set_cons_zero, List.set_cons_succ]) (hCont (gb305) _ ⟨hHeld, (by (with_reducible repeat (first | apply Kd.V_alloc | apply Kd.V_drewN | apply Kd.V_drew)); exact Kd.V_mono HO2.out (fun _ hk => ⟨hk.1.1.1, ⟨hk.1.1.2, ⟨hk.1.2, hk.2⟩⟩⟩)), (by (with_reducible repeat (first | refine blk_drewN ?_ _ | refine blk_drew ?_ | refine blk_alloc ?_ _)); exact BK301.out), (by (with_reducible repeat (first | refine blk_drewN ?_ _ | refine blk_drew ?_ | refine blk_alloc ?_ _)); exact BK302.out), (by (with_reducible repeat (first | refine blk_drewN ?_ _ | refine blk_drew ?_ | refine blk_alloc ?_ _)); exact BK305.out), GW305.out, GE305.out, NB301_305.out, NB305_301.out, NB302_305.out, NB305_302.out, belA_⟩)
 rintro gb305 w33 ⟨hS_, h0_, h1_, h2_, h3_, h4_, h5_, h6_, h7_, h8_, h9_, h10_⟩
 have n0_ : Aside0 (Kd.V (Kd.int .u8) 5 w33 w.heap.size (fun k_ => (P2_ k_ ∨ w.heap.size ≤ k_) ∧ k_ ≠ gb301 ∧ k_ ≠ gb302 ∧ k_ ≠ gb305) (.slice A2 l2.length c2) l2) := ⟨h0_⟩
 have n1_ : Aside0 (w33.heap[gb301]? = some (.cells #[.string a0_0, .string a0_1, .int .i64 a0_2, .int .i64 a0_3, .int .i64 a0_4, .int .i64 a0_5, .int .i64 a0_6, .int .u8 a0_7, .string a0_8] 29 (0, 0))) := ⟨h1_⟩
 have n2_ : Aside0 (w33.heap[gb302]? = some (.cells #[.string (⟨#[]⟩ : ByteArray), .int .i64 0, .int .i64 0, .int .i64 0, .int .i64 0, .int .i64 0, .string (⟨#[]⟩ : ByteArray), .slice none 0 0] 45 (0, 0))) := ⟨h2_⟩
 have n3_ : Aside0 (w33.heap[gb305]? = some (.cells #[.string (⟨#[]⟩ : ByteArray), .int .i64 0, .int .i64 0, .int .i64 0, .int .i64 0, .int .i64 0, .string (⟨#[]⟩ : ByteArray), .slice none 0 0] 45 (0, 0))) := ⟨h3_⟩
 have n4_ : Aside0 (w.heap.size ≤ gb305) := ⟨h4_⟩
 have n5_ : Aside0 (w.heap.size ≤ gb305) := ⟨h5_⟩
 have n6_ : Aside0 (gb301 ≠ gb305) := ⟨h6_⟩
 have n7_ : Aside0 (gb305 ≠ gb301) := ⟨h7_⟩
 have n8_ : Aside0 (gb302 ≠ gb305) := ⟨h8_⟩
 have n9_ : Aside0 (gb305 ≠ gb302) := ⟨h9_⟩
 have n10_ : Aside0 (Below w.heap.size w w33) := ⟨h10_⟩
 clear HO2
 clear BK301
 clear BK302
 clear HB
 clear h0_ h1_ h2_ h3_ h4_ h5_ h6_ h7_ h8_ h9_ h10_
 have HO2 := n0_
 have BK301 := n1_
 have BK302 := n2_
 have BK305 := n3_
 have GW305 := n4_
 have GE305 := n5_
 have NB301_305 := n6_
 have NB305_301 := n7_
 have NB302_305 := n8_
 have NB305_302 := n9_
 have HB := n10_
 clear n0_ n1_ n2_ n3_ n4_ n5_ n6_ n7_ n8_ n9_ n10_
 have hHeld : w33.cell? ⟨gb301, 0, none⟩ = some (.string a0_0) ∧ w33.cell? ⟨gb301, 1, none⟩ = some (.string a0_1) ∧ w33.cell? ⟨gb301, 2, none⟩ = some (.int .i64 a0_2) ∧ w33.cell? ⟨gb301, 3, none⟩ = some (.int .i64 a0_3) ∧ w33.cell? ⟨gb301, 4, none⟩ = some (.int .i64 a0_4) ∧ w33.cell? ⟨gb301, 5, none⟩ = some (.int .i64 a0_5) ∧ w33.cell? ⟨gb301, 6, none⟩ = some (.int .i64 a0_6) ∧ w33.cell? ⟨gb301, 7, none⟩ = some (.int .u8 a0_7) ∧ w33.cell? ⟨gb301, 8, none⟩ = some (.string a0_8) := hS_
 refine norm_ (a' := ?_) ?_ ?_
 rotate_left
 ·simp only [putAll, Act.put, List.setIfInBounds_toArray, List.set_cons_zero, List.set_cons_succ]
  rfl
 refine one_ (i := 14) (N := none) #[true, true, true, true, true, true, true, true, true, true, true, true, true, true, true] rfl rfl (one_of HT_.out (by kernel_rfl)) (by decide) (fun K hK => ?_)
 have hs34 : w33.cell? ⟨gb305, 0, none⟩ = some (.string (⟨#[]⟩ : ByteArray)) := (blk_cell BK305.out 0).trans rfl
 have hfs34 := blk_frozen BK305.out 0
 have hns34_0 := NB301_305.out
 have hns34_1 := NB302_305.out
 have hms34_0 := NB305_301.out
 have hms34_1 := NB305_302.out
 have hs35 : w33.cell? ⟨gb305, 1, none⟩ = some (.int .i64 0) := (blk_cell BK305.out 1).trans rfl
 have hfs35 := blk_frozen BK305.out 1
 have hns35_0 := NB301_305.out
 have hns35_1 := NB302_305.out
 have hms35_0 := NB305_301.out
 have hms35_1 := NB305_302.out
 have hs36 : w33.cell? ⟨gb305, 2, none⟩ = some (.int .i64 0) := (blk_cell BK305.out 2).trans rfl
 have hfs36 := blk_frozen BK305.out 2
 have hns36_0 := NB301_305.out
 have hns36_1 := NB302_305.out
 have hms36_0 := NB305_301.out
 have hms36_1 := NB305_302.out
 have hs37 : w33.cell? ⟨gb305, 3, none⟩ = some (.int .i64 0) := (blk_cell BK305.out 3).trans rfl
 have hfs37 := blk_frozen BK305.out 3
 have hns37_0 := NB301_305.out
 have hns37_1 := NB302_305.out
 have hms37_0 := NB305_301.out
 have hms37_1 := NB305_302.out
 have hs38 : w33.cell? ⟨gb305, 4, none⟩ = some (.int .i64 0) := (blk_cell BK305.out 4).trans rfl
 have hfs38 := blk_frozen BK305.out 4
 have hns38_0 := NB301_305.out
 have hns38_1 := NB302_305.out
 have hms38_0 := NB305_301.out
 have hms38_1 := NB305_302.out
 have hs39 : w33.cell? ⟨gb305, 5, none⟩ = some (.int .i64 0) := (blk_cell BK305.out 5).trans rfl
 have hfs39 := blk_frozen BK305.out 5
 have hns39_0 := NB301_305.out
 have hns39_1 := NB302_305.out
 have hms39_0 := NB305_301.out
 have hms39_1 := NB305_302.out
 have hs40 : w33.cell? ⟨gb305, 6, none⟩ = some (.string (⟨#[]⟩ : ByteArray)) := (blk_cell BK305.out 6).trans rfl
 have hfs40 := blk_frozen BK305.out 6
 have hns40_0 := NB301_305.out
 have hns40_1 := NB302_305.out
 have hms40_0 := NB305_301.out
 have hms40_1 := NB305_302.out
 have hs41 : w33.cell? ⟨gb305, 7, none⟩ = some (.slice none 0 0) := (blk_cell BK305.out 7).trans rfl
 have hfs41 := blk_frozen BK305.out 7
 have hns41_0 := NB301_305.out
 have hns41_1 := NB302_305.out
 have hms41_0 := NB305_301.out
 have hms41_1 := NB305_302.out
 refine skip_ (w1 := ?_) (by rfl) rfl ?_ ?_
 rotate_left
 ·go_simp
  rfl
 refine hK.out _ _ ⟨((cell_far (p := ⟨gb305, _, none⟩) NB301_305.out _).trans (((cell_far (p := ⟨gb305, _, none⟩) NB301_305.out _).trans (((cell_far (p := ⟨gb305, _, none⟩) NB301_305.out _).trans (((cell_far (p := ⟨gb305, _, none⟩) NB301_305.out _).trans (((cell_far (p := ⟨gb305, _, none⟩) NB301_305.out _).trans (((cell_far (p := ⟨gb305, _, none⟩) NB301_305.out _).trans (((cell_far (p := ⟨gb305, _, none⟩) NB301_305.out _).trans (((cell_far (p := ⟨gb305, _, none⟩) NB301_305.out _).trans (hHeld.1)))))))))))))))), ((cell_far (p := ⟨gb305, _, none⟩) NB301_305.out _).trans (((cell_far (p := ⟨gb305, _, none⟩) NB301_305.out _).trans (((cell_far (p := ⟨gb305, _, none⟩) NB301_305.out _).trans (((cell_far (p := ⟨gb305, _, none⟩) NB301_305.out _).trans (((cell_far (p := ⟨gb305, _, none⟩) NB301_305.out _).trans (((cell_far (p := ⟨gb305, _, none⟩) NB301_305.out _).trans (((cell_far (p := ⟨gb305, _, none⟩) NB301_305.out _).trans (((cell_far (p := ⟨gb305, _, none⟩) NB301_305.out _).trans (hHeld.2.1)))))))))))))))), ((cell_far (p := ⟨gb305, _, none⟩) NB301_305.out _).trans (((cell_far (p := ⟨gb305, _, none⟩) NB301_305.out _).trans (((cell_far (p := ⟨gb305, _, none⟩) NB301_305.out _).trans (((cell_far (p := ⟨gb305, _, none⟩) NB301_305.out _).trans (((cell_far (p := ⟨gb305, _, none⟩) NB301_305.out _).trans (((cell_far (p := ⟨gb305, _, none⟩) NB301_305.out _).trans (((cell_far (p := ⟨gb305, _, none⟩) NB301_305.out _).trans (((cell_far (p := ⟨gb305, _, none⟩) NB301_305.out _).trans (hHeld.2.2.1)))))))))))))))), ((cell_far (p := ⟨gb305, _, none⟩) NB301_305.out _).trans (((cell_far (p := ⟨gb305, _, none⟩) NB301_305.out _).trans (((cell_far (p := ⟨gb305, _, none⟩) NB301_305.out _).trans (((cell_far (p := ⟨gb305, _, none⟩) NB301_305.out _).trans (((cell_far (p := ⟨gb305, _, none⟩) NB301_305.out _).trans (((cell_far (p := ⟨gb305, _, none⟩) NB301_305.out _).trans (((cell_far (p := ⟨gb305, _, none⟩) NB301_305.out _).trans (((cell_far (p := ⟨gb305, _, none⟩) NB301_305.out _).trans (hHeld.2.2.2.1)))))))))))))))), ((cell_far (p := ⟨gb305, _, none⟩) NB301_305.out _).trans (((cell_far (p := ⟨gb305, _, none⟩) NB301_305.out _).trans (((cell_far (p := ⟨gb305, _, none⟩) NB301_305.out _).trans (((cell_far (p := ⟨gb305, _, none⟩) NB301_305.out _).trans (((cell_far (p := ⟨gb305, _, none⟩) NB301_305.out _).trans (((cell_far (p := ⟨gb305, _, none⟩) NB301_305.out _).trans (((cell_far (p := ⟨gb305, _, none⟩) NB301_305.out _).trans (((cell_far (p := ⟨gb305, _, none⟩) NB301_305.out _).trans (hHeld.2.2.2.2.1)))))))))))))))), ((cell_far (p := ⟨gb305, _, none⟩) NB301_305.out _).trans (((cell_far (p := ⟨gb305, _, none⟩) NB301_305.out _).trans (((cell_far (p := ⟨gb305, _, none⟩) NB301_305.out _).trans (((cell_far (p := ⟨gb305, _, none⟩) NB301_305.out _).trans (((cell_far (p := ⟨gb305, _, none⟩) NB301_305.out _).trans (((cell_far (p := ⟨gb305, _, none⟩) NB301_305.out _).trans (((cell_far (p := ⟨gb305, _, none⟩) NB301_305.out _).trans (((cell_far (p := ⟨gb305, _, none⟩) NB301_305.out _).trans (hHeld.2.2.2.2.2.1)))))))))))))))), ((cell_far (p := ⟨gb305, _, none⟩) NB301_305.out _).trans (((cell_far (p := ⟨gb305, _, none⟩) NB301_305.out _).trans (((cell_far (p := ⟨gb305, _, none⟩) NB301_305.out _).trans (((cell_far (p := ⟨gb305, _, none⟩) NB301_305.out _).trans (((cell_far (p := ⟨gb305, _, none⟩) NB301_305.out _).trans (((cell_far (p := ⟨gb305, _, none⟩) NB301_305.out _).trans (((cell_far (p := ⟨gb305, _, none⟩) NB301_305.out _).trans (((cell_far (p := ⟨gb305, _, none⟩) NB301_305.out _).trans (hHeld.2.2.2.2.2.2.1)))))))))))))))), ((cell_far (p := ⟨gb305, _, none⟩) NB301_305.out _).trans (((cell_far (p := ⟨gb305, _, none⟩) NB301_305.out _).trans (((cell_far (p := ⟨gb305, _, none⟩) NB301_305.out _).trans (((cell_far (p := ⟨gb305, _, none⟩) NB301_305.out _).trans (((cell_far (p := ⟨gb305, _, none⟩) NB301_305.out _).trans (((cell_far (p := ⟨gb305, _, none⟩) NB301_305.out _).trans (((cell_far (p := ⟨gb305, _, none⟩) NB301_305.out _).trans (((cell_far (p := ⟨gb305, _, none⟩) NB301_305.out _).trans (hHeld.2.2.2.2.2.2.2.1)))))))))))))))), ((cell_far (p := ⟨gb305, _, none⟩) NB301_305.out _).trans (((cell_far (p := ⟨gb305, _, none⟩) NB301_305.out _).trans (((cell_far (p := ⟨gb305, _, none⟩) NB301_305.out _).trans (((cell_far (p := ⟨gb305, _, none⟩) NB301_305.out _).trans (((cell_far (p := ⟨gb305, _, none⟩) NB301_305.out _).trans (((cell_far (p := ⟨gb305, _, none⟩) NB301_305.out _).trans (((cell_far (p := ⟨gb305, _, none⟩) NB301_305.out _).trans (((cell_far (p := ⟨gb305, _, none⟩) NB301_305.out _).trans (hHeld.2.2.2.2.2.2.2.2))))))))))))))))⟩ (fun hHeld => ?_)
 clear hK K
 refine done_ (done_of HT_.out (by kernel_rfl)) ?_
 have H := HH_.out
 clear HH_
 by_cases c6 : t304 = 0
 ·rw [if_pos c6] at H
  have c6b0 : (t304 == 0) = true := beq_iff_eq.mpr c6
  have c6b1 : (t304 != 0) = false := bne_eq_false_iff_eq.mpr c6
  clear c6
  simp only [Option.some.injEq, Prod.mk.injEq] at H
  obtain ⟨rfl, rfl, rfl, rfl, rfl, rfl, rfl, rfl, rfl⟩ := H
  have hnb21 := NB305_301.out
  have hnc21 := NB301_305.out
  have hnb22 := NB305_302.out
  have hnc22 := NB302_305.out
  obtain ⟨hcz23_0, hcz23_1, hcz23_2, hcz23_3, hcz23_4, hcz23_5, hcz23_6, hcz23_7, hfz23_0, hfz23_1, hfz23_2, hfz23_3, hfz23_4, hfz23_5, hfz23_6, hfz23_7⟩ := blk_all8 BK305.out
  have hnb24 := NB302_301.out
  have hnc24 := NB301_302.out
  obtain ⟨hcz25_0, hcz25_1, hcz25_2, hcz25_3, hcz25_4, hcz25_5, hcz25_6, hcz25_7, hfz25_0, hfz25_1, hfz25_2, hfz25_3, hfz25_4, hfz25_5, hfz25_6, hfz25_7⟩ := blk_all8 BK302.out
  try go_wp2
  refine bodyPost_ret (results_ct rfl _ _ gb302 45 #[.string (⟨#[]⟩ : ByteArray), .int .i64 0, .int .i64 0, .int .i64 0, .int .i64 0, .int .i64 0, .string (⟨#[]⟩ : ByteArray), .slice none 0 0] (0, 0) _ rfl (by (with_reducible repeat (first | refine blk_drewN ?_ _ | refine blk_drew ?_ | refine blk_alloc ?_ _)); refine blk_put (cs := #[.string (⟨#[]⟩ : ByteArray), .int .i64 0, .int .i64 0, .int .i64 0, .int .i64 0, .int .i64 0, .string (⟨#[]⟩ : ByteArray), .slice none 0 0]) ?_ 7 _ rfl; (with_reducible repeat (first | refine blk_drewN ?_ _ | refine blk_drew ?_ | refine blk_alloc ?_ _)); refine blk_put (cs := #[.string (⟨#[]⟩ : ByteArray), .int .i64 0, .int .i64 0, .int .i64 0, .int .i64 0, .int .i64 0, .string (⟨#[]⟩ : ByteArray), .slice none 0 0]) ?_ 6 _ rfl; (with_reducible repeat (first | refine blk_drewN ?_ _ | refine blk_drew ?_ | refine blk_alloc ?_ _)); refine blk_put (cs := #[.string (⟨#[]⟩ : ByteArray), .int .i64 0, .int .i64 0, .int .i64 0, .int .i64 0, .int .i64 0, .string (⟨#[]⟩ : ByteArray), .slice none 0 0]) ?_ 5 _ rfl; (with_reducible repeat (first | refine blk_drewN ?_ _ | refine blk_drew ?_ | refine blk_alloc ?_ _)); refine blk_put (cs := #[.string (⟨#[]⟩ : ByteArray), .int .i64 0, .int .i64 0, .int .i64 0, .int .i64 0, .int .i64 0, .string (⟨#[]⟩ : ByteArray), .slice none 0 0]) ?_ 4 _ rfl; (with_reducible repeat (first | refine blk_drewN ?_ _ | refine blk_drew ?_ | refine blk_alloc ?_ _)); refine blk_put (cs := #[.string (⟨#[]⟩ : ByteArray), .int .i64 0, .int .i64 0, .int .i64 0, .int .i64 0, .int .i64 0, .string (⟨#[]⟩ : ByteArray), .slice none 0 0]) ?_ 3 _ rfl; (with_reducible repeat (first | refine blk_drewN ?_ _ | refine blk_drew ?_ | refine blk_alloc ?_ _)); refine blk_put (cs := #[.string (⟨#[]⟩ : ByteArray), .int .i64 0, .int .i64 0, .int .i64 0, .int .i64 0, .int .i64 0, .string (⟨#[]⟩ : ByteArray), .slice none 0 0]) ?_ 2 _ rfl; (with_reducible repeat (first | refine blk_drewN ?_ _ | refine blk_drew ?_ | refine blk_alloc ?_ _)); refine blk_put (cs := #[.string (⟨#[]⟩ : ByteArray), .int .i64 0, .int .i64 0, .int .i64 0, .int .i64 0, .int .i64 0, .string (⟨#[]⟩ : ByteArray), .slice none 0 0]) ?_ 1 _ rfl; (with_reducible repeat (first | refine blk_drewN ?_ _ | refine blk_drew ?_ | refine blk_alloc ?_ _)); refine blk_put (cs := #[.string (⟨#[]⟩ : ByteArray), .int .i64 0, .int .i64 0, .int .i64 0, .int .i64 0, .int .i64 0, .string (⟨#[]⟩ : ByteArray), .slice none 0 0]) ?_ 0 _ rfl; (with_reducible repeat (first | refine blk_drewN ?_ _ | refine blk_drew ?_ | refine blk_alloc ?_ _)); refine blk_far ?_ NB302_305.out _; (with_reducible repeat (first | refine blk_drewN ?_ _ | refine blk_drew ?_ | refine blk_alloc ?_ _)); refine blk_far ?_ NB302_305.out _; (with_reducible repeat (first | refine blk_drewN ?_ _ | refine blk_drew ?_ | refine blk_alloc ?_ _)); refine blk_far ?_ NB302_305.out _; (with_reducible repeat (first | refine blk_drewN ?_ _ | refine blk_drew ?_ | refine blk_alloc ?_ _)); refine blk_far ?_ NB302_305.out _; (with_reducible repeat (first | refine blk_drewN ?_ _ | refine blk_drew ?_ | refine blk_alloc ?_ _)); refine blk_far ?_ NB302_305.out _; (with_reducible repeat (first | refine blk_drewN ?_ _ | refine blk_drew ?_ | refine blk_alloc ?_ _)); refine blk_far ?_ NB302_305.out _; (with_reducible repeat (first | refine blk_drewN ?_ _ | refine blk_drew ?_ | refine blk_alloc ?_ _)); refine blk_far ?_ NB302_305.out _; (with_reducible repeat (first | refine blk_drewN ?_ _ | refine blk_drew ?_ | refine blk_alloc ?_ _)); refine blk_far ?_ NB302_305.out _; (with_reducible repeat (first | refine blk_drewN ?_ _ | refine blk_drew ?_ | refine blk_alloc ?_ _)); exact BK302.out) Tryz.underlying45 rfl (by kernel_rfl)) rfl ?_
  exact ⟨_, by first | rfl | (simp [errW_none, errW_some] <;> rfl) | (simp [*, errW_none, errW_some] <;> rfl), (by exact Kd.V_nil _ _ _ _ _), by repeat (first | (with_reducible first | exact HB.out | apply below_alloc | apply pw_below_drewN | apply below_drew1 | refine below_set ?_ GE301.out | refine below_set ?_ GE302.out | refine below_set ?_ GE305.out) | exact HB.out)⟩
 ·rw [if_neg c6] at H
  have c6b0 : (t304 == 0) = false := beq_eq_false_iff_ne.mpr c6
  have c6b1 : (t304 != 0) = true := bne_iff_ne.mpr c6
  replace H := Option.bind_eq_some_iff.mp H
  obtain ⟨⟨t306, t307⟩, A260, H⟩ := H
  try dsimp only at H
  have A26 := Aside0.mk A260
  clear A260
  have HC27 := Aside0.mk H
  clear H
  have hnb42 := NB305_301.out
  have hnc42 := NB301_305.out
  have hnb43 := NB305_302.out
  have hnc43 := NB302_305.out
  obtain ⟨hcz44_0, hcz44_1, hcz44_2, hcz44_3, hcz44_4, hcz44_5, hcz44_6, hcz44_7, hfz44_0, hfz44_1, hfz44_2, hfz44_3, hfz44_4, hfz44_5, hfz44_6, hfz44_7⟩ := blk_all8 BK305.out
  go_upto_if 36 with (first | ((with_reducible refine gate_callee (f := 26) rfl ?_); refine goesA_ (some 33) Tryz.func26 #[.slice A1 l1.length c1, .string (⟨#[112, 97, 116, 104]⟩ : ByteArray)] ?_; (with_reducible refine (thwartref06_Find.calls k _ _ l1 (⟨#[112, 97, 116, 104]⟩ : ByteArray) t306 t307 _ ?side1 ?side2 A26.out).mono ?_); (case side1 => exact Kd.C_below HR1.out belA_); (case side2 => exact HC1.out); rintro e w' ⟨rfl, ⟨nd, rfl⟩⟩; refine ⟨_, rfl, ?_⟩))
  (try simp only [Act.put, List.setIfInBounds_toArray, List.set_cons_zero, List.set_cons_succ])
  go_cut [] (fun wc => ∃ (kq : Nat) (x306000_26 : ByteArray), Aside0 (thwartref08_From.j0 kq l1 l2 x306000_26 t304 a0_2 a0_3 a0_4 a0_5 a0_8 = some (r1, r2, r3, r4, r5, r6, r7, r8, r9)) ∧ Aside0 (kq ≤ k) ∧ Aside0 (Kd.V (Kd.int .u8) 5 wc w.heap.size (fun k_ => (P2_ k_ ∨ w.heap.size ≤ k_) ∧ k_ ≠ gb301 ∧ k_ ≠ gb302 ∧ k_ ≠ gb305) (.slice A2 l2.length c2) l2) ∧ Aside0 (wc.heap[gb301]? = some (.cells #[.string a0_0, .string a0_1, .int .i64 a0_2, .int .i64 a0_3, .int .i64 a0_4, .int .i64 a0_5, .int .i64 a0_6, .int .u8 a0_7, .string a0_8] 29 (0, 0))) ∧ Aside0 (wc.heap[gb302]? = some (.cells #[.string (⟨#[]⟩ : ByteArray), .int .i64 0, .int .i64 0, .int .i64 0, .int .i64 0, .int .i64 0, .string (⟨#[]⟩ : ByteArray), (.slice none 0 0)] 45 (0, 0))) ∧ Aside0 (wc.heap[gb305]? = some (.cells #[.string x306000_26, .int .i64 t304, .int .i64 a0_2, .int .i64 a0_3, .int .i64 a0_4, .int .i64 a0_5, .string a0_8, (.slice none 0 0)] 45 (0, 0))) ∧ Aside0 (Below w.heap.size w wc))
  case first =>
   have H := HC27.out
   clear HC27
   by_cases c45 : t307 = true
   ·subst c45
    have H1 := H; rw [if_pos rfl] at H1
    clear H
    have H := H1
    clear H1
    have H' := Aside0.mk H
    clear H
    have hnb46 := NB305_301.out
    have hnc46 := NB301_305.out
    have hnb47 := NB305_302.out
    have hnc47 := NB302_305.out
    obtain ⟨hcz48_0, hcz48_1, hcz48_2, hcz48_3, hcz48_4, hcz48_5, hcz48_6, hcz48_7, hfz48_0, hfz48_1, hfz48_2, hfz48_3, hfz48_4, hfz48_5, hfz48_6, hfz48_7⟩ := blk_all8 BK305.out
    go_wp2
    go_meet
    case rel => exact ⟨_, (t306), H', ⟨by first | omega | exact Nat.le_refl _⟩, ⟨by with_reducible repeat (first | exact HO2.out | apply Kd.V_alloc | apply Kd.V_drewN | apply Kd.V_drew | refine Kd.V_far ?_ (fun _ hk => hk.2.2.2) _)⟩, ⟨by (with_reducible repeat (first | refine blk_drewN ?_ _ | refine blk_drew ?_ | refine blk_alloc ?_ _)); refine blk_far ?_ NB301_305.out _; (with_reducible repeat (first | refine blk_drewN ?_ _ | refine blk_drew ?_ | refine blk_alloc ?_ _)); refine blk_far ?_ NB301_305.out _; (with_reducible repeat (first | refine blk_drewN ?_ _ | refine blk_drew ?_ | refine blk_alloc ?_ _)); refine blk_far ?_ NB301_305.out _; (with_reducible repeat (first | refine blk_drewN ?_ _ | refine blk_drew ?_ | refine blk_alloc ?_ _)); refine blk_far ?_ NB301_305.out _; (with_reducible repeat (first | refine blk_drewN ?_ _ | refine blk_drew ?_ | refine blk_alloc ?_ _)); refine blk_far ?_ NB301_305.out _; (with_reducible repeat (first | refine blk_drewN ?_ _ | refine blk_drew ?_ | refine blk_alloc ?_ _)); refine blk_far ?_ NB301_305.out _; (with_reducible repeat (first | refine blk_drewN ?_ _ | refine blk_drew ?_ | refine blk_alloc ?_ _)); refine blk_far ?_ NB301_305.out _; (with_reducible repeat (first | refine blk_drewN ?_ _ | refine blk_drew ?_ | refine blk_alloc ?_ _)); refine blk_far ?_ NB301_305.out _; (with_reducible repeat (first | refine blk_drewN ?_ _ | refine blk_drew ?_ | refine blk_alloc ?_ _)); refine blk_far ?_ NB301_305.out _; (with_reducible repeat (first | refine blk_drewN ?_ _ | refine blk_drew ?_ | refine blk_alloc ?_ _)); exact BK301.out⟩, ⟨by (with_reducible repeat (first | refine blk_drewN ?_ _ | refine blk_drew ?_ | refine blk_alloc ?_ _)); refine blk_far ?_ NB302_305.out _; (with_reducible repeat (first | refine blk_drewN ?_ _ | refine blk_drew ?_ | refine blk_alloc ?_ _)); refine blk_far ?_ NB302_305.out _; (with_reducible repeat (first | refine blk_drewN ?_ _ | refine blk_drew ?_ | refine blk_alloc ?_ _)); refine blk_far ?_ NB302_305.out _; (with_reducible repeat (first | refine blk_drewN ?_ _ | refine blk_drew ?_ | refine blk_alloc ?_ _)); refine blk_far ?_ NB302_305.out _; (with_reducible repeat (first | refine blk_drewN ?_ _ | refine blk_drew ?_ | refine blk_alloc ?_ _)); refine blk_far ?_ NB302_305.out _; (with_reducible repeat (first | refine blk_drewN ?_ _ | refine blk_drew ?_ | refine blk_alloc ?_ _)); refine blk_far ?_ NB302_305.out _; (with_reducible repeat (first | refine blk_drewN ?_ _ | refine blk_drew ?_ | refine blk_alloc ?_ _)); refine blk_far ?_ NB302_305.out _; (with_reducible repeat (first | refine blk_drewN ?_ _ | refine blk_drew ?_ | refine blk_alloc ?_ _)); refine blk_far ?_ NB302_305.out _; (with_reducible repeat (first | refine blk_drewN ?_ _ | refine blk_drew ?_ | refine blk_alloc ?_ _)); refine blk_far ?_ NB302_305.out _; (with_reducible repeat (first | refine blk_drewN ?_ _ | refine blk_drew ?_ | refine blk_alloc ?_ _)); exact BK302.out⟩, ⟨by (with_reducible repeat (first | refine blk_drewN ?_ _ | refine blk_drew ?_ | refine blk_alloc ?_ _)); refine blk_put (cs := #[.string t303, .int .i64 t304, .int .i64 a0_2, .int .i64 a0_3, .int .i64 a0_4, .int .i64 a0_5, .string a0_8, .slice none 0 0]) ?_ 0 _ rfl; (with_reducible repeat (first | refine blk_drewN ?_ _ | refine blk_drew ?_ | refine blk_alloc ?_ _)); refine blk_put (cs := #[.string t303, .int .i64 t304, .int .i64 a0_2, .int .i64 a0_3, .int .i64 a0_4, .int .i64 a0_5, .string a0_8, .slice none 0 0]) ?_ 7 _ rfl; (with_reducible repeat (first | refine blk_drewN ?_ _ | refine blk_drew ?_ | refine blk_alloc ?_ _)); refine blk_put (cs := #[.string t303, .int .i64 t304, .int .i64 a0_2, .int .i64 a0_3, .int .i64 a0_4, .int .i64 a0_5, .string (⟨#[]⟩ : ByteArray), .slice none 0 0]) ?_ 6 _ rfl; (with_reducible repeat (first | refine blk_drewN ?_ _ | refine blk_drew ?_ | refine blk_alloc ?_ _)); refine blk_put (cs := #[.string t303, .int .i64 t304, .int .i64 a0_2, .int .i64 a0_3, .int .i64 a0_4, .int .i64 0, .string (⟨#[]⟩ : ByteArray), .slice none 0 0]) ?_ 5 _ rfl; (with_reducible repeat (first | refine blk_drewN ?_ _ | refine blk_drew ?_ | refine blk_alloc ?_ _)); refine blk_put (cs := #[.string t303, .int .i64 t304, .int .i64 a0_2, .int .i64 a0_3, .int .i64 0, .int .i64 0, .string (⟨#[]⟩ : ByteArray), .slice none 0 0]) ?_ 4 _ rfl; (with_reducible repeat (first | refine blk_drewN ?_ _ | refine blk_drew ?_ | refine blk_alloc ?_ _)); refine blk_put (cs := #[.string t303, .int .i64 t304, .int .i64 a0_2, .int .i64 0, .int .i64 0, .int .i64 0, .string (⟨#[]⟩ : ByteArray), .slice none 0 0]) ?_ 3 _ rfl; (with_reducible repeat (first | refine blk_drewN ?_ _ | refine blk_drew ?_ | refine blk_alloc ?_ _)); refine blk_put (cs := #[.string t303, .int .i64 t304, .int .i64 0, .int .i64 0, .int .i64 0, .int .i64 0, .string (⟨#[]⟩ : ByteArray), .slice none 0 0]) ?_ 2 _ rfl; (with_reducible repeat (first | refine blk_drewN ?_ _ | refine blk_drew ?_ | refine blk_alloc ?_ _)); refine blk_put (cs := #[.string t303, .int .i64 0, .int .i64 0, .int .i64 0, .int .i64 0, .int .i64 0, .string (⟨#[]⟩ : ByteArray), .slice none 0 0]) ?_ 1 _ rfl; (with_reducible repeat (first | refine blk_drewN ?_ _ | refine blk_drew ?_ | refine blk_alloc ?_ _)); refine blk_put (cs := #[.string (⟨#[]⟩ : ByteArray), .int .i64 0, .int .i64 0, .int .i64 0, .int .i64 0, .int .i64 0, .string (⟨#[]⟩ : ByteArray), .slice none 0 0]) ?_ 0 _ rfl; (with_reducible repeat (first | refine blk_drewN ?_ _ | refine blk_drew ?_ | refine blk_alloc ?_ _)); exact BK305.out⟩, ⟨by repeat (first | (with_reducible first | exact HB.out | apply below_alloc | apply pw_below_drewN | apply below_drew1 | refine below_set ?_ GE301.out | refine below_set ?_ GE302.out | refine below_set ?_ GE305.out) | exact HB.out)⟩⟩
   ·replace c45 := Bool.eq_false_iff.mpr c45
    subst c45
    have H1 := H; rw [if_neg (show ¬ (false = true) by decide)] at H1
    clear H
    have H := H1
    clear H1
    have H' := Aside0.mk H
    clear H
    go_wp2
    go_meet
    case rel => exact ⟨_, (t303), H', ⟨by first | omega | exact Nat.le_refl _⟩, ⟨by with_reducible repeat (first | exact HO2.out | apply Kd.V_alloc | apply Kd.V_drewN | apply Kd.V_drew | refine Kd.V_far ?_ (fun _ hk => hk.2.2.2) _)⟩, ⟨by (with_reducible repeat (first | refine blk_drewN ?_ _ | refine blk_drew ?_ | refine blk_alloc ?_ _)); refine blk_far ?_ NB301_305.out _; (with_reducible repeat (first | refine blk_drewN ?_ _ | refine blk_drew ?_ | refine blk_alloc ?_ _)); refine blk_far ?_ NB301_305.out _; (with_reducible repeat (first | refine blk_drewN ?_ _ | refine blk_drew ?_ | refine blk_alloc ?_ _)); refine blk_far ?_ NB301_305.out _; (with_reducible repeat (first | refine blk_drewN ?_ _ | refine blk_drew ?_ | refine blk_alloc ?_ _)); refine blk_far ?_ NB301_305.out _; (with_reducible repeat (first | refine blk_drewN ?_ _ | refine blk_drew ?_ | refine blk_alloc ?_ _)); refine blk_far ?_ NB301_305.out _; (with_reducible repeat (first | refine blk_drewN ?_ _ | refine blk_drew ?_ | refine blk_alloc ?_ _)); refine blk_far ?_ NB301_305.out _; (with_reducible repeat (first | refine blk_drewN ?_ _ | refine blk_drew ?_ | refine blk_alloc ?_ _)); refine blk_far ?_ NB301_305.out _; (with_reducible repeat (first | refine blk_drewN ?_ _ | refine blk_drew ?_ | refine blk_alloc ?_ _)); refine blk_far ?_ NB301_305.out _; (with_reducible repeat (first | refine blk_drewN ?_ _ | refine blk_drew ?_ | refine blk_alloc ?_ _)); exact BK301.out⟩, ⟨by (with_reducible repeat (first | refine blk_drewN ?_ _ | refine blk_drew ?_ | refine blk_alloc ?_ _)); refine blk_far ?_ NB302_305.out _; (with_reducible repeat (first | refine blk_drewN ?_ _ | refine blk_drew ?_ | refine blk_alloc ?_ _)); refine blk_far ?_ NB302_305.out _; (with_reducible repeat (first | refine blk_drewN ?_ _ | refine blk_drew ?_ | refine blk_alloc ?_ _)); refine blk_far ?_ NB302_305.out _; (with_reducible repeat (first | refine blk_drewN ?_ _ | refine blk_drew ?_ | refine blk_alloc ?_ _)); refine blk_far ?_ NB302_305.out _; (with_reducible repeat (first | refine blk_drewN ?_ _ | refine blk_drew ?_ | refine blk_alloc ?_ _)); refine blk_far ?_ NB302_305.out _; (with_reducible repeat (first | refine blk_drewN ?_ _ | refine blk_drew ?_ | refine blk_alloc ?_ _)); refine blk_far ?_ NB302_305.out _; (with_reducible repeat (first | refine blk_drewN ?_ _ | refine blk_drew ?_ | refine blk_alloc ?_ _)); refine blk_far ?_ NB302_305.out _; (with_reducible repeat (first | refine blk_drewN ?_ _ | refine blk_drew ?_ | refine blk_alloc ?_ _)); refine blk_far ?_ NB302_305.out _; (with_reducible repeat (first | refine blk_drewN ?_ _ | refine blk_drew ?_ | refine blk_alloc ?_ _)); exact BK302.out⟩, ⟨by (with_reducible repeat (first | refine blk_drewN ?_ _ | refine blk_drew ?_ | refine blk_alloc ?_ _)); refine blk_put (cs := #[.string t303, .int .i64 t304, .int .i64 a0_2, .int .i64 a0_3, .int .i64 a0_4, .int .i64 a0_5, .string a0_8, .slice none 0 0]) ?_ 7 _ rfl; (with_reducible repeat (first | refine blk_drewN ?_ _ | refine blk_drew ?_ | refine blk_alloc ?_ _)); refine blk_put (cs := #[.string t303, .int .i64 t304, .int .i64 a0_2, .int .i64 a0_3, .int .i64 a0_4, .int .i64 a0_5, .string (⟨#[]⟩ : ByteArray), .slice none 0 0]) ?_ 6 _ rfl; (with_reducible repeat (first | refine blk_drewN ?_ _ | refine blk_drew ?_ | refine blk_alloc ?_ _)); refine blk_put (cs := #[.string t303, .int .i64 t304, .int .i64 a0_2, .int .i64 a0_3, .int .i64 a0_4, .int .i64 0, .string (⟨#[]⟩ : ByteArray), .slice none 0 0]) ?_ 5 _ rfl; (with_reducible repeat (first | refine blk_drewN ?_ _ | refine blk_drew ?_ | refine blk_alloc ?_ _)); refine blk_put (cs := #[.string t303, .int .i64 t304, .int .i64 a0_2, .int .i64 a0_3, .int .i64 0, .int .i64 0, .string (⟨#[]⟩ : ByteArray), .slice none 0 0]) ?_ 4 _ rfl; (with_reducible repeat (first | refine blk_drewN ?_ _ | refine blk_drew ?_ | refine blk_alloc ?_ _)); refine blk_put (cs := #[.string t303, .int .i64 t304, .int .i64 a0_2, .int .i64 0, .int .i64 0, .int .i64 0, .string (⟨#[]⟩ : ByteArray), .slice none 0 0]) ?_ 3 _ rfl; (with_reducible repeat (first | refine blk_drewN ?_ _ | refine blk_drew ?_ | refine blk_alloc ?_ _)); refine blk_put (cs := #[.string t303, .int .i64 t304, .int .i64 0, .int .i64 0, .int .i64 0, .int .i64 0, .string (⟨#[]⟩ : ByteArray), .slice none 0 0]) ?_ 2 _ rfl; (with_reducible repeat (first | refine blk_drewN ?_ _ | refine blk_drew ?_ | refine blk_alloc ?_ _)); refine blk_put (cs := #[.string t303, .int .i64 0, .int .i64 0, .int .i64 0, .int .i64 0, .int .i64 0, .string (⟨#[]⟩ : ByteArray), .slice none 0 0]) ?_ 1 _ rfl; (with_reducible repeat (first | refine blk_drewN ?_ _ | refine blk_drew ?_ | refine blk_alloc ?_ _)); refine blk_put (cs := #[.string (⟨#[]⟩ : ByteArray), .int .i64 0, .int .i64 0, .int .i64 0, .int .i64 0, .int .i64 0, .string (⟨#[]⟩ : ByteArray), .slice none 0 0]) ?_ 0 _ rfl; (with_reducible repeat (first | refine blk_drewN ?_ _ | refine blk_drew ?_ | refine blk_alloc ?_ _)); exact BK305.out⟩, ⟨by repeat (first | (with_reducible first | exact HB.out | apply below_alloc | apply pw_below_drewN | apply below_drew1 | refine below_set ?_ GE301.out | refine below_set ?_ GE302.out | refine below_set ?_ GE305.out) | exact HB.out)⟩⟩
  case rest =>
   clear HC27
   try clear c1
   try clear c2
   try clear p2
   try clear c4
   try clear c6
   try clear c6b0
   try clear c6b1
   try clear c9
   try clear c12
   try clear c21
   try clear c22
   try clear c24
   try clear c25
   try clear c26
   try clear c42
   try clear c43
   try clear c45
   try clear c46
   try clear c47
   try clear hcz23_0
   try clear hcz23_1
   try clear hcz23_2
   try clear hcz23_3
   try clear hcz23_4
   try clear hcz23_5
   try clear hcz23_6
   try clear hcz23_7
   try clear hcz25_0
   try clear hcz25_1
   try clear hcz25_2
   try clear hcz25_3
   try clear hcz25_4
   try clear hcz25_5
   try clear hcz25_6
   try clear hcz25_7
   try clear hcz44_0
   try clear hcz44_1
   try clear hcz44_2
   try clear hcz44_3
   try clear hcz44_4
   try clear hcz44_5
   try clear hcz44_6
   try clear hcz44_7
   try clear hcz48_0
   try clear hcz48_1
   try clear hcz48_2
   try clear hcz48_3
   try clear hcz48_4
   try clear hcz48_5
   try clear hcz48_6
   try clear hcz48_7
   try clear hfz23_0
   try clear hfz23_1
   try clear hfz23_2
   try clear hfz23_3
   try clear hfz23_4
   try clear hfz23_5
   try clear hfz23_6
   try clear hfz23_7
   try clear hfz25_0
   try clear hfz25_1
   try clear hfz25_2
   try clear hfz25_3
   try clear hfz25_4
   try clear hfz25_5
   try clear hfz25_6
   try clear hfz25_7
   try clear hfz44_0
   try clear hfz44_1
   try clear hfz44_2
   try clear hfz44_3
   try clear hfz44_4
   try clear hfz44_5
   try clear hfz44_6
   try clear hfz44_7
   try clear hfz48_0
   try clear hfz48_1
   try clear hfz48_2
   try clear hfz48_3
   try clear hfz48_4
   try clear hfz48_5
   try clear hfz48_6
   try clear hfz48_7
   obtain ⟨kq, x306000_26, HA, HJ26, HO_2, BK301, BK302, BK305, HB⟩ := hcut
   cases kq with
   | zero => exact absurd HA.out (by simp [thwartref08_From.j0])
   | succ kj26 =>
    have H := HA.out
    clear HA
    simp only [thwartref08_From.j0] at H
    replace H := Option.bind_eq_some_iff.mp H
    obtain ⟨⟨t308, t309⟩, A490, H⟩ := H
    try dsimp only at H
    have A49 := Aside0.mk A490
    clear A490
    have HC50 := Aside0.mk H
    clear H
    go_upto_if 44 with (first | ((with_reducible refine gate_callee (f := 26) rfl ?_); refine goesA_ (some 41) Tryz.func26 #[.slice A1 l1.length c1, .string (⟨#[108, 105, 110, 107, 112, 97, 116, 104]⟩ : ByteArray)] ?_; (with_reducible refine (thwartref06_Find.calls kj26 _ _ l1 (⟨#[108, 105, 110, 107, 112, 97, 116, 104]⟩ : ByteArray) t308 t309 _ ?side1 ?side2 A49.out).mono ?_); (case side1 => repeat (first | exact (Kd.C_below HR1.out HB.out) | (with_reducible refine Kd.C_alloc ?_ _) | (with_reducible refine Kd.C_drewN ?_ _) | (with_reducible refine Kd.C_drew ?_))); (case side2 => exact HC1.out); rintro e w' ⟨rfl, ⟨nd, rfl⟩⟩; refine ⟨_, rfl, ?_⟩))
    (try simp only [Act.put, List.setIfInBounds_toArray, List.set_cons_zero, List.set_cons_succ])
    go_cut [] (fun wc => ∃ (kq : Nat) (x306006_49 : ByteArray), Aside0 (thwartref08_From.j1 kq l2 x306000_26 t304 a0_2 a0_3 a0_4 a0_5 x306006_49 = some (r1, r2, r3, r4, r5, r6, r7, r8, r9)) ∧ Aside0 (kq ≤ kj26) ∧ Aside0 (Kd.V (Kd.int .u8) 5 wc w.heap.size (fun k_ => (P2_ k_ ∨ w.heap.size ≤ k_) ∧ k_ ≠ gb301 ∧ k_ ≠ gb302 ∧ k_ ≠ gb305) (.slice A2 l2.length c2) l2) ∧ Aside0 (wc.heap[gb301]? = some (.cells #[.string a0_0, .string a0_1, .int .i64 a0_2, .int .i64 a0_3, .int .i64 a0_4, .int .i64 a0_5, .int .i64 a0_6, .int .u8 a0_7, .string a0_8] 29 (0, 0))) ∧ Aside0 (wc.heap[gb302]? = some (.cells #[.string (⟨#[]⟩ : ByteArray), .int .i64 0, .int .i64 0, .int .i64 0, .int .i64 0, .int .i64 0, .string (⟨#[]⟩ : ByteArray), (.slice none 0 0)] 45 (0, 0))) ∧ Aside0 (wc.heap[gb305]? = some (.cells #[.string x306000_26, .int .i64 t304, .int .i64 a0_2, .int .i64 a0_3, .int .i64 a0_4, .int .i64 a0_5, .string x306006_49, (.slice none 0 0)] 45 (0, 0))) ∧ Aside0 (Below w.heap.size w wc))
    case first =>
     have H := HC50.out
     clear HC50
     by_cases c51 : t309 = true
     ·subst c51
      have H1 := H; rw [if_pos rfl] at H1
      clear H
      have H := H1
      clear H1
      have H' := Aside0.mk H
      clear H
      have hnb52 := NB305_301.out
      have hnc52 := NB301_305.out
      have hnb53 := NB305_302.out
      have hnc53 := NB302_305.out
      obtain ⟨hcz54_0, hcz54_1, hcz54_2, hcz54_3, hcz54_4, hcz54_5, hcz54_6, hcz54_7, hfz54_0, hfz54_1, hfz54_2, hfz54_3, hfz54_4, hfz54_5, hfz54_6, hfz54_7⟩ := blk_all8 BK305.out
      go_wp2
      go_meet
      case rel => exact ⟨_, (t308), H', ⟨by have := HJ26.out; first | omega | exact Nat.le_refl _⟩, ⟨by with_reducible repeat (first | exact HO_2.out | apply Kd.V_alloc | apply Kd.V_drewN | apply Kd.V_drew | refine Kd.V_far ?_ (fun _ hk => hk.2.2.2) _)⟩, ⟨by (with_reducible repeat (first | refine blk_drewN ?_ _ | refine blk_drew ?_ | refine blk_alloc ?_ _)); refine blk_far ?_ NB301_305.out _; (with_reducible repeat (first | refine blk_drewN ?_ _ | refine blk_drew ?_ | refine blk_alloc ?_ _)); exact BK301.out⟩, ⟨by (with_reducible repeat (first | refine blk_drewN ?_ _ | refine blk_drew ?_ | refine blk_alloc ?_ _)); refine blk_far ?_ NB302_305.out _; (with_reducible repeat (first | refine blk_drewN ?_ _ | refine blk_drew ?_ | refine blk_alloc ?_ _)); exact BK302.out⟩, ⟨by (with_reducible repeat (first | refine blk_drewN ?_ _ | refine blk_drew ?_ | refine blk_alloc ?_ _)); refine blk_put (cs := #[.string x306000_26, .int .i64 t304, .int .i64 a0_2, .int .i64 a0_3, .int .i64 a0_4, .int .i64 a0_5, .string a0_8, .slice none 0 0]) ?_ 6 _ rfl; (with_reducible repeat (first | refine blk_drewN ?_ _ | refine blk_drew ?_ | refine blk_alloc ?_ _)); exact BK305.out⟩, ⟨by repeat (first | (with_reducible first | exact HB.out | apply below_alloc | apply pw_below_drewN | apply below_drew1 | refine below_set ?_ GE301.out | refine below_set ?_ GE302.out | refine below_set ?_ GE305.out) | exact HB.out)⟩⟩
     ·replace c51 := Bool.eq_false_iff.mpr c51
      subst c51
      have H1 := H; rw [if_neg (show ¬ (false = true) by decide)] at H1
      clear H
      have H := H1
      clear H1
      have H' := Aside0.mk H
      clear H
      go_wp2
      go_meet
      case rel => exact ⟨_, (a0_8), H', ⟨by have := HJ26.out; first | omega | exact Nat.le_refl _⟩, ⟨by (with_reducible repeat (first | apply Kd.V_alloc | apply Kd.V_drewN | apply Kd.V_drew)); exact HO_2.out⟩, ⟨by (with_reducible repeat (first | refine blk_drewN ?_ _ | refine blk_drew ?_ | refine blk_alloc ?_ _)); exact BK301.out⟩, ⟨by (with_reducible repeat (first | refine blk_drewN ?_ _ | refine blk_drew ?_ | refine blk_alloc ?_ _)); exact BK302.out⟩, ⟨by (with_reducible repeat (first | refine blk_drewN ?_ _ | refine blk_drew ?_ | refine blk_alloc ?_ _)); exact BK305.out⟩, ⟨by repeat (first | (with_reducible first | exact HB.out | apply below_alloc | apply pw_below_drewN | apply below_drew1 | refine below_set ?_ GE301.out | refine below_set ?_ GE302.out | refine below_set ?_ GE305.out) | exact HB.out)⟩⟩
    case rest =>
     clear HC50
     try clear c1
     try clear c2
     try clear p2
     try clear c4
     try clear c5
     try clear c6
     try clear c6b0
     try clear c6b1
     try clear c9
     try clear c12
     try clear c21
     try clear c22
     try clear c24
     try clear c25
     try clear c26
     try clear c42
     try clear c43
     try clear c45
     try clear c46
     try clear c47
     try clear c51
     try clear c52
     try clear c53
     try clear hcz23_0
     try clear hcz23_1
     try clear hcz23_2
     try clear hcz23_3
     try clear hcz23_4
     try clear hcz23_5
     try clear hcz23_6
     try clear hcz23_7
     try clear hcz25_0
     try clear hcz25_1
     try clear hcz25_2
     try clear hcz25_3
     try clear hcz25_4
     try clear hcz25_5
     try clear hcz25_6
     try clear hcz25_7
     try clear hcz44_0
     try clear hcz44_1
     try clear hcz44_2
     try clear hcz44_3
     try clear hcz44_4
     try clear hcz44_5
     try clear hcz44_6
     try clear hcz44_7
     try clear hcz48_0
     try clear hcz48_1
     try clear hcz48_2
     try clear hcz48_3
     try clear hcz48_4
     try clear hcz48_5
     try clear hcz48_6
     try clear hcz48_7
     try clear hcz54_0
     try clear hcz54_1
     try clear hcz54_2
     try clear hcz54_3
     try clear hcz54_4
     try clear hcz54_5
     try clear hcz54_6
     try clear hcz54_7
     try clear hfz23_0
     try clear hfz23_1
     try clear hfz23_2
     try clear hfz23_3
     try clear hfz23_4
     try clear hfz23_5
     try clear hfz23_6
     try clear hfz23_7
     try clear hfz25_0
     try clear hfz25_1
     try clear hfz25_2
     try clear hfz25_3
     try clear hfz25_4
     try clear hfz25_5
     try clear hfz25_6
     try clear hfz25_7
     try clear hfz44_0
     try clear hfz44_1
     try clear hfz44_2
     try clear hfz44_3
     try clear hfz44_4
     try clear hfz44_5
     try clear hfz44_6
     try clear hfz44_7
     try clear hfz48_0
     try clear hfz48_1
     try clear hfz48_2
     try clear hfz48_3
     try clear hfz48_4
     try clear hfz48_5
     try clear hfz48_6
     try clear hfz48_7
     try clear hfz54_0
     try clear hfz54_1
     try clear hfz54_2
     try clear hfz54_3
     try clear hfz54_4
     try clear hfz54_5
     try clear hfz54_6
     try clear hfz54_7
     try clear p2
     obtain ⟨kq, x306006_49, HA, HJ49, HO_2, BK301, BK302, BK305, HB⟩ := hcut
     cases kq with
     | zero => exact absurd HA.out (by simp [thwartref08_From.j1])
     | succ kj49 =>
      have H := HA.out
      clear HA
      simp only [thwartref08_From.j1] at H
      have HC55 := Aside0.mk H
      clear H
      go_upto_region 10 with (fail)
      go_cut [54] (fun v54 wc => ∃ (kq : Nat) (x54_54 : Bool), v54 = .bool x54_54 ∧ Aside0 (thwartref08_From.j2 kq l2 x54_54 x306000_26 t304 a0_2 a0_3 a0_4 a0_5 x306006_49 = some (r1, r2, r3, r4, r5, r6, r7, r8, r9)) ∧ Aside0 (kq ≤ kj49) ∧ Aside0 (Kd.V (Kd.int .u8) 5 wc w.heap.size (fun k_ => (P2_ k_ ∨ w.heap.size ≤ k_) ∧ k_ ≠ gb301 ∧ k_ ≠ gb302 ∧ k_ ≠ gb305) (.slice A2 l2.length c2) l2) ∧ Aside0 (wc.heap[gb301]? = some (.cells #[.string a0_0, .string a0_1, .int .i64 a0_2, .int .i64 a0_3, .int .i64 a0_4, .int .i64 a0_5, .int .i64 a0_6, .int .u8 a0_7, .string a0_8] 29 (0, 0))) ∧ Aside0 (wc.heap[gb302]? = some (.cells #[.string (⟨#[]⟩ : ByteArray), .int .i64 0, .int .i64 0, .int .i64 0, .int .i64 0, .int .i64 0, .string (⟨#[]⟩ : ByteArray), (.slice none 0 0)] 45 (0, 0))) ∧ Aside0 (wc.heap[gb305]? = some (.cells #[.string x306000_26, .int .i64 t304, .int .i64 a0_2, .int .i64 a0_3, .int .i64 a0_4, .int .i64 a0_5, .string x306006_49, (.slice none 0 0)] 45 (0, 0))) ∧ Aside0 (Below w.heap.size w wc))
      case first =>
       have H := HC55.out
       clear HC55
       by_cases c56 : t304 = 1
       ·rw [if_pos c56] at H
        have c56b0 : (t304 == 1) = true := beq_iff_eq.mpr c56
        have c56b1 : (t304 != 1) = false := bne_eq_false_iff_eq.mpr c56
        clear c56
        (first | rw [c56b0] | (simp only [i64_w, i32_w]; rw [c56b0]) | skip)
        have H' := Aside0.mk H
        clear H
        have hnb57 := NB305_301.out
        have hnc57 := NB301_305.out
        have hnb58 := NB305_302.out
        have hnc58 := NB302_305.out
        obtain ⟨hcz59_0, hcz59_1, hcz59_2, hcz59_3, hcz59_4, hcz59_5, hcz59_6, hcz59_7, hfz59_0, hfz59_1, hfz59_2, hfz59_3, hfz59_4, hfz59_5, hfz59_6, hfz59_7⟩ := blk_all8 BK305.out
        go_wp2
        go_meet
        case rel => exact ⟨_, (true), (by first | rfl | (simp; done) | (simp [*]; done)), H', ⟨by have := HJ26.out; have := HJ49.out; first | omega | exact Nat.le_refl _⟩, ⟨by (with_reducible repeat (first | apply Kd.V_alloc | apply Kd.V_drewN | apply Kd.V_drew)); exact HO_2.out⟩, ⟨by (with_reducible repeat (first | refine blk_drewN ?_ _ | refine blk_drew ?_ | refine blk_alloc ?_ _)); exact BK301.out⟩, ⟨by (with_reducible repeat (first | refine blk_drewN ?_ _ | refine blk_drew ?_ | refine blk_alloc ?_ _)); exact BK302.out⟩, ⟨by (with_reducible repeat (first | refine blk_drewN ?_ _ | refine blk_drew ?_ | refine blk_alloc ?_ _)); exact BK305.out⟩, ⟨by repeat (first | (with_reducible first | exact HB.out | apply below_alloc | apply pw_below_drewN | apply below_drew1 | refine below_set ?_ GE301.out | refine below_set ?_ GE302.out | refine below_set ?_ GE305.out) | exact HB.out)⟩⟩
       ·rw [if_neg c56] at H
        have c56b0 : (t304 == 1) = false := beq_eq_false_iff_ne.mpr c56
        have c56b1 : (t304 != 1) = true := bne_iff_ne.mpr c56
        (first | rw [c56b0] | (simp only [i64_w, i32_w]; rw [c56b0]) | skip)
        have H' := Aside0.mk H
        clear H
        have hnb60 := NB305_301.out
        have hnc60 := NB301_305.out
        have hnb61 := NB305_302.out
        have hnc61 := NB302_305.out
        obtain ⟨hcz62_0, hcz62_1, hcz62_2, hcz62_3, hcz62_4, hcz62_5, hcz62_6, hcz62_7, hfz62_0, hfz62_1, hfz62_2, hfz62_3, hfz62_4, hfz62_5, hfz62_6, hfz62_7⟩ := blk_all8 BK305.out
        go_wp2
        go_meet
        case rel => exact ⟨_, ((t304 == 4)), (by first | rfl | (simp; done) | (simp [*]; done)), H', ⟨by have := HJ26.out; have := HJ49.out; first | omega | exact Nat.le_refl _⟩, ⟨by (with_reducible repeat (first | apply Kd.V_alloc | apply Kd.V_drewN | apply Kd.V_drew)); exact HO_2.out⟩, ⟨by (with_reducible repeat (first | refine blk_drewN ?_ _ | refine blk_drew ?_ | refine blk_alloc ?_ _)); exact BK301.out⟩, ⟨by (with_reducible repeat (first | refine blk_drewN ?_ _ | refine blk_drew ?_ | refine blk_alloc ?_ _)); exact BK302.out⟩, ⟨by (with_reducible repeat (first | refine blk_drewN ?_ _ | refine blk_drew ?_ | refine blk_alloc ?_ _)); exact BK305.out⟩, ⟨by repeat (first | (with_reducible first | exact HB.out | apply below_alloc | apply pw_below_drewN | apply below_drew1 | refine below_set ?_ GE301.out | refine below_set ?_ GE302.out | refine below_set ?_ GE305.out) | exact HB.out)⟩⟩
      case rest =>
       clear HC55
       try clear c1
       try clear c2
       try clear p2
       try clear c4
       try clear c5
       try clear c6
       try clear c6b0
       try clear c6b1
       try clear c9
       try clear c12
       try clear c21
       try clear c22
       try clear c24
       try clear c25
       try clear c26
       try clear c42
       try clear c43
       try clear c45
       try clear c46
       try clear c47
       try clear c51
       try clear c52
       try clear c53
       try clear c56
       try clear c56b0
       try clear c56b1
       try clear c57
       try clear c58
       try clear c60
       try clear c61
       try clear hcz23_0
       try clear hcz23_1
       try clear hcz23_2
       try clear hcz23_3
       try clear hcz23_4
       try clear hcz23_5
       try clear hcz23_6
       try clear hcz23_7
       try clear hcz25_0
       try clear hcz25_1
       try clear hcz25_2
       try clear hcz25_3
       try clear hcz25_4
       try clear hcz25_5
       try clear hcz25_6
       try clear hcz25_7
       try clear hcz44_0
       try clear hcz44_1
       try clear hcz44_2
       try clear hcz44_3
       try clear hcz44_4
       try clear hcz44_5
       try clear hcz44_6
       try clear hcz44_7
       try clear hcz48_0
       try clear hcz48_1
       try clear hcz48_2
       try clear hcz48_3
       try clear hcz48_4
       try clear hcz48_5
       try clear hcz48_6
       try clear hcz48_7
       try clear hcz54_0
       try clear hcz54_1
       try clear hcz54_2
       try clear hcz54_3
       try clear hcz54_4
       try clear hcz54_5
       try clear hcz54_6
       try clear hcz54_7
       try clear hcz59_0
       try clear hcz59_1
       try clear hcz59_2
       try clear hcz59_3
       try clear hcz59_4
       try clear hcz59_5
       try clear hcz59_6
       try clear hcz59_7
       try clear hcz62_0
       try clear hcz62_1
       try clear hcz62_2
       try clear hcz62_3
       try clear hcz62_4
       try clear hcz62_5
       try clear hcz62_6
       try clear hcz62_7
       try clear hfz23_0
       try clear hfz23_1
       try clear hfz23_2
       try clear hfz23_3
       try clear hfz23_4
       try clear hfz23_5
       try clear hfz23_6
       try clear hfz23_7
       try clear hfz25_0
       try clear hfz25_1
       try clear hfz25_2
       try clear hfz25_3
       try clear hfz25_4
       try clear hfz25_5
       try clear hfz25_6
       try clear hfz25_7
       try clear hfz44_0
       try clear hfz44_1
       try clear hfz44_2
       try clear hfz44_3
       try clear hfz44_4
       try clear hfz44_5
       try clear hfz44_6
       try clear hfz44_7
       try clear hfz48_0
       try clear hfz48_1
       try clear hfz48_2
       try clear hfz48_3
       try clear hfz48_4
       try clear hfz48_5
       try clear hfz48_6
       try clear hfz48_7
       try clear hfz54_0
       try clear hfz54_1
       try clear hfz54_2
       try clear hfz54_3
       try clear hfz54_4
       try clear hfz54_5
       try clear hfz54_6
       try clear hfz54_7
       try clear hfz59_0
       try clear hfz59_1
       try clear hfz59_2
       try clear hfz59_3
       try clear hfz59_4
       try clear hfz59_5
       try clear hfz59_6
       try clear hfz59_7
       try clear hfz62_0
       try clear hfz62_1
       try clear hfz62_2
       try clear hfz62_3
       try clear hfz62_4
       try clear hfz62_5
       try clear hfz62_6
       try clear hfz62_7
       try clear p2
       obtain ⟨kq, x54_54, rfl, HA, HJ54, HO_2, BK301, BK302, BK305, HB⟩ := hcut
       cases kq with
       | zero => exact absurd HA.out (by simp [thwartref08_From.j2])
       | succ kj54 =>
        have H := HA.out
        clear HA
        simp only [thwartref08_From.j2] at H
        have HC63 := Aside0.mk H
        clear H
        go_upto_if 54 with (fail)
        go_cut [] (fun wc => ∃ (kq : Nat) (x306006_62 : ByteArray), Aside0 (thwartref08_From.j3 kq l2 x306000_26 t304 a0_2 a0_3 a0_4 a0_5 x306006_62 = some (r1, r2, r3, r4, r5, r6, r7, r8, r9)) ∧ Aside0 (kq ≤ kj54) ∧ Aside0 (Kd.V (Kd.int .u8) 5 wc w.heap.size (fun k_ => (P2_ k_ ∨ w.heap.size ≤ k_) ∧ k_ ≠ gb301 ∧ k_ ≠ gb302 ∧ k_ ≠ gb305) (.slice A2 l2.length c2) l2) ∧ Aside0 (wc.heap[gb301]? = some (.cells #[.string a0_0, .string a0_1, .int .i64 a0_2, .int .i64 a0_3, .int .i64 a0_4, .int .i64 a0_5, .int .i64 a0_6, .int .u8 a0_7, .string a0_8] 29 (0, 0))) ∧ Aside0 (wc.heap[gb302]? = some (.cells #[.string (⟨#[]⟩ : ByteArray), .int .i64 0, .int .i64 0, .int .i64 0, .int .i64 0, .int .i64 0, .string (⟨#[]⟩ : ByteArray), (.slice none 0 0)] 45 (0, 0))) ∧ Aside0 (wc.heap[gb305]? = some (.cells #[.string x306000_26, .int .i64 t304, .int .i64 a0_2, .int .i64 a0_3, .int .i64 a0_4, .int .i64 a0_5, .string x306006_62, (.slice none 0 0)] 45 (0, 0))) ∧ Aside0 (Below w.heap.size w wc))
        case first =>
         have H := HC63.out
         clear HC63
         by_cases c64 : x54_54 = true
         ·subst c64
          have H1 := H; rw [if_pos rfl] at H1
          clear H
          have H := H1
          clear H1
          have H' := Aside0.mk H
          clear H
          have hnb65 := NB305_301.out
          have hnc65 := NB301_305.out
          have hnb66 := NB305_302.out
          have hnc66 := NB302_305.out
          obtain ⟨hcz67_0, hcz67_1, hcz67_2, hcz67_3, hcz67_4, hcz67_5, hcz67_6, hcz67_7, hfz67_0, hfz67_1, hfz67_2, hfz67_3, hfz67_4, hfz67_5, hfz67_6, hfz67_7⟩ := blk_all8 BK305.out
          go_wp2
          go_meet
          case rel => exact ⟨_, ((⟨#[]⟩ : ByteArray)), H', ⟨by have := HJ26.out; have := HJ49.out; have := HJ54.out; first | omega | exact Nat.le_refl _⟩, ⟨by with_reducible repeat (first | exact HO_2.out | apply Kd.V_alloc | apply Kd.V_drewN | apply Kd.V_drew | refine Kd.V_far ?_ (fun _ hk => hk.2.2.2) _)⟩, ⟨by (with_reducible repeat (first | refine blk_drewN ?_ _ | refine blk_drew ?_ | refine blk_alloc ?_ _)); refine blk_far ?_ NB301_305.out _; (with_reducible repeat (first | refine blk_drewN ?_ _ | refine blk_drew ?_ | refine blk_alloc ?_ _)); exact BK301.out⟩, ⟨by (with_reducible repeat (first | refine blk_drewN ?_ _ | refine blk_drew ?_ | refine blk_alloc ?_ _)); refine blk_far ?_ NB302_305.out _; (with_reducible repeat (first | refine blk_drewN ?_ _ | refine blk_drew ?_ | refine blk_alloc ?_ _)); exact BK302.out⟩, ⟨by (with_reducible repeat (first | refine blk_drewN ?_ _ | refine blk_drew ?_ | refine blk_alloc ?_ _)); refine blk_put (cs := #[.string x306000_26, .int .i64 t304, .int .i64 a0_2, .int .i64 a0_3, .int .i64 a0_4, .int .i64 a0_5, .string x306006_49, .slice none 0 0]) ?_ 6 _ rfl; (with_reducible repeat (first | refine blk_drewN ?_ _ | refine blk_drew ?_ | refine blk_alloc ?_ _)); exact BK305.out⟩, ⟨by repeat (first | (with_reducible first | exact HB.out | apply below_alloc | apply pw_below_drewN | apply below_drew1 | refine below_set ?_ GE301.out | refine below_set ?_ GE302.out | refine below_set ?_ GE305.out) | exact HB.out)⟩⟩
         ·replace c64 := Bool.eq_false_iff.mpr c64
          subst c64
          have H1 := H; rw [if_neg (show ¬ (false = true) by decide)] at H1
          clear H
          have H := H1
          clear H1
          have H' := Aside0.mk H
          clear H
          go_wp2
          go_meet
          case rel => exact ⟨_, (x306006_49), H', ⟨by have := HJ26.out; have := HJ49.out; have := HJ54.out; first | omega | exact Nat.le_refl _⟩, ⟨by (with_reducible repeat (first | apply Kd.V_alloc | apply Kd.V_drewN | apply Kd.V_drew)); exact HO_2.out⟩, ⟨by (with_reducible repeat (first | refine blk_drewN ?_ _ | refine blk_drew ?_ | refine blk_alloc ?_ _)); exact BK301.out⟩, ⟨by (with_reducible repeat (first | refine blk_drewN ?_ _ | refine blk_drew ?_ | refine blk_alloc ?_ _)); exact BK302.out⟩, ⟨by (with_reducible repeat (first | refine blk_drewN ?_ _ | refine blk_drew ?_ | refine blk_alloc ?_ _)); exact BK305.out⟩, ⟨by repeat (first | (with_reducible first | exact HB.out | apply below_alloc | apply pw_below_drewN | apply below_drew1 | refine below_set ?_ GE301.out | refine below_set ?_ GE302.out | refine below_set ?_ GE305.out) | exact HB.out)⟩⟩
        case rest =>
         clear HC63
         try clear c1
         try clear c2
         try clear p2
         try clear c4
         try clear c5
         try clear c6
         try clear c6b0
         try clear c6b1
         try clear c9
         try clear c12
         try clear c21
         try clear c22
         try clear c24
         try clear c25
         try clear c26
         try clear c42
         try clear c43
         try clear c45
         try clear c46
         try clear c47
         try clear c51
         try clear c52
         try clear c53
         try clear c56
         try clear c56b0
         try clear c56b1
         try clear c57
         try clear c58
         try clear c60
         try clear c61
         try clear c64
         try clear c65
         try clear c66
         try clear hcz23_0
         try clear hcz23_1
         try clear hcz23_2
         try clear hcz23_3
         try clear hcz23_4
         try clear hcz23_5
         try clear hcz23_6
         try clear hcz23_7
         try clear hcz25_0
         try clear hcz25_1
         try clear hcz25_2
         try clear hcz25_3
         try clear hcz25_4
         try clear hcz25_5
         try clear hcz25_6
         try clear hcz25_7
         try clear hcz44_0
         try clear hcz44_1
         try clear hcz44_2
         try clear hcz44_3
         try clear hcz44_4
         try clear hcz44_5
         try clear hcz44_6
         try clear hcz44_7
         try clear hcz48_0
         try clear hcz48_1
         try clear hcz48_2
         try clear hcz48_3
         try clear hcz48_4
         try clear hcz48_5
         try clear hcz48_6
         try clear hcz48_7
         try clear hcz54_0
         try clear hcz54_1
         try clear hcz54_2
         try clear hcz54_3
         try clear hcz54_4
         try clear hcz54_5
         try clear hcz54_6
         try clear hcz54_7
         try clear hcz59_0
         try clear hcz59_1
         try clear hcz59_2
         try clear hcz59_3
         try clear hcz59_4
         try clear hcz59_5
         try clear hcz59_6
         try clear hcz59_7
         try clear hcz62_0
         try clear hcz62_1
         try clear hcz62_2
         try clear hcz62_3
         try clear hcz62_4
         try clear hcz62_5
         try clear hcz62_6
         try clear hcz62_7
         try clear hcz67_0
         try clear hcz67_1
         try clear hcz67_2
         try clear hcz67_3
         try clear hcz67_4
         try clear hcz67_5
         try clear hcz67_6
         try clear hcz67_7
         try clear hfz23_0
         try clear hfz23_1
         try clear hfz23_2
         try clear hfz23_3
         try clear hfz23_4
         try clear hfz23_5
         try clear hfz23_6
         try clear hfz23_7
         try clear hfz25_0
         try clear hfz25_1
         try clear hfz25_2
         try clear hfz25_3
         try clear hfz25_4
         try clear hfz25_5
         try clear hfz25_6
         try clear hfz25_7
         try clear hfz44_0
         try clear hfz44_1
         try clear hfz44_2
         try clear hfz44_3
         try clear hfz44_4
         try clear hfz44_5
         try clear hfz44_6
         try clear hfz44_7
         try clear hfz48_0
         try clear hfz48_1
         try clear hfz48_2
         try clear hfz48_3
         try clear hfz48_4
         try clear hfz48_5
         try clear hfz48_6
         try clear hfz48_7
         try clear hfz54_0
         try clear hfz54_1
         try clear hfz54_2
         try clear hfz54_3
         try clear hfz54_4
         try clear hfz54_5
         try clear hfz54_6
         try clear hfz54_7
         try clear hfz59_0
         try clear hfz59_1
         try clear hfz59_2
         try clear hfz59_3
         try clear hfz59_4
         try clear hfz59_5
         try clear hfz59_6
         try clear hfz59_7
         try clear hfz62_0
         try clear hfz62_1
         try clear hfz62_2
         try clear hfz62_3
         try clear hfz62_4
         try clear hfz62_5
         try clear hfz62_6
         try clear hfz62_7
         try clear hfz67_0
         try clear hfz67_1
         try clear hfz67_2
         try clear hfz67_3
         try clear hfz67_4
         try clear hfz67_5
         try clear hfz67_6
         try clear hfz67_7
         try clear p2
         obtain ⟨kq, x306006_62, HA, HJ62, HO_2, BK301, BK302, BK305, HB⟩ := hcut
         cases kq with
         | zero => exact absurd HA.out (by simp [thwartref08_From.j3])
         | succ kj62 =>
          have H := HA.out
          clear HA
          simp only [thwartref08_From.j3] at H
          by_cases c68 : t304 = 1
          ·rw [if_pos c68] at H
           have c68b0 : (t304 == 1) = true := beq_iff_eq.mpr c68
           have c68b1 : (t304 != 1) = false := bne_eq_false_iff_eq.mpr c68
           clear c68
           replace H := Option.bind_eq_some_iff.mp H
           obtain ⟨t310, A690, H⟩ := H
           try dsimp only at H
           have A69 := Aside0.mk A690
           clear A690
           by_cases c70 : t310 = 0
           ·rw [if_pos c70] at H
            have c70b0 : (t310 == 0) = true := beq_iff_eq.mpr c70
            have c70b1 : (t310 != 0) = false := bne_eq_false_iff_eq.mpr c70
            clear c70
            simp only [Option.some.injEq, Prod.mk.injEq] at H
            obtain ⟨rfl, rfl, rfl, rfl, rfl, rfl, rfl, rfl, rfl⟩ := H
            have hnb71 := NB305_301.out
            have hnc71 := NB301_305.out
            have hnb72 := NB305_302.out
            have hnc72 := NB302_305.out
            obtain ⟨hcz73_0, hcz73_1, hcz73_2, hcz73_3, hcz73_4, hcz73_5, hcz73_6, hcz73_7, hfz73_0, hfz73_1, hfz73_2, hfz73_3, hfz73_4, hfz73_5, hfz73_6, hfz73_7⟩ := blk_all8 BK305.out
            go_wp2_with (first | ((with_reducible refine gate_callee (f := 27) rfl ?_); refine goesA_ (some 62) Tryz.func27 #[.agg #[.string x306000_26, .int .i64 t304, .int .i64 a0_2, .int .i64 a0_3, .int .i64 a0_4, .int .i64 a0_5, .string x306006_62, .slice A2 l2.length c2]] ?_; (with_reducible refine (thwartref08_May.calls kj62 x306000_26 t304 a0_2 a0_3 a0_4 a0_5 x306006_62 _ _ l2 t310 _ ?side1 ?side2 A69.out).mono ?_); (case side1 => refine (Kd.V_reads' (e := 5) (base := w.heap.size) (ok := fun k_ => ((P2_ k_ ∨ w.heap.size ≤ k_) ∧ (k_ ≠ gb301 ∧ (k_ ≠ gb302 ∧ k_ ≠ gb305)))) (n := l2.length) (c := c2) ?_).2.2; exact (by (with_reducible repeat (first | apply Kd.V_alloc | apply Kd.V_drewN | apply Kd.V_drew)); exact (Kd.V_mono (Kd.V_far (p := ⟨gb305, 7, none⟩) (Kd.V_mono HO_2.out (fun k_ hk => (⟨hk, hk.2.2.2⟩ : _ ∧ k_ ≠ gb305))) (fun _ hk => hk.2) (.slice A2 l2.length c2)) (fun _ h_ => h_.1)))); (case side2 => exact (Kd.V_reads' HO_2.out).2.1); rintro e w74 ⟨rfl, hb⟩; refine ⟨_, rfl, ?_⟩; have n0_ := Aside0.mk (Kd.V_below (by (with_reducible repeat (first | apply Kd.V_alloc | apply Kd.V_drewN | apply Kd.V_drew)); exact (Kd.V_mono (Kd.V_far (p := ⟨gb305, 7, none⟩) (Kd.V_mono HO_2.out (fun k_ hk => (⟨hk, hk.2.2.2⟩ : _ ∧ k_ ≠ gb305))) (fun _ hk => hk.2) (.slice A2 l2.length c2)) (fun _ h_ => h_.1))) hb); have n1_ := Aside0.mk (blk_below (g := gb301) (o := .cells #[.string a0_0, .string a0_1, .int .i64 a0_2, .int .i64 a0_3, .int .i64 a0_4, .int .i64 a0_5, .int .i64 a0_6, .int .u8 a0_7, .string a0_8] 29 (0, 0)) (by (with_reducible repeat (first | refine blk_drewN ?_ _ | refine blk_drew ?_ | refine blk_alloc ?_ _)); refine blk_far ?_ NB301_305.out _; (with_reducible repeat (first | refine blk_drewN ?_ _ | refine blk_drew ?_ | refine blk_alloc ?_ _)); exact BK301.out) hb); have n2_ := Aside0.mk (blk_below (g := gb302) (o := .cells #[.string (⟨#[]⟩ : ByteArray), .int .i64 0, .int .i64 0, .int .i64 0, .int .i64 0, .int .i64 0, .string (⟨#[]⟩ : ByteArray), .slice none 0 0] 45 (0, 0)) (by (with_reducible repeat (first | refine blk_drewN ?_ _ | refine blk_drew ?_ | refine blk_alloc ?_ _)); refine blk_far ?_ NB302_305.out _; (with_reducible repeat (first | refine blk_drewN ?_ _ | refine blk_drew ?_ | refine blk_alloc ?_ _)); exact BK302.out) hb); have n3_ := Aside0.mk (blk_below (g := gb305) (o := .cells #[.string x306000_26, .int .i64 t304, .int .i64 a0_2, .int .i64 a0_3, .int .i64 a0_4, .int .i64 a0_5, .string x306006_62, .slice A2 l2.length c2] 45 (0, 0)) (by (with_reducible repeat (first | refine blk_drewN ?_ _ | refine blk_drew ?_ | refine blk_alloc ?_ _)); refine blk_put (cs := #[.string x306000_26, .int .i64 t304, .int .i64 a0_2, .int .i64 a0_3, .int .i64 a0_4, .int .i64 a0_5, .string x306006_62, .slice none 0 0]) ?_ 7 _ rfl; (with_reducible repeat (first | refine blk_drewN ?_ _ | refine blk_drew ?_ | refine blk_alloc ?_ _)); exact BK305.out) hb); have n4_ := Aside0.mk (bstep_ hb); clear HO_2; clear BK301; clear BK302; clear BK305; clear HB; have HO_2 := n0_; have BK301 := n1_; have BK302 := n2_; have BK305 := n3_; have HB := n4_; clear n0_ n1_ n2_ n3_ n4_; (try clear hb); (try clear hb2); (try clear hk); (try clear hi); obtain ⟨hcz75_0, hcz75_1, hcz75_2, hcz75_3, hcz75_4, hcz75_5, hcz75_6, hcz75_7, hfz75_0, hfz75_1, hfz75_2, hfz75_3, hfz75_4, hfz75_5, hfz75_6, hfz75_7⟩ := blk_all8 BK305.out; have hnb76 := NB302_301.out; have hnc76 := NB301_302.out; obtain ⟨hcz77_0, hcz77_1, hcz77_2, hcz77_3, hcz77_4, hcz77_5, hcz77_6, hcz77_7, hfz77_0, hfz77_1, hfz77_2, hfz77_3, hfz77_4, hfz77_5, hfz77_6, hfz77_7⟩ := blk_all8 BK302.out))
            refine bodyPost_ret (results_ct rfl _ _ gb302 45 #[.string x306000_26, .int .i64 t304, .int .i64 a0_2, .int .i64 a0_3, .int .i64 a0_4, .int .i64 a0_5, .string x306006_62, .slice A2 l2.length c2] (0, 0) _ rfl (by (with_reducible repeat (first | refine blk_drewN ?_ _ | refine blk_drew ?_ | refine blk_alloc ?_ _)); refine blk_put (cs := #[.string x306000_26, .int .i64 t304, .int .i64 a0_2, .int .i64 a0_3, .int .i64 a0_4, .int .i64 a0_5, .string x306006_62, .slice none 0 0]) ?_ 7 _ rfl; (with_reducible repeat (first | refine blk_drewN ?_ _ | refine blk_drew ?_ | refine blk_alloc ?_ _)); refine blk_put (cs := #[.string x306000_26, .int .i64 t304, .int .i64 a0_2, .int .i64 a0_3, .int .i64 a0_4, .int .i64 a0_5, .string (⟨#[]⟩ : ByteArray), .slice none 0 0]) ?_ 6 _ rfl; (with_reducible repeat (first | refine blk_drewN ?_ _ | refine blk_drew ?_ | refine blk_alloc ?_ _)); refine blk_put (cs := #[.string x306000_26, .int .i64 t304, .int .i64 a0_2, .int .i64 a0_3, .int .i64 a0_4, .int .i64 0, .string (⟨#[]⟩ : ByteArray), .slice none 0 0]) ?_ 5 _ rfl; (with_reducible repeat (first | refine blk_drewN ?_ _ | refine blk_drew ?_ | refine blk_alloc ?_ _)); refine blk_put (cs := #[.string x306000_26, .int .i64 t304, .int .i64 a0_2, .int .i64 a0_3, .int .i64 0, .int .i64 0, .string (⟨#[]⟩ : ByteArray), .slice none 0 0]) ?_ 4 _ rfl; (with_reducible repeat (first | refine blk_drewN ?_ _ | refine blk_drew ?_ | refine blk_alloc ?_ _)); refine blk_put (cs := #[.string x306000_26, .int .i64 t304, .int .i64 a0_2, .int .i64 0, .int .i64 0, .int .i64 0, .string (⟨#[]⟩ : ByteArray), .slice none 0 0]) ?_ 3 _ rfl; (with_reducible repeat (first | refine blk_drewN ?_ _ | refine blk_drew ?_ | refine blk_alloc ?_ _)); refine blk_put (cs := #[.string x306000_26, .int .i64 t304, .int .i64 0, .int .i64 0, .int .i64 0, .int .i64 0, .string (⟨#[]⟩ : ByteArray), .slice none 0 0]) ?_ 2 _ rfl; (with_reducible repeat (first | refine blk_drewN ?_ _ | refine blk_drew ?_ | refine blk_alloc ?_ _)); refine blk_put (cs := #[.string x306000_26, .int .i64 0, .int .i64 0, .int .i64 0, .int .i64 0, .int .i64 0, .string (⟨#[]⟩ : ByteArray), .slice none 0 0]) ?_ 1 _ rfl; (with_reducible repeat (first | refine blk_drewN ?_ _ | refine blk_drew ?_ | refine blk_alloc ?_ _)); refine blk_put (cs := #[.string (⟨#[]⟩ : ByteArray), .int .i64 0, .int .i64 0, .int .i64 0, .int .i64 0, .int .i64 0, .string (⟨#[]⟩ : ByteArray), .slice none 0 0]) ?_ 0 _ rfl; (with_reducible repeat (first | refine blk_drewN ?_ _ | refine blk_drew ?_ | refine blk_alloc ?_ _)); exact BK302.out) Tryz.underlying45 rfl (by kernel_rfl)) rfl ?_
            exact ⟨_, by first | rfl | (simp [errW_none, errW_some] <;> rfl) | (simp [*, errW_none, errW_some] <;> rfl), by (with_reducible refine Kd.V_mono (ok := (fun k_ => (P2_ k_ ∨ w.heap.size ≤ k_) ∧ k_ ≠ gb301 ∧ k_ ≠ gb302 ∧ k_ ≠ gb305)) ?_ (fun _ hk => hk.1)); with_reducible repeat (first | exact HO_2.out | apply Kd.V_alloc | apply Kd.V_drewN | apply Kd.V_drew | refine Kd.V_far ?_ (fun _ hk => hk.2.2.1) _), by repeat (first | (with_reducible first | exact HB.out | apply below_alloc | apply pw_below_drewN | apply below_drew1 | refine below_set ?_ GE301.out | refine below_set ?_ GE302.out | refine below_set ?_ GE305.out) | exact HB.out)⟩
           ·rw [if_neg c70] at H
            have c70b0 : (t310 == 0) = false := beq_eq_false_iff_ne.mpr c70
            have c70b1 : (t310 != 0) = true := bne_iff_ne.mpr c70
            simp only [Option.some.injEq, Prod.mk.injEq] at H
            obtain ⟨rfl, rfl, rfl, rfl, rfl, rfl, rfl, rfl, rfl⟩ := H
            have hnb78 := NB305_301.out
            have hnc78 := NB301_305.out
            have hnb79 := NB305_302.out
            have hnc79 := NB302_305.out
            obtain ⟨hcz80_0, hcz80_1, hcz80_2, hcz80_3, hcz80_4, hcz80_5, hcz80_6, hcz80_7, hfz80_0, hfz80_1, hfz80_2, hfz80_3, hfz80_4, hfz80_5, hfz80_6, hfz80_7⟩ := blk_all8 BK305.out
            go_wp2_with (first | ((with_reducible refine gate_callee (f := 27) rfl ?_); refine goesA_ (some 62) Tryz.func27 #[.agg #[.string x306000_26, .int .i64 t304, .int .i64 a0_2, .int .i64 a0_3, .int .i64 a0_4, .int .i64 a0_5, .string x306006_62, .slice A2 l2.length c2]] ?_; (with_reducible refine (thwartref08_May.calls kj62 x306000_26 t304 a0_2 a0_3 a0_4 a0_5 x306006_62 _ _ l2 t310 _ ?side1 ?side2 A69.out).mono ?_); (case side1 => refine (Kd.V_reads' (e := 5) (base := w.heap.size) (ok := fun k_ => ((P2_ k_ ∨ w.heap.size ≤ k_) ∧ (k_ ≠ gb301 ∧ (k_ ≠ gb302 ∧ k_ ≠ gb305)))) (n := l2.length) (c := c2) ?_).2.2; exact (by (with_reducible repeat (first | apply Kd.V_alloc | apply Kd.V_drewN | apply Kd.V_drew)); exact (Kd.V_mono (Kd.V_far (p := ⟨gb305, 7, none⟩) (Kd.V_mono HO_2.out (fun k_ hk => (⟨hk, hk.2.2.2⟩ : _ ∧ k_ ≠ gb305))) (fun _ hk => hk.2) (.slice A2 l2.length c2)) (fun _ h_ => h_.1)))); (case side2 => exact (Kd.V_reads' HO_2.out).2.1); rintro e w81 ⟨rfl, hb⟩; refine ⟨_, rfl, ?_⟩; have n0_ := Aside0.mk (Kd.V_below (by (with_reducible repeat (first | apply Kd.V_alloc | apply Kd.V_drewN | apply Kd.V_drew)); exact (Kd.V_mono (Kd.V_far (p := ⟨gb305, 7, none⟩) (Kd.V_mono HO_2.out (fun k_ hk => (⟨hk, hk.2.2.2⟩ : _ ∧ k_ ≠ gb305))) (fun _ hk => hk.2) (.slice A2 l2.length c2)) (fun _ h_ => h_.1))) hb); have n1_ := Aside0.mk (blk_below (g := gb301) (o := .cells #[.string a0_0, .string a0_1, .int .i64 a0_2, .int .i64 a0_3, .int .i64 a0_4, .int .i64 a0_5, .int .i64 a0_6, .int .u8 a0_7, .string a0_8] 29 (0, 0)) (by (with_reducible repeat (first | refine blk_drewN ?_ _ | refine blk_drew ?_ | refine blk_alloc ?_ _)); refine blk_far ?_ NB301_305.out _; (with_reducible repeat (first | refine blk_drewN ?_ _ | refine blk_drew ?_ | refine blk_alloc ?_ _)); exact BK301.out) hb); have n2_ := Aside0.mk (blk_below (g := gb302) (o := .cells #[.string (⟨#[]⟩ : ByteArray), .int .i64 0, .int .i64 0, .int .i64 0, .int .i64 0, .int .i64 0, .string (⟨#[]⟩ : ByteArray), .slice none 0 0] 45 (0, 0)) (by (with_reducible repeat (first | refine blk_drewN ?_ _ | refine blk_drew ?_ | refine blk_alloc ?_ _)); refine blk_far ?_ NB302_305.out _; (with_reducible repeat (first | refine blk_drewN ?_ _ | refine blk_drew ?_ | refine blk_alloc ?_ _)); exact BK302.out) hb); have n3_ := Aside0.mk (blk_below (g := gb305) (o := .cells #[.string x306000_26, .int .i64 t304, .int .i64 a0_2, .int .i64 a0_3, .int .i64 a0_4, .int .i64 a0_5, .string x306006_62, .slice A2 l2.length c2] 45 (0, 0)) (by (with_reducible repeat (first | refine blk_drewN ?_ _ | refine blk_drew ?_ | refine blk_alloc ?_ _)); refine blk_put (cs := #[.string x306000_26, .int .i64 t304, .int .i64 a0_2, .int .i64 a0_3, .int .i64 a0_4, .int .i64 a0_5, .string x306006_62, .slice none 0 0]) ?_ 7 _ rfl; (with_reducible repeat (first | refine blk_drewN ?_ _ | refine blk_drew ?_ | refine blk_alloc ?_ _)); exact BK305.out) hb); have n4_ := Aside0.mk (bstep_ hb); clear HO_2; clear BK301; clear BK302; clear BK305; clear HB; have HO_2 := n0_; have BK301 := n1_; have BK302 := n2_; have BK305 := n3_; have HB := n4_; clear n0_ n1_ n2_ n3_ n4_; (try clear hb); (try clear hb2); (try clear hk); (try clear hi); have hnb82 := NB302_301.out; have hnc82 := NB301_302.out; obtain ⟨hcz83_0, hcz83_1, hcz83_2, hcz83_3, hcz83_4, hcz83_5, hcz83_6, hcz83_7, hfz83_0, hfz83_1, hfz83_2, hfz83_3, hfz83_4, hfz83_5, hfz83_6, hfz83_7⟩ := blk_all8 BK302.out))
            refine bodyPost_ret (results_ct rfl _ _ gb302 45 #[.string (⟨#[]⟩ : ByteArray), .int .i64 0, .int .i64 0, .int .i64 0, .int .i64 0, .int .i64 0, .string (⟨#[]⟩ : ByteArray), .slice none 0 0] (0, 0) _ rfl (by (with_reducible repeat (first | refine blk_drewN ?_ _ | refine blk_drew ?_ | refine blk_alloc ?_ _)); refine blk_put (cs := #[.string (⟨#[]⟩ : ByteArray), .int .i64 0, .int .i64 0, .int .i64 0, .int .i64 0, .int .i64 0, .string (⟨#[]⟩ : ByteArray), .slice none 0 0]) ?_ 7 _ rfl; (with_reducible repeat (first | refine blk_drewN ?_ _ | refine blk_drew ?_ | refine blk_alloc ?_ _)); refine blk_put (cs := #[.string (⟨#[]⟩ : ByteArray), .int .i64 0, .int .i64 0, .int .i64 0, .int .i64 0, .int .i64 0, .string (⟨#[]⟩ : ByteArray), .slice none 0 0]) ?_ 6 _ rfl; (with_reducible repeat (first | refine blk_drewN ?_ _ | refine blk_drew ?_ | refine blk_alloc ?_ _)); refine blk_put (cs := #[.string (⟨#[]⟩ : ByteArray), .int .i64 0, .int .i64 0, .int .i64 0, .int .i64 0, .int .i64 0, .string (⟨#[]⟩ : ByteArray), .slice none 0 0]) ?_ 5 _ rfl; (with_reducible repeat (first | refine blk_drewN ?_ _ | refine blk_drew ?_ | refine blk_alloc ?_ _)); refine blk_put (cs := #[.string (⟨#[]⟩ : ByteArray), .int .i64 0, .int .i64 0, .int .i64 0, .int .i64 0, .int .i64 0, .string (⟨#[]⟩ : ByteArray), .slice none 0 0]) ?_ 4 _ rfl; (with_reducible repeat (first | refine blk_drewN ?_ _ | refine blk_drew ?_ | refine blk_alloc ?_ _)); refine blk_put (cs := #[.string (⟨#[]⟩ : ByteArray), .int .i64 0, .int .i64 0, .int .i64 0, .int .i64 0, .int .i64 0, .string (⟨#[]⟩ : ByteArray), .slice none 0 0]) ?_ 3 _ rfl; (with_reducible repeat (first | refine blk_drewN ?_ _ | refine blk_drew ?_ | refine blk_alloc ?_ _)); refine blk_put (cs := #[.string (⟨#[]⟩ : ByteArray), .int .i64 0, .int .i64 0, .int .i64 0, .int .i64 0, .int .i64 0, .string (⟨#[]⟩ : ByteArray), .slice none 0 0]) ?_ 2 _ rfl; (with_reducible repeat (first | refine blk_drewN ?_ _ | refine blk_drew ?_ | refine blk_alloc ?_ _)); refine blk_put (cs := #[.string (⟨#[]⟩ : ByteArray), .int .i64 0, .int .i64 0, .int .i64 0, .int .i64 0, .int .i64 0, .string (⟨#[]⟩ : ByteArray), .slice none 0 0]) ?_ 1 _ rfl; (with_reducible repeat (first | refine blk_drewN ?_ _ | refine blk_drew ?_ | refine blk_alloc ?_ _)); refine blk_put (cs := #[.string (⟨#[]⟩ : ByteArray), .int .i64 0, .int .i64 0, .int .i64 0, .int .i64 0, .int .i64 0, .string (⟨#[]⟩ : ByteArray), .slice none 0 0]) ?_ 0 _ rfl; (with_reducible repeat (first | refine blk_drewN ?_ _ | refine blk_drew ?_ | refine blk_alloc ?_ _)); exact BK302.out) Tryz.underlying45 rfl (by kernel_rfl)) rfl ?_
            exact ⟨_, by first | rfl | (simp [errW_none, errW_some] <;> rfl) | (simp [*, errW_none, errW_some] <;> rfl), (by exact Kd.V_nil _ _ _ _ _), by repeat (first | (with_reducible first | exact HB.out | apply below_alloc | apply pw_below_drewN | apply below_drew1 | refine below_set ?_ GE301.out | refine below_set ?_ GE302.out | refine below_set ?_ GE305.out) | exact HB.out)⟩
          ·rw [if_neg c68] at H
           have c68b0 : (t304 == 1) = false := beq_eq_false_iff_ne.mpr c68
           have c68b1 : (t304 != 1) = true := bne_iff_ne.mpr c68
           replace H := Option.bind_eq_some_iff.mp H
           obtain ⟨t311, A840, H⟩ := H
           try dsimp only at H
           have A84 := Aside0.mk A840
           clear A840
           by_cases c85 : t311 = 0
           ·rw [if_pos c85] at H
            have c85b0 : (t311 == 0) = true := beq_iff_eq.mpr c85
            have c85b1 : (t311 != 0) = false := bne_eq_false_iff_eq.mpr c85
            clear c85
            simp only [Option.some.injEq, Prod.mk.injEq] at H
            obtain ⟨rfl, rfl, rfl, rfl, rfl, rfl, rfl, rfl, rfl⟩ := H
            have hnb86 := NB305_301.out
            have hnc86 := NB301_305.out
            have hnb87 := NB305_302.out
            have hnc87 := NB302_305.out
            obtain ⟨hcz88_0, hcz88_1, hcz88_2, hcz88_3, hcz88_4, hcz88_5, hcz88_6, hcz88_7, hfz88_0, hfz88_1, hfz88_2, hfz88_3, hfz88_4, hfz88_5, hfz88_6, hfz88_7⟩ := blk_all8 BK305.out
            go_wp2_with (first | ((with_reducible refine gate_callee (f := 27) rfl ?_); refine goesA_ (some 62) Tryz.func27 #[.agg #[.string x306000_26, .int .i64 t304, .int .i64 a0_2, .int .i64 a0_3, .int .i64 a0_4, .int .i64 a0_5, .string x306006_62, .slice none 0 0]] ?_; (refine (thwartref08_May.calls kj62 x306000_26 t304 a0_2 a0_3 a0_4 a0_5 x306006_62 _ _ ([] : List Int) t311 _ ?side1 ?side2 A84.out).mono ?_); (case side1 => exact Kd.C_nil _ _); (case side2 => exact Nat.le_refl _); rintro e w89 ⟨rfl, hb⟩; refine ⟨_, rfl, ?_⟩; have n0_ := Aside0.mk (Kd.V_below (by (with_reducible repeat (first | apply Kd.V_alloc | apply Kd.V_drewN | apply Kd.V_drew)); exact HO_2.out) hb); have n1_ := Aside0.mk (blkB_ BK301.out hb); have n2_ := Aside0.mk (blkB_ BK302.out hb); have n3_ := Aside0.mk (blkB_ BK305.out hb); have n4_ := Aside0.mk (bstep_ hb); clear HO_2; clear BK301; clear BK302; clear BK305; clear HB; have HO_2 := n0_; have BK301 := n1_; have BK302 := n2_; have BK305 := n3_; have HB := n4_; clear n0_ n1_ n2_ n3_ n4_; (try clear hb); (try clear hb2); (try clear hk); (try clear hi); obtain ⟨hcz90_0, hcz90_1, hcz90_2, hcz90_3, hcz90_4, hcz90_5, hcz90_6, hcz90_7, hfz90_0, hfz90_1, hfz90_2, hfz90_3, hfz90_4, hfz90_5, hfz90_6, hfz90_7⟩ := blk_all8 BK305.out; have hnb91 := NB302_301.out; have hnc91 := NB301_302.out; obtain ⟨hcz92_0, hcz92_1, hcz92_2, hcz92_3, hcz92_4, hcz92_5, hcz92_6, hcz92_7, hfz92_0, hfz92_1, hfz92_2, hfz92_3, hfz92_4, hfz92_5, hfz92_6, hfz92_7⟩ := blk_all8 BK302.out))
            refine bodyPost_ret (results_ct rfl _ _ gb302 45 #[.string x306000_26, .int .i64 t304, .int .i64 a0_2, .int .i64 a0_3, .int .i64 a0_4, .int .i64 a0_5, .string x306006_62, .slice none 0 0] (0, 0) _ rfl (by (with_reducible repeat (first | refine blk_drewN ?_ _ | refine blk_drew ?_ | refine blk_alloc ?_ _)); refine blk_put (cs := #[.string x306000_26, .int .i64 t304, .int .i64 a0_2, .int .i64 a0_3, .int .i64 a0_4, .int .i64 a0_5, .string x306006_62, .slice none 0 0]) ?_ 7 _ rfl; (with_reducible repeat (first | refine blk_drewN ?_ _ | refine blk_drew ?_ | refine blk_alloc ?_ _)); refine blk_put (cs := #[.string x306000_26, .int .i64 t304, .int .i64 a0_2, .int .i64 a0_3, .int .i64 a0_4, .int .i64 a0_5, .string (⟨#[]⟩ : ByteArray), .slice none 0 0]) ?_ 6 _ rfl; (with_reducible repeat (first | refine blk_drewN ?_ _ | refine blk_drew ?_ | refine blk_alloc ?_ _)); refine blk_put (cs := #[.string x306000_26, .int .i64 t304, .int .i64 a0_2, .int .i64 a0_3, .int .i64 a0_4, .int .i64 0, .string (⟨#[]⟩ : ByteArray), .slice none 0 0]) ?_ 5 _ rfl; (with_reducible repeat (first | refine blk_drewN ?_ _ | refine blk_drew ?_ | refine blk_alloc ?_ _)); refine blk_put (cs := #[.string x306000_26, .int .i64 t304, .int .i64 a0_2, .int .i64 a0_3, .int .i64 0, .int .i64 0, .string (⟨#[]⟩ : ByteArray), .slice none 0 0]) ?_ 4 _ rfl; (with_reducible repeat (first | refine blk_drewN ?_ _ | refine blk_drew ?_ | refine blk_alloc ?_ _)); refine blk_put (cs := #[.string x306000_26, .int .i64 t304, .int .i64 a0_2, .int .i64 0, .int .i64 0, .int .i64 0, .string (⟨#[]⟩ : ByteArray), .slice none 0 0]) ?_ 3 _ rfl; (with_reducible repeat (first | refine blk_drewN ?_ _ | refine blk_drew ?_ | refine blk_alloc ?_ _)); refine blk_put (cs := #[.string x306000_26, .int .i64 t304, .int .i64 0, .int .i64 0, .int .i64 0, .int .i64 0, .string (⟨#[]⟩ : ByteArray), .slice none 0 0]) ?_ 2 _ rfl; (with_reducible repeat (first | refine blk_drewN ?_ _ | refine blk_drew ?_ | refine blk_alloc ?_ _)); refine blk_put (cs := #[.string x306000_26, .int .i64 0, .int .i64 0, .int .i64 0, .int .i64 0, .int .i64 0, .string (⟨#[]⟩ : ByteArray), .slice none 0 0]) ?_ 1 _ rfl; (with_reducible repeat (first | refine blk_drewN ?_ _ | refine blk_drew ?_ | refine blk_alloc ?_ _)); refine blk_put (cs := #[.string (⟨#[]⟩ : ByteArray), .int .i64 0, .int .i64 0, .int .i64 0, .int .i64 0, .int .i64 0, .string (⟨#[]⟩ : ByteArray), .slice none 0 0]) ?_ 0 _ rfl; (with_reducible repeat (first | refine blk_drewN ?_ _ | refine blk_drew ?_ | refine blk_alloc ?_ _)); exact BK302.out) Tryz.underlying45 rfl (by kernel_rfl)) rfl ?_
            exact ⟨_, by first | rfl | (simp [errW_none, errW_some] <;> rfl) | (simp [*, errW_none, errW_some] <;> rfl), (by exact Kd.V_nil _ _ _ _ _), by repeat (first | (with_reducible first | exact HB.out | apply below_alloc | apply pw_below_drewN | apply below_drew1 | refine below_set ?_ GE301.out | refine below_set ?_ GE302.out | refine below_set ?_ GE305.out) | exact HB.out)⟩
           ·rw [if_neg c85] at H
            have c85b0 : (t311 == 0) = false := beq_eq_false_iff_ne.mpr c85
            have c85b1 : (t311 != 0) = true := bne_iff_ne.mpr c85
            simp only [Option.some.injEq, Prod.mk.injEq] at H
            obtain ⟨rfl, rfl, rfl, rfl, rfl, rfl, rfl, rfl, rfl⟩ := H
            have hnb93 := NB305_301.out
            have hnc93 := NB301_305.out
            have hnb94 := NB305_302.out
            have hnc94 := NB302_305.out
            obtain ⟨hcz95_0, hcz95_1, hcz95_2, hcz95_3, hcz95_4, hcz95_5, hcz95_6, hcz95_7, hfz95_0, hfz95_1, hfz95_2, hfz95_3, hfz95_4, hfz95_5, hfz95_6, hfz95_7⟩ := blk_all8 BK305.out
            go_wp2_with (first | ((with_reducible refine gate_callee (f := 27) rfl ?_); refine goesA_ (some 62) Tryz.func27 #[.agg #[.string x306000_26, .int .i64 t304, .int .i64 a0_2, .int .i64 a0_3, .int .i64 a0_4, .int .i64 a0_5, .string x306006_62, .slice none 0 0]] ?_; (refine (thwartref08_May.calls kj62 x306000_26 t304 a0_2 a0_3 a0_4 a0_5 x306006_62 _ _ ([] : List Int) t311 _ ?side1 ?side2 A84.out).mono ?_); (case side1 => exact Kd.C_nil _ _); (case side2 => exact Nat.le_refl _); rintro e w96 ⟨rfl, hb⟩; refine ⟨_, rfl, ?_⟩; have n0_ := Aside0.mk (Kd.V_below (by (with_reducible repeat (first | apply Kd.V_alloc | apply Kd.V_drewN | apply Kd.V_drew)); exact HO_2.out) hb); have n1_ := Aside0.mk (blkB_ BK301.out hb); have n2_ := Aside0.mk (blkB_ BK302.out hb); have n3_ := Aside0.mk (blkB_ BK305.out hb); have n4_ := Aside0.mk (bstep_ hb); clear HO_2; clear BK301; clear BK302; clear BK305; clear HB; have HO_2 := n0_; have BK301 := n1_; have BK302 := n2_; have BK305 := n3_; have HB := n4_; clear n0_ n1_ n2_ n3_ n4_; (try clear hb); (try clear hb2); (try clear hk); (try clear hi); have hnb97 := NB302_301.out; have hnc97 := NB301_302.out; obtain ⟨hcz98_0, hcz98_1, hcz98_2, hcz98_3, hcz98_4, hcz98_5, hcz98_6, hcz98_7, hfz98_0, hfz98_1, hfz98_2, hfz98_3, hfz98_4, hfz98_5, hfz98_6, hfz98_7⟩ := blk_all8 BK302.out))
            refine bodyPost_ret (results_ct rfl _ _ gb302 45 #[.string (⟨#[]⟩ : ByteArray), .int .i64 0, .int .i64 0, .int .i64 0, .int .i64 0, .int .i64 0, .string (⟨#[]⟩ : ByteArray), .slice none 0 0] (0, 0) _ rfl (by (with_reducible repeat (first | refine blk_drewN ?_ _ | refine blk_drew ?_ | refine blk_alloc ?_ _)); refine blk_put (cs := #[.string (⟨#[]⟩ : ByteArray), .int .i64 0, .int .i64 0, .int .i64 0, .int .i64 0, .int .i64 0, .string (⟨#[]⟩ : ByteArray), .slice none 0 0]) ?_ 7 _ rfl; (with_reducible repeat (first | refine blk_drewN ?_ _ | refine blk_drew ?_ | refine blk_alloc ?_ _)); refine blk_put (cs := #[.string (⟨#[]⟩ : ByteArray), .int .i64 0, .int .i64 0, .int .i64 0, .int .i64 0, .int .i64 0, .string (⟨#[]⟩ : ByteArray), .slice none 0 0]) ?_ 6 _ rfl; (with_reducible repeat (first | refine blk_drewN ?_ _ | refine blk_drew ?_ | refine blk_alloc ?_ _)); refine blk_put (cs := #[.string (⟨#[]⟩ : ByteArray), .int .i64 0, .int .i64 0, .int .i64 0, .int .i64 0, .int .i64 0, .string (⟨#[]⟩ : ByteArray), .slice none 0 0]) ?_ 5 _ rfl; (with_reducible repeat (first | refine blk_drewN ?_ _ | refine blk_drew ?_ | refine blk_alloc ?_ _)); refine blk_put (cs := #[.string (⟨#[]⟩ : ByteArray), .int .i64 0, .int .i64 0, .int .i64 0, .int .i64 0, .int .i64 0, .string (⟨#[]⟩ : ByteArray), .slice none 0 0]) ?_ 4 _ rfl; (with_reducible repeat (first | refine blk_drewN ?_ _ | refine blk_drew ?_ | refine blk_alloc ?_ _)); refine blk_put (cs := #[.string (⟨#[]⟩ : ByteArray), .int .i64 0, .int .i64 0, .int .i64 0, .int .i64 0, .int .i64 0, .string (⟨#[]⟩ : ByteArray), .slice none 0 0]) ?_ 3 _ rfl; (with_reducible repeat (first | refine blk_drewN ?_ _ | refine blk_drew ?_ | refine blk_alloc ?_ _)); refine blk_put (cs := #[.string (⟨#[]⟩ : ByteArray), .int .i64 0, .int .i64 0, .int .i64 0, .int .i64 0, .int .i64 0, .string (⟨#[]⟩ : ByteArray), .slice none 0 0]) ?_ 2 _ rfl; (with_reducible repeat (first | refine blk_drewN ?_ _ | refine blk_drew ?_ | refine blk_alloc ?_ _)); refine blk_put (cs := #[.string (⟨#[]⟩ : ByteArray), .int .i64 0, .int .i64 0, .int .i64 0, .int .i64 0, .int .i64 0, .string (⟨#[]⟩ : ByteArray), .slice none 0 0]) ?_ 1 _ rfl; (with_reducible repeat (first | refine blk_drewN ?_ _ | refine blk_drew ?_ | refine blk_alloc ?_ _)); refine blk_put (cs := #[.string (⟨#[]⟩ : ByteArray), .int .i64 0, .int .i64 0, .int .i64 0, .int .i64 0, .int .i64 0, .string (⟨#[]⟩ : ByteArray), .slice none 0 0]) ?_ 0 _ rfl; (with_reducible repeat (first | refine blk_drewN ?_ _ | refine blk_drew ?_ | refine blk_alloc ?_ _)); exact BK302.out) Tryz.underlying45 rfl (by kernel_rfl)) rfl ?_
            exact ⟨_, by first | rfl | (simp [errW_none, errW_some] <;> rfl) | (simp [*, errW_none, errW_some] <;> rfl), (by exact Kd.V_nil _ _ _ _ _), by repeat (first | (with_reducible first | exact HB.out | apply below_alloc | apply pw_below_drewN | apply below_drew1 | refine below_set ?_ GE301.out | refine below_set ?_ GE302.out | refine below_set ?_ GE305.out) | exact HB.out)⟩


/-! ### thwartlaw08_theirs: function 13 -/
def thwartlaw08_theirs.f (a0_0 : ByteArray) (a0_1 : Int) (a0_2 : Int) (a0_3 : Int) (a0_4 : Int) (a0_5 : Int) (a0_6 : ByteArray) (l0_7 : List Int) : Option (ByteArray × Int × Int × Int × Int × Int × ByteArray × List Int) := some (a0_0, a0_1, a0_2, a0_3, a0_4, a0_5, a0_6, l0_7)
set_option maxHeartbeats 8000000 in
set_option maxRecDepth 100000 in
theorem thwartlaw08_theirs.calls (a0_0 : ByteArray) (a0_1 : Int) (a0_2 : Int) (a0_3 : Int) (a0_4 : Int) (a0_5 : Int) (a0_6 : ByteArray) (P0_7_ : Nat → Prop) (A0_7 : Option Addr) (c0_7 : Nat) (l0_7 : List Int) (r1 : ByteArray) (r2 : Int) (r3 : Int) (r4 : Int) (r5 : Int) (r6 : Int) (r7 : ByteArray) (r8 : List Int) (w : World) (hs0_7 : Kd.V (Kd.int .u8) 5 w w.heap.size (fun k_ => P0_7_ k_) (.slice A0_7 l0_7.length c0_7) l0_7) (h : thwartlaw08_theirs.f a0_0 a0_1 a0_2 a0_3 a0_4 a0_5 a0_6 l0_7 = some (r1, r2, r3, r4, r5, r6, r7, r8)) :
  Calls Tryz.prog 13 #[.agg #[.string a0_0, .int .i64 a0_1, .int .i64 a0_2, .int .i64 a0_3, .int .i64 a0_4, .int .i64 a0_5, .string a0_6, .slice A0_7 l0_7.length c0_7]] w fun e w' => ∃ v7_ : Value, e = .returned (.agg #[.string r1, .int .i64 r2, .int .i64 r3, .int .i64 r4, .int .i64 r5, .int .i64 r6, .string r7, v7_]) ∧ Kd.V (Kd.int .u8) 5 w' w.heap.size (fun k_ => (P0_7_ k_ ∨ w.heap.size ≤ k_)) v7_ r8 ∧ Below w.heap.size w w' := by
 have hu45 := Tryz.underlying45
 have hu38 := Tryz.underlying38
 have hu27 := Tryz.underlying27
 have HO0_7 := Aside0.mk (show Kd.V (Kd.int .u8) 5 w w.heap.size (fun k_ => (P0_7_ k_ ∨ w.heap.size ≤ k_)) (.slice A0_7 l0_7.length c0_7) l0_7 from Kd.V_mono hs0_7 (fun k_ hk => .inl hk))
 have HB := Aside0.mk (Below.refl w.heap.size w)
 have H : (some (a0_0, a0_1, a0_2, a0_3, a0_4, a0_5, a0_6, l0_7)) = some (r1, r2, r3, r4, r5, r6, r7, r8) := h
 clear h
 simp only [Option.some.injEq, Prod.mk.injEq] at H
 obtain ⟨rfl, rfl, rfl, rfl, rfl, rfl, rfl, rfl⟩ := H
 go_enter Tryz.func13, Tryz.ntmps13
 go_wp2_with (first | ((with_reducible refine gate_dst (N := 1) rfl ?_); refine boxA_ 1 45 #[.string a0_0, .int .i64 a0_1, .int .i64 a0_2, .int .i64 a0_3, .int .i64 a0_4, .int .i64 a0_5, .string a0_6, .slice A0_7 l0_7.length c0_7] ?_; intro gb312 hg w2 hbox hb; have n0_ := Aside0.mk (Kd.V_below (Kd.V_elderB (by (with_reducible repeat (first | apply Kd.V_alloc | apply Kd.V_drewN | apply Kd.V_drew)); exact HO0_7.out) gb312 (Nat.le_of_eq hg.symm)) hb); have n1_ := Aside0.mk (bstep_ hb); have n2_ := Aside0.mk (hbox); have n3_ := Aside0.mk ((by rw [hg]; exact bsize_ : w.heap.size ≤ gb312)); have n4_ := Aside0.mk ((by rw [hg]; exact bsize_ : w.heap.size ≤ gb312)); clear HO0_7; clear HB; have HO0_7 := n0_; have HB := n1_; have BK312 := n2_; have GW312 := n3_; have GE312 := n4_; clear n0_ n1_ n2_ n3_ n4_; clear hb hbox hg) | ((with_reducible refine gate_dst (N := 2) rfl ?_); refine boxA_ 2 38 #[.string (⟨#[]⟩ : ByteArray), .int .i64 0, .int .i64 0, .int .i64 0, .int .i64 0, .int .i64 0, .string (⟨#[]⟩ : ByteArray), .slice none 0 0] ?_; intro gb313 hg w3 hbox hb; have n0_ := Aside0.mk (Kd.V_below (Kd.V_elderB (by (with_reducible repeat (first | apply Kd.V_alloc | apply Kd.V_drewN | apply Kd.V_drew)); exact HO0_7.out) gb313 (Nat.le_of_eq hg.symm)) hb); have n1_ := Aside0.mk (blkB_ BK312.out hb); have n2_ := Aside0.mk (bstep_ hb); have n3_ := Aside0.mk (hbox); have n4_ := Aside0.mk ((by rw [hg]; exact bsize_ : w.heap.size ≤ gb313)); have n5_ := Aside0.mk ((by rw [hg]; exact bsize_ : w.heap.size ≤ gb313)); have n6_ := Aside0.mk ((by rw [hg]; exact Nat.ne_of_lt (blkL_ BK312.out) : gb312 ≠ gb313)); have n7_ := Aside0.mk ((by rw [hg]; exact Nat.ne_of_gt (blkL_ BK312.out) : gb313 ≠ gb312)); clear HO0_7; clear BK312; clear HB; have HO0_7 := n0_; have BK312 := n1_; have HB := n2_; have BK313 := n3_; have GW313 := n4_; have GE313 := n5_; have NB312_313 := n6_; have NB313_312 := n7_; clear n0_ n1_ n2_ n3_ n4_ n5_ n6_ n7_; clear hb hbox hg; have hnb4 := NB312_313.out; have hnc4 := NB313_312.out; obtain ⟨hcz5_0, hcz5_1, hcz5_2, hcz5_3, hcz5_4, hcz5_5, hcz5_6, hcz5_7, hfz5_0, hfz5_1, hfz5_2, hfz5_3, hfz5_4, hfz5_5, hfz5_6, hfz5_7⟩ := blk_all8 BK312.out; obtain ⟨hcz6_0, hcz6_1, hcz6_2, hcz6_3, hcz6_4, hcz6_5, hcz6_6, hcz6_7, hfz6_0, hfz6_1, hfz6_2, hfz6_3, hfz6_4, hfz6_5, hfz6_6, hfz6_7⟩ := blk_all8 BK313.out))
 refine bodyPost_ret (results_cell_row rfl _ _ gb313 38 #[.string a0_0, .int .i64 a0_1, .int .i64 a0_2, .int .i64 a0_3, .int .i64 a0_4, .int .i64 a0_5, .string a0_6, .slice A0_7 l0_7.length c0_7] (0, 0) _ rfl (by (with_reducible repeat (first | refine blk_drewN ?_ _ | refine blk_drew ?_ | refine blk_alloc ?_ _)); refine blk_put (cs := #[.string a0_0, .int .i64 a0_1, .int .i64 a0_2, .int .i64 a0_3, .int .i64 a0_4, .int .i64 a0_5, .string a0_6, .slice none 0 0]) ?_ 7 _ rfl; (with_reducible repeat (first | refine blk_drewN ?_ _ | refine blk_drew ?_ | refine blk_alloc ?_ _)); refine blk_put (cs := #[.string a0_0, .int .i64 a0_1, .int .i64 a0_2, .int .i64 a0_3, .int .i64 a0_4, .int .i64 a0_5, .string (⟨#[]⟩ : ByteArray), .slice none 0 0]) ?_ 6 _ rfl; (with_reducible repeat (first | refine blk_drewN ?_ _ | refine blk_drew ?_ | refine blk_alloc ?_ _)); refine blk_put (cs := #[.string a0_0, .int .i64 a0_1, .int .i64 a0_2, .int .i64 a0_3, .int .i64 a0_4, .int .i64 0, .string (⟨#[]⟩ : ByteArray), .slice none 0 0]) ?_ 5 _ rfl; (with_reducible repeat (first | refine blk_drewN ?_ _ | refine blk_drew ?_ | refine blk_alloc ?_ _)); refine blk_put (cs := #[.string a0_0, .int .i64 a0_1, .int .i64 a0_2, .int .i64 a0_3, .int .i64 0, .int .i64 0, .string (⟨#[]⟩ : ByteArray), .slice none 0 0]) ?_ 4 _ rfl; (with_reducible repeat (first | refine blk_drewN ?_ _ | refine blk_drew ?_ | refine blk_alloc ?_ _)); refine blk_put (cs := #[.string a0_0, .int .i64 a0_1, .int .i64 a0_2, .int .i64 0, .int .i64 0, .int .i64 0, .string (⟨#[]⟩ : ByteArray), .slice none 0 0]) ?_ 3 _ rfl; (with_reducible repeat (first | refine blk_drewN ?_ _ | refine blk_drew ?_ | refine blk_alloc ?_ _)); refine blk_put (cs := #[.string a0_0, .int .i64 a0_1, .int .i64 0, .int .i64 0, .int .i64 0, .int .i64 0, .string (⟨#[]⟩ : ByteArray), .slice none 0 0]) ?_ 2 _ rfl; (with_reducible repeat (first | refine blk_drewN ?_ _ | refine blk_drew ?_ | refine blk_alloc ?_ _)); refine blk_put (cs := #[.string a0_0, .int .i64 0, .int .i64 0, .int .i64 0, .int .i64 0, .int .i64 0, .string (⟨#[]⟩ : ByteArray), .slice none 0 0]) ?_ 1 _ rfl; (with_reducible repeat (first | refine blk_drewN ?_ _ | refine blk_drew ?_ | refine blk_alloc ?_ _)); refine blk_put (cs := #[.string (⟨#[]⟩ : ByteArray), .int .i64 0, .int .i64 0, .int .i64 0, .int .i64 0, .int .i64 0, .string (⟨#[]⟩ : ByteArray), .slice none 0 0]) ?_ 0 _ rfl; (with_reducible repeat (first | refine blk_drewN ?_ _ | refine blk_drew ?_ | refine blk_alloc ?_ _)); exact BK313.out) Tryz.underlying38 rfl (by kernel_rfl)) rfl ?_
 exact ⟨_, by first | rfl | (simp [errW_none, errW_some] <;> rfl) | (simp [*, errW_none, errW_some] <;> rfl), by (with_reducible repeat (first | apply Kd.V_alloc | apply Kd.V_drewN | apply Kd.V_drew)); exact Kd.V_mono (Kd.V_far (p := ⟨gb313, 7, none⟩) (Kd.V_far (p := ⟨gb313, 6, none⟩) (Kd.V_far (p := ⟨gb313, 5, none⟩) (Kd.V_far (p := ⟨gb313, 4, none⟩) (Kd.V_far (p := ⟨gb313, 3, none⟩) (Kd.V_far (p := ⟨gb313, 2, none⟩) (Kd.V_far (p := ⟨gb313, 1, none⟩) (Kd.V_far (p := ⟨gb313, 0, none⟩) (Kd.V_mono HO0_7.out (fun k_ hk => (⟨hk, hk.2⟩ : _ ∧ k_ ≠ gb313))) (fun _ hk => hk.2) (.string a0_0)) (fun _ hk => hk.2) (.int .i64 a0_1)) (fun _ hk => hk.2) (.int .i64 a0_2)) (fun _ hk => hk.2) (.int .i64 a0_3)) (fun _ hk => hk.2) (.int .i64 a0_4)) (fun _ hk => hk.2) (.int .i64 a0_5)) (fun _ hk => hk.2) (.string a0_6)) (fun _ hk => hk.2) (.slice A0_7 l0_7.length c0_7)) (fun _ hk => hk.1.1.1), by repeat (first | (with_reducible first | exact HB.out | apply below_alloc | apply pw_below_drewN | apply below_drew1 | refine below_set ?_ GE312.out | refine below_set ?_ GE313.out) | exact HB.out)⟩


/-! ### thwartlaw08_MembFrom: function 4 -/
mutual
def thwartlaw08_MembFrom.j0 : Nat → List (S34) → List Int → Bool → ByteArray → ByteArray → Int → Int → Int → Int → Int → Int → ByteArray → Option (Bool)
 | 0, _, _, _, _, _, _, _, _, _, _, _, _ => none
 | k + 1, x1, x2, x40, x315000, x315001, x315002, x315003, x315004, x315005, x315006, x315007, x315008 => if x40 = true then ((thwartlaw08_alive.f k).bind fun t315 => (some t315)) else (thwartlaw08_MembFrom.l0 k x1 x2 ([] : List (S35)) x1 (x1.length : Int) 0 x315000 x315001 x315002 x315003 x315004 x315005 x315006 x315007 x315008)
def thwartlaw08_MembFrom.l0 : Nat → List (S34) → List Int → List (S35) → List (S34) → Int → Int → ByteArray → ByteArray → Int → Int → Int → Int → Int → Int → ByteArray → Option (Bool)
 | 0, _, _, _, _, _, _, _, _, _, _, _, _, _, _, _ => none
 | k + 1, x1, x2, x7, x42, x43, x44, x315000, x315001, x315002, x315003, x315004, x315005, x315006, x315007, x315008 => if x44 < x43 then (if 0 ≤ x44 then (if x44 < (x42.length : Int) then (if (((rd_T34 x42 x44).f1).size : Int) > 1000 then ((thwartlaw08_alive.f k).bind fun t318 => (some t318)) else (if x7.length < 4398046511104 then (thwartlaw08_MembFrom.l0 k x1 x2 (x7 ++ [(⟨(rd_T34 x42 x44).f0, (rd_T34 x42 x44).f1⟩ : S35)]) x42 x43 (wrap64 (x44 + 1)) x315000 x315001 x315002 x315003 x315004 x315005 x315006 x315007 x315008) else (none))) else (none)) else (none)) else ((memb_From.f k x315000 x315001 x315002 x315003 x315004 x315005 x315006 x315007 x315008 x7 x2).bind fun bt322 => ((thwartref08_From.f k x315000 x315001 x315002 x315003 x315004 x315005 x315006 x315007 x315008 x1 x2).bind fun bt334 => ((thwartlaw08_theirs.f bt334.1 bt334.2.1 bt334.2.2.1 bt334.2.2.2.1 bt334.2.2.2.2.1 bt334.2.2.2.2.2.1 bt334.2.2.2.2.2.2.1 bt334.2.2.2.2.2.2.2.1).bind fun bt346 => (if bt346.2.2.2.2.2.2.1.size + 1 ≤ 9223372036854775807 then ((thwartlaw08_theirs.f bt334.1 bt334.2.1 bt334.2.2.1 bt334.2.2.2.1 bt334.2.2.2.2.1 bt334.2.2.2.2.2.1 bt334.2.2.2.2.2.2.1 bt334.2.2.2.2.2.2.2.1).bind fun bt357 => ((memb_Same.f bt322.1 bt322.2.1 bt322.2.2.1 bt322.2.2.2.1 bt322.2.2.2.2.1 bt322.2.2.2.2.2.1 bt322.2.2.2.2.2.2.1 bt322.2.2.2.2.2.2.2.1 bt357.1 bt357.2.1 bt357.2.2.1 bt357.2.2.2.1 bt357.2.2.2.2.1 bt357.2.2.2.2.2.1 bt357.2.2.2.2.2.2.1 bt357.2.2.2.2.2.2.2).bind fun t367 => (if t367 = true then (if bt322.2.2.2.2.2.2.2.2 = bt334.2.2.2.2.2.2.2.2 then ((memb_Same.f bt322.1 bt322.2.1 bt322.2.2.1 bt322.2.2.2.1 bt322.2.2.2.2.1 bt322.2.2.2.2.2.1 bt322.2.2.2.2.2.2.1 bt322.2.2.2.2.2.2.2.1 bt346.1 bt346.2.1 bt346.2.2.1 bt346.2.2.2.1 bt346.2.2.2.2.1 bt346.2.2.2.2.2.1 (bt346.2.2.2.2.2.2.1 ++ (⟨#[120]⟩ : ByteArray)) bt346.2.2.2.2.2.2.2).bind fun t368 => (if t368 = true then (some false) else ((thwartlaw08_alive.f k).bind fun t369 => (some t369)))) else (some false)) else (some false)))) else (none)))))
end
def thwartlaw08_MembFrom.f (k : Nat) (a0_0 : ByteArray) (a0_1 : ByteArray) (a0_2 : Int) (a0_3 : Int) (a0_4 : Int) (a0_5 : Int) (a0_6 : Int) (a0_7 : Int) (a0_8 : ByteArray) (l1 : List (S34)) (l2 : List Int) : Option (Bool) := if (a0_0.size : Int) > 600 then (thwartlaw08_MembFrom.j0 k l1 l2 true a0_0 a0_1 a0_2 a0_3 a0_4 a0_5 a0_6 a0_7 a0_8) else (if (a0_1.size : Int) > 600 then (thwartlaw08_MembFrom.j0 k l1 l2 true a0_0 a0_1 a0_2 a0_3 a0_4 a0_5 a0_6 a0_7 a0_8) else (if (a0_8.size : Int) > 600 then (thwartlaw08_MembFrom.j0 k l1 l2 true a0_0 a0_1 a0_2 a0_3 a0_4 a0_5 a0_6 a0_7 a0_8) else (if (l1.length : Int) > 10 then (thwartlaw08_MembFrom.j0 k l1 l2 true a0_0 a0_1 a0_2 a0_3 a0_4 a0_5 a0_6 a0_7 a0_8) else (thwartlaw08_MembFrom.j0 k l1 l2 (decide ((l2.length : Int) > 5000)) a0_0 a0_1 a0_2 a0_3 a0_4 a0_5 a0_6 a0_7 a0_8))))
theorem thwartlaw08_MembFrom.mono_l : ∀ k, (∀ y0 y1 y2 y3 y4 y5 y6 y7 y8 y9 y10 y11, LeO (thwartlaw08_MembFrom.j0 k y0 y1 y2 y3 y4 y5 y6 y7 y8 y9 y10 y11) (thwartlaw08_MembFrom.j0 (k + 1) y0 y1 y2 y3 y4 y5 y6 y7 y8 y9 y10 y11)) ∧ (∀ y0 y1 y2 y3 y4 y5 y6 y7 y8 y9 y10 y11 y12 y13 y14, LeO (thwartlaw08_MembFrom.l0 k y0 y1 y2 y3 y4 y5 y6 y7 y8 y9 y10 y11 y12 y13 y14) (thwartlaw08_MembFrom.l0 (k + 1) y0 y1 y2 y3 y4 y5 y6 y7 y8 y9 y10 y11 y12 y13 y14))
 | 0 => ⟨fun _ _ _ _ _ _ _ _ _ _ _ _ r h => by simp [thwartlaw08_MembFrom.j0] at h, fun _ _ _ _ _ _ _ _ _ _ _ _ _ _ _ r h => by simp [thwartlaw08_MembFrom.l0] at h⟩
 | k + 1 => by
  obtain ⟨ih0, ih1⟩ := thwartlaw08_MembFrom.mono_l k
  refine ⟨?_, ?_⟩
  ·intro y0 y1 y2 y3 y4 y5 y6 y7 y8 y9 y10 y11
   unfold thwartlaw08_MembFrom.j0
   repeat' first
   | (with_reducible exact ih0 _ _ _ _ _ _ _ _ _ _ _ _)
   | (with_reducible exact ih1 _ _ _ _ _ _ _ _ _ _ _ _ _ _ _)
   | (with_reducible exact memb_From.mono _ _ _ _ _ _ _ _ _ _ _ _)
   | (with_reducible exact thwartlaw08_alive.mono _)
   | (with_reducible exact thwartref08_From.mono _ _ _ _ _ _ _ _ _ _ _ _)
   | (with_reducible exact LeO.refl _)
   | (with_reducible exact LeO.none _)
   | (with_reducible refine LeO.ite ?_ ?_)
   | (with_reducible refine LeO.bind ?_ (fun _ => ?_))
   | exact ih0 _ _ _ _ _ _ _ _ _ _ _ _
   | exact ih1 _ _ _ _ _ _ _ _ _ _ _ _ _ _ _
   | exact memb_From.mono _ _ _ _ _ _ _ _ _ _ _ _
   | exact thwartlaw08_alive.mono _
   | exact thwartref08_From.mono _ _ _ _ _ _ _ _ _ _ _ _
   | exact LeO.none _
   | refine LeO.ite ?_ ?_
   | refine LeO.bind ?_ (fun _ => ?_)
  ·intro y0 y1 y2 y3 y4 y5 y6 y7 y8 y9 y10 y11 y12 y13 y14
   unfold thwartlaw08_MembFrom.l0
   repeat' first
   | (with_reducible exact ih0 _ _ _ _ _ _ _ _ _ _ _ _)
   | (with_reducible exact ih1 _ _ _ _ _ _ _ _ _ _ _ _ _ _ _)
   | (with_reducible exact memb_From.mono _ _ _ _ _ _ _ _ _ _ _ _)
   | (with_reducible exact thwartlaw08_alive.mono _)
   | (with_reducible exact thwartref08_From.mono _ _ _ _ _ _ _ _ _ _ _ _)
   | (with_reducible exact LeO.refl _)
   | (with_reducible exact LeO.none _)
   | (with_reducible refine LeO.ite ?_ ?_)
   | (with_reducible refine LeO.bind ?_ (fun _ => ?_))
   | exact ih0 _ _ _ _ _ _ _ _ _ _ _ _
   | exact ih1 _ _ _ _ _ _ _ _ _ _ _ _ _ _ _
   | exact memb_From.mono _ _ _ _ _ _ _ _ _ _ _ _
   | exact thwartlaw08_alive.mono _
   | exact thwartref08_From.mono _ _ _ _ _ _ _ _ _ _ _ _
   | exact LeO.none _
   | refine LeO.ite ?_ ?_
   | refine LeO.bind ?_ (fun _ => ?_)
theorem thwartlaw08_MembFrom.mono : ∀ a0 a1 a2 a3 a4 a5 a6 a7 a8 a9 a10 k, LeO (thwartlaw08_MembFrom.f k a0 a1 a2 a3 a4 a5 a6 a7 a8 a9 a10) (thwartlaw08_MembFrom.f (k + 1) a0 a1 a2 a3 a4 a5 a6 a7 a8 a9 a10) := by
 intro a0 a1 a2 a3 a4 a5 a6 a7 a8 a9 a10 k
 obtain ⟨ih0, ih1⟩ := thwartlaw08_MembFrom.mono_l k
 unfold thwartlaw08_MembFrom.f
 repeat' first
   | (with_reducible exact ih0 _ _ _ _ _ _ _ _ _ _ _ _)
   | (with_reducible exact ih1 _ _ _ _ _ _ _ _ _ _ _ _ _ _ _)
   | (with_reducible exact memb_From.mono _ _ _ _ _ _ _ _ _ _ _ _)
   | (with_reducible exact thwartlaw08_alive.mono _)
   | (with_reducible exact thwartref08_From.mono _ _ _ _ _ _ _ _ _ _ _ _)
   | (with_reducible exact LeO.refl _)
   | (with_reducible exact LeO.none _)
   | (with_reducible refine LeO.ite ?_ ?_)
   | (with_reducible refine LeO.bind ?_ (fun _ => ?_))
   | exact ih0 _ _ _ _ _ _ _ _ _ _ _ _
   | exact ih1 _ _ _ _ _ _ _ _ _ _ _ _ _ _ _
   | exact memb_From.mono _ _ _ _ _ _ _ _ _ _ _ _
   | exact thwartlaw08_alive.mono _
   | exact thwartref08_From.mono _ _ _ _ _ _ _ _ _ _ _ _
   | exact LeO.none _
   | refine LeO.ite ?_ ?_
   | refine LeO.bind ?_ (fun _ => ?_)
def thwartlaw08_MembFrom.T15 : Bool × List (List Nat × List Nat) := (true, [([], []), ([], []), ([1], [1]), ([0, 2, 2], [0, 2]), ([3, 3], [3]), ([4], [4]), ([4], [4]), ([5, 6, 4], [4, 5, 6]), ([4, 7], [4, 7]), ([8, 4], [8]), ([9], [9]), ([9], [9]), ([10, 11, 9, 9], [9, 10, 11]), ([12, 9], [9, 12]), ([9, 13], [9, 13]), ([14, 12], [14]), ([15, 15], [15]), ([15, 16], [15, 16]), ([17, 16, 0, 1, 2, 3, 4, 5, 6, 7, 8, 9, 10, 11, 12, 13, 14, 15, 16, 17], [17])])
def thwartlaw08_MembFrom.B15 : List Nat := [0, 0, 2, 7, 15, 31, 31, 127, 255, 511, 1023, 1023, 4095, 8191, 16383, 32767, 65535, 131071, 262143]
theorem thwartlaw08_MembFrom.tab15 : rtab .any (opsOf Tryz.f4 15) = thwartlaw08_MembFrom.T15 := by kernel_rfl
theorem thwartlaw08_MembFrom.bits15 : waitsOk thwartlaw08_MembFrom.T15.2 thwartlaw08_MembFrom.B15 = true := by kernel_rfl
set_option maxHeartbeats 8000000 in
set_option maxRecDepth 100000 in
theorem thwartlaw08_MembFrom.calls (k : Nat) (a0_0 : ByteArray) (a0_1 : ByteArray) (a0_2 : Int) (a0_3 : Int) (a0_4 : Int) (a0_5 : Int) (a0_6 : Int) (a0_7 : Int) (a0_8 : ByteArray) (A1 : Option Addr) (c1 : Nat) (l1 : List (S34)) (A2 : Option Addr) (c2 : Nat) (l2 : List Int) (r : Bool) (w : World) (HTB : Aside0 (TabOk w)) (hr1 : Kd.C k34 w A1 l1.length l1) (hc1 : l1.length ≤ c1) (hr2 : Kd.C (Kd.int .u8) w A2 l2.length l2) (hc2 : l2.length ≤ c2) (htrue : r = true) (h : thwartlaw08_MembFrom.f k a0_0 a0_1 a0_2 a0_3 a0_4 a0_5 a0_6 a0_7 a0_8 l1 l2 = some r) :
  Calls Tryz.prog 4 #[.agg #[.string a0_0, .string a0_1, .int .i64 a0_2, .int .i64 a0_3, .int .i64 a0_4, .int .i64 a0_5, .int .i64 a0_6, .int .u8 a0_7, .string a0_8], .slice A1 l1.length c1, .slice A2 l2.length c2] w fun e w' => e = .returned (.bool r) ∧ Below w.heap.size w w' := by
 have HT := Aside0.mk htrue
 clear htrue
 have hu29 := Tryz.underlying29
 have hu34 := Tryz.underlying34
 have hu27 := Tryz.underlying27
 have hu43 := Tryz.underlying43
 have hu38 := Tryz.underlying38
 have hu45 := Tryz.underlying45
 have HR1 := Aside0.mk hr1
 have HC1 := Aside0.mk hc1
 clear hr1 hc1
 have HR2 := Aside0.mk hr2
 have HC2 := Aside0.mk hc2
 clear hr2 hc2
 have HB := Aside0.mk (Below.refl w.heap.size w)
 have H : (if (a0_0.size : Int) > 600 then (thwartlaw08_MembFrom.j0 k l1 l2 true a0_0 a0_1 a0_2 a0_3 a0_4 a0_5 a0_6 a0_7 a0_8) else (if (a0_1.size : Int) > 600 then (thwartlaw08_MembFrom.j0 k l1 l2 true a0_0 a0_1 a0_2 a0_3 a0_4 a0_5 a0_6 a0_7 a0_8) else (if (a0_8.size : Int) > 600 then (thwartlaw08_MembFrom.j0 k l1 l2 true a0_0 a0_1 a0_2 a0_3 a0_4 a0_5 a0_6 a0_7 a0_8) else (if (l1.length : Int) > 10 then (thwartlaw08_MembFrom.j0 k l1 l2 true a0_0 a0_1 a0_2 a0_3 a0_4 a0_5 a0_6 a0_7 a0_8) else (thwartlaw08_MembFrom.j0 k l1 l2 (decide ((l2.length : Int) > 5000)) a0_0 a0_1 a0_2 a0_3 a0_4 a0_5 a0_6 a0_7 a0_8))))) = some r := h
 clear h
 have HC4 := Aside0.mk H
 clear H
 go_enter Tryz.func4, Tryz.ntmps4
 go_upto_region 1 with (first | ((with_reducible refine gate_dst (N := 3) rfl ?_); (try (refine gate_guard (by rfl) ?_; dsimp only)); refine boxA_ 3 29 #[.string a0_0, .string a0_1, .int .i64 a0_2, .int .i64 a0_3, .int .i64 a0_4, .int .i64 a0_5, .int .i64 a0_6, .int .u8 a0_7, .string a0_8] ?_; intro gb314 hg w5 hbox hb; have n0_ := Aside0.mk (bstep_ hb); have n1_ := Aside0.mk (hbox); have n2_ := Aside0.mk ((by rw [hg]; exact bsize_ : w.heap.size ≤ gb314)); have n3_ := Aside0.mk ((by rw [hg]; exact bsize_ : w.heap.size ≤ gb314)); clear HB; have HB := n0_; have BK314 := n1_; have GW314 := n2_; have GE314 := n3_; clear n0_ n1_ n2_ n3_; clear hb hbox hg))
 (try simp only [Act.put, List.setIfInBounds_toArray, List.set_cons_zero, List.set_cons_succ])
 go_cut [40] (fun v40 wc => ∃ (kq : Nat) (x40_3 : Bool), v40 = .bool x40_3 ∧ Aside0 (thwartlaw08_MembFrom.j0 kq l1 l2 x40_3 a0_0 a0_1 a0_2 a0_3 a0_4 a0_5 a0_6 a0_7 a0_8 = some r) ∧ Aside0 (kq ≤ k) ∧ Aside0 (wc.heap[gb314]? = some (.cells #[.string a0_0, .string a0_1, .int .i64 a0_2, .int .i64 a0_3, .int .i64 a0_4, .int .i64 a0_5, .int .i64 a0_6, .int .u8 a0_7, .string a0_8] 29 (0, 0))) ∧ Aside0 (Below w.heap.size w wc))
 case first =>
  have H := HC4.out
  clear HC4
  by_cases c6 : (a0_0.size : Int) > 600
  ·rw [if_pos c6] at H
   have c6b0 : decide (600 < (a0_0.size : Int)) = true := decide_eq_true c6
   have c6b1 : decide (600 < a0_0.size) = true := decide_eq_true (by omega)
   clear c6
   (first | rw [c6b0] | (simp only [i64_w, i32_w]; rw [c6b0]) | skip)
   have H' := Aside0.mk H
   clear H
   obtain ⟨hcz7_0, hcz7_1, hcz7_2, hcz7_3, hcz7_4, hcz7_5, hcz7_6, hcz7_7, hcz7_8, hfz7_0, hfz7_1, hfz7_2, hfz7_3, hfz7_4, hfz7_5, hfz7_6, hfz7_7, hfz7_8⟩ := blk_all9 BK314.out
   go_wp2
   go_meet
   case rel => exact ⟨_, (true), (by first | rfl | (simp; done) | (simp [*]; done)), H', ⟨by first | omega | exact Nat.le_refl _⟩, ⟨by (with_reducible repeat (first | refine blk_drewN ?_ _ | refine blk_drew ?_ | refine blk_alloc ?_ _)); exact BK314.out⟩, ⟨by repeat (first | (with_reducible first | exact HB.out | apply below_alloc | apply pw_below_drewN | apply below_drew1 | refine below_set ?_ GE314.out) | exact HB.out)⟩⟩
  ·rw [if_neg c6] at H
   have c6b0 : decide (600 < (a0_0.size : Int)) = false := decide_eq_false c6
   have c6b1 : decide (600 < a0_0.size) = false := decide_eq_false (by omega)
   clear c6
   (first | rw [c6b0] | (simp only [i64_w, i32_w]; rw [c6b0]) | skip)
   by_cases c8 : (a0_1.size : Int) > 600
   ·rw [if_pos c8] at H
    have c8b0 : decide (600 < (a0_1.size : Int)) = true := decide_eq_true c8
    have c8b1 : decide (600 < a0_1.size) = true := decide_eq_true (by omega)
    clear c8
    have H' := Aside0.mk H
    clear H
    obtain ⟨hcz9_0, hcz9_1, hcz9_2, hcz9_3, hcz9_4, hcz9_5, hcz9_6, hcz9_7, hcz9_8, hfz9_0, hfz9_1, hfz9_2, hfz9_3, hfz9_4, hfz9_5, hfz9_6, hfz9_7, hfz9_8⟩ := blk_all9 BK314.out
    go_wp2
    go_meet
    case rel => exact ⟨_, (true), (by first | rfl | (simp; done) | (simp [*]; done)), H', ⟨by first | omega | exact Nat.le_refl _⟩, ⟨by (with_reducible repeat (first | refine blk_drewN ?_ _ | refine blk_drew ?_ | refine blk_alloc ?_ _)); exact BK314.out⟩, ⟨by repeat (first | (with_reducible first | exact HB.out | apply below_alloc | apply pw_below_drewN | apply below_drew1 | refine below_set ?_ GE314.out) | exact HB.out)⟩⟩
   ·rw [if_neg c8] at H
    have c8b0 : decide (600 < (a0_1.size : Int)) = false := decide_eq_false c8
    have c8b1 : decide (600 < a0_1.size) = false := decide_eq_false (by omega)
    clear c8
    by_cases c10 : (a0_8.size : Int) > 600
    ·rw [if_pos c10] at H
     have c10b0 : decide (600 < (a0_8.size : Int)) = true := decide_eq_true c10
     have c10b1 : decide (600 < a0_8.size) = true := decide_eq_true (by omega)
     clear c10
     have H' := Aside0.mk H
     clear H
     obtain ⟨hcz11_0, hcz11_1, hcz11_2, hcz11_3, hcz11_4, hcz11_5, hcz11_6, hcz11_7, hcz11_8, hfz11_0, hfz11_1, hfz11_2, hfz11_3, hfz11_4, hfz11_5, hfz11_6, hfz11_7, hfz11_8⟩ := blk_all9 BK314.out
     go_wp2
     go_meet
     case rel => exact ⟨_, (true), (by first | rfl | (simp; done) | (simp [*]; done)), H', ⟨by first | omega | exact Nat.le_refl _⟩, ⟨by (with_reducible repeat (first | refine blk_drewN ?_ _ | refine blk_drew ?_ | refine blk_alloc ?_ _)); exact BK314.out⟩, ⟨by repeat (first | (with_reducible first | exact HB.out | apply below_alloc | apply pw_below_drewN | apply below_drew1 | refine below_set ?_ GE314.out) | exact HB.out)⟩⟩
    ·rw [if_neg c10] at H
     have c10b0 : decide (600 < (a0_8.size : Int)) = false := decide_eq_false c10
     have c10b1 : decide (600 < a0_8.size) = false := decide_eq_false (by omega)
     clear c10
     by_cases c12 : (l1.length : Int) > 10
     ·rw [if_pos c12] at H
      have c12b0 : decide (10 < (l1.length : Int)) = true := decide_eq_true c12
      have c12b1 : decide (10 < l1.length) = true := decide_eq_true (by omega)
      clear c12
      have H' := Aside0.mk H
      clear H
      obtain ⟨hcz13_0, hcz13_1, hcz13_2, hcz13_3, hcz13_4, hcz13_5, hcz13_6, hcz13_7, hcz13_8, hfz13_0, hfz13_1, hfz13_2, hfz13_3, hfz13_4, hfz13_5, hfz13_6, hfz13_7, hfz13_8⟩ := blk_all9 BK314.out
      go_wp2
      go_meet
      case rel => exact ⟨_, (true), (by first | rfl | (simp; done) | (simp [*]; done)), H', ⟨by first | omega | exact Nat.le_refl _⟩, ⟨by (with_reducible repeat (first | refine blk_drewN ?_ _ | refine blk_drew ?_ | refine blk_alloc ?_ _)); exact BK314.out⟩, ⟨by repeat (first | (with_reducible first | exact HB.out | apply below_alloc | apply pw_below_drewN | apply below_drew1 | refine below_set ?_ GE314.out) | exact HB.out)⟩⟩
     ·rw [if_neg c12] at H
      have c12b0 : decide (10 < (l1.length : Int)) = false := decide_eq_false c12
      have c12b1 : decide (10 < l1.length) = false := decide_eq_false (by omega)
      clear c12
      have H' := Aside0.mk H
      clear H
      obtain ⟨hcz14_0, hcz14_1, hcz14_2, hcz14_3, hcz14_4, hcz14_5, hcz14_6, hcz14_7, hcz14_8, hfz14_0, hfz14_1, hfz14_2, hfz14_3, hfz14_4, hfz14_5, hfz14_6, hfz14_7, hfz14_8⟩ := blk_all9 BK314.out
      go_wp2
      go_meet
      case rel => exact ⟨_, (decide ((l2.length : Int) > 5000)), (by first | rfl | (simp; done) | (simp [*]; done)), H', ⟨by first | omega | exact Nat.le_refl _⟩, ⟨by (with_reducible repeat (first | refine blk_drewN ?_ _ | refine blk_drew ?_ | refine blk_alloc ?_ _)); exact BK314.out⟩, ⟨by repeat (first | (with_reducible first | exact HB.out | apply below_alloc | apply pw_below_drewN | apply below_drew1 | refine below_set ?_ GE314.out) | exact HB.out)⟩⟩
 case rest =>
  clear HC4
  try clear c1
  try clear c2
  try clear p2
  try clear c4
  try clear c6
  try clear c6b0
  try clear c6b1
  try clear c8
  try clear c8b0
  try clear c8b1
  try clear c10
  try clear c10b0
  try clear c10b1
  try clear c12
  try clear c12b0
  try clear c12b1
  try clear hcz11_0
  try clear hcz11_1
  try clear hcz11_2
  try clear hcz11_3
  try clear hcz11_4
  try clear hcz11_5
  try clear hcz11_6
  try clear hcz11_7
  try clear hcz11_8
  try clear hcz13_0
  try clear hcz13_1
  try clear hcz13_2
  try clear hcz13_3
  try clear hcz13_4
  try clear hcz13_5
  try clear hcz13_6
  try clear hcz13_7
  try clear hcz13_8
  try clear hcz14_0
  try clear hcz14_1
  try clear hcz14_2
  try clear hcz14_3
  try clear hcz14_4
  try clear hcz14_5
  try clear hcz14_6
  try clear hcz14_7
  try clear hcz14_8
  try clear hcz7_0
  try clear hcz7_1
  try clear hcz7_2
  try clear hcz7_3
  try clear hcz7_4
  try clear hcz7_5
  try clear hcz7_6
  try clear hcz7_7
  try clear hcz7_8
  try clear hcz9_0
  try clear hcz9_1
  try clear hcz9_2
  try clear hcz9_3
  try clear hcz9_4
  try clear hcz9_5
  try clear hcz9_6
  try clear hcz9_7
  try clear hcz9_8
  try clear hfz11_0
  try clear hfz11_1
  try clear hfz11_2
  try clear hfz11_3
  try clear hfz11_4
  try clear hfz11_5
  try clear hfz11_6
  try clear hfz11_7
  try clear hfz11_8
  try clear hfz13_0
  try clear hfz13_1
  try clear hfz13_2
  try clear hfz13_3
  try clear hfz13_4
  try clear hfz13_5
  try clear hfz13_6
  try clear hfz13_7
  try clear hfz13_8
  try clear hfz14_0
  try clear hfz14_1
  try clear hfz14_2
  try clear hfz14_3
  try clear hfz14_4
  try clear hfz14_5
  try clear hfz14_6
  try clear hfz14_7
  try clear hfz14_8
  try clear hfz7_0
  try clear hfz7_1
  try clear hfz7_2
  try clear hfz7_3
  try clear hfz7_4
  try clear hfz7_5
  try clear hfz7_6
  try clear hfz7_7
  try clear hfz7_8
  try clear hfz9_0
  try clear hfz9_1
  try clear hfz9_2
  try clear hfz9_3
  try clear hfz9_4
  try clear hfz9_5
  try clear hfz9_6
  try clear hfz9_7
  try clear hfz9_8
  obtain ⟨kq, x40_3, rfl, HA, HJ3, BK314, HB⟩ := hcut
  cases kq with
  | zero => exact absurd HA.out (by simp [thwartlaw08_MembFrom.j0])
  | succ kj3 =>
   have H := HA.out
   clear HA
   simp only [thwartlaw08_MembFrom.j0] at H
   by_cases c15 : x40_3 = true
   ·subst c15
    have H1 := H; rw [if_pos rfl] at H1
    clear H
    have H := H1
    clear H1
    replace H := Option.bind_eq_some_iff.mp H
    obtain ⟨t315, A160, H⟩ := H
    try dsimp only at H
    have A16 := Aside0.mk A160
    clear A160
    obtain rfl := Option.some.inj H
    go_wp2_with (first | ((with_reducible refine gate_callee (f := 10) rfl ?_); refine goesA_ (some 41) Tryz.func10 #[] ?_; (with_reducible refine (thwartlaw08_alive.calls kj3  t315 _ ⟨HTB.out.below belA_⟩ HT.out A16.out).mono ?_); rintro e w17 ⟨rfl, hb⟩; refine ⟨_, rfl, ?_⟩; have n0_ := Aside0.mk (blkB_ BK314.out hb); have n1_ := Aside0.mk (bstep_ hb); clear BK314; clear HB; have BK314 := n0_; have HB := n1_; clear n0_ n1_; (try clear hb); (try clear hb2); (try clear hk); (try clear hi)))
    go_ret
    exact finA_
   ·replace c15 := Bool.eq_false_iff.mpr c15
    subst c15
    have H1 := H; rw [if_neg (show ¬ (false = true) by decide)] at H1
    clear H
    have H := H1
    clear H1
    have H' := Aside0.mk H
    clear H
    go_wp2
    go_loopg [7, 44] kj3 (fun kq v7 v44 w' => ∃ (x7_2 : List (S35)) (x44_2 : Int), v44 = .int .i64 x44_2 ∧ Aside0 (thwartlaw08_MembFrom.l0 kq l1 l2 x7_2 l1 (l1.length : Int) x44_2 a0_0 a0_1 a0_2 a0_3 a0_4 a0_5 a0_6 a0_7 a0_8 = some r) ∧ Aside0 (kq ≤ kj3) ∧ Aside0 (Kd.R k35 35 w' w.heap.size (fun _ => True) v7 x7_2) ∧ Aside0 (w'.heap[gb314]? = some (.cells #[.string a0_0, .string a0_1, .int .i64 a0_2, .int .i64 a0_3, .int .i64 a0_4, .int .i64 a0_5, .int .i64 a0_6, .int .u8 a0_7, .string a0_8] 29 (0, 0))) ∧ Aside0 (Below w.heap.size w w'))
    case atStart => exact ⟨(([] : List (S35))), (0), (by first | rfl | (simp; done) | (simp [*]; done)), H', ⟨Nat.le_refl _⟩, ⟨by first | exact Kd.R_nil _ _ _ _ _ | exact Kd.N_nil _ _ _ _ _ | exact Kd.V_nil _ _ _ _ _ | exact Kd.Q_nil _ _ _ _ _ | exact Kd.S_nil _ _ _ _ _⟩, ⟨by (with_reducible repeat (first | refine blk_drewN ?_ _ | refine blk_drew ?_ | refine blk_alloc ?_ _)); exact BK314.out⟩, ⟨by repeat (first | (with_reducible first | exact HB.out | apply below_alloc | apply pw_below_drewN | apply below_drew1 | refine below_set ?_ GE314.out) | exact HB.out)⟩⟩
    case round =>
     clear H'
     try clear c1
     try clear c2
     try clear p2
     try clear c4
     try clear c6
     try clear c6b0
     try clear c6b1
     try clear c8
     try clear c8b0
     try clear c8b1
     try clear c10
     try clear c10b0
     try clear c10b1
     try clear c12
     try clear c12b0
     try clear c12b1
     try clear c15
     try clear hcz11_0
     try clear hcz11_1
     try clear hcz11_2
     try clear hcz11_3
     try clear hcz11_4
     try clear hcz11_5
     try clear hcz11_6
     try clear hcz11_7
     try clear hcz11_8
     try clear hcz13_0
     try clear hcz13_1
     try clear hcz13_2
     try clear hcz13_3
     try clear hcz13_4
     try clear hcz13_5
     try clear hcz13_6
     try clear hcz13_7
     try clear hcz13_8
     try clear hcz14_0
     try clear hcz14_1
     try clear hcz14_2
     try clear hcz14_3
     try clear hcz14_4
     try clear hcz14_5
     try clear hcz14_6
     try clear hcz14_7
     try clear hcz14_8
     try clear hcz7_0
     try clear hcz7_1
     try clear hcz7_2
     try clear hcz7_3
     try clear hcz7_4
     try clear hcz7_5
     try clear hcz7_6
     try clear hcz7_7
     try clear hcz7_8
     try clear hcz9_0
     try clear hcz9_1
     try clear hcz9_2
     try clear hcz9_3
     try clear hcz9_4
     try clear hcz9_5
     try clear hcz9_6
     try clear hcz9_7
     try clear hcz9_8
     try clear hfz11_0
     try clear hfz11_1
     try clear hfz11_2
     try clear hfz11_3
     try clear hfz11_4
     try clear hfz11_5
     try clear hfz11_6
     try clear hfz11_7
     try clear hfz11_8
     try clear hfz13_0
     try clear hfz13_1
     try clear hfz13_2
     try clear hfz13_3
     try clear hfz13_4
     try clear hfz13_5
     try clear hfz13_6
     try clear hfz13_7
     try clear hfz13_8
     try clear hfz14_0
     try clear hfz14_1
     try clear hfz14_2
     try clear hfz14_3
     try clear hfz14_4
     try clear hfz14_5
     try clear hfz14_6
     try clear hfz14_7
     try clear hfz14_8
     try clear hfz7_0
     try clear hfz7_1
     try clear hfz7_2
     try clear hfz7_3
     try clear hfz7_4
     try clear hfz7_5
     try clear hfz7_6
     try clear hfz7_7
     try clear hfz7_8
     try clear hfz9_0
     try clear hfz9_1
     try clear hfz9_2
     try clear hfz9_3
     try clear hfz9_4
     try clear hfz9_5
     try clear hfz9_6
     try clear hfz9_7
     try clear hfz9_8
     try clear p2
     obtain ⟨x7_2, x44_2, rfl, HA, HK2, HO_7, BK314, HB⟩ := hrel
     cases gk with
     | zero => exact absurd HA.out (by simp [thwartlaw08_MembFrom.l0])
     | succ k2 =>
      have H := HA.out
      clear HA
      simp only [thwartlaw08_MembFrom.l0] at H
      by_cases c18 : x44_2 < (l1.length : Int)
      ·rw [if_pos c18] at H
       have c18b0 : decide (x44_2 < (l1.length : Int)) = true := decide_eq_true c18
       clear c18
       by_cases c19 : 0 ≤ x44_2
       ·rw [if_pos c19] at H
        have c19b0 : decide (0 ≤ x44_2) = true := decide_eq_true c19
        clear c19
        by_cases c20 : x44_2 < (l1.length : Int)
        ·rw [if_pos c20] at H
         have c20b0 : decide (x44_2 < (l1.length : Int)) = true := decide_eq_true c20
         clear c20
         by_cases c21 : (((rd_T34 l1 x44_2).f1).size : Int) > 1000
         ·rw [if_pos c21] at H
          have c21b0 : decide (1000 < (((rd_T34 l1 x44_2).f1).size : Int)) = true := decide_eq_true c21
          have c21b1 : decide (1000 < ((rd_T34 l1 x44_2).f1).size) = true := decide_eq_true (by omega)
          clear c21
          replace H := Option.bind_eq_some_iff.mp H
          obtain ⟨t318, A220, H⟩ := H
          try dsimp only at H
          have A22 := Aside0.mk A220
          clear A220
          obtain rfl := Option.some.inj H
          have p316 : 0 ≤ (x44_2 : Int) := of_decide_eq_true (by first | (with_reducible assumption) | assumption)
          have q316 : x44_2 < (l1.length : Int) := of_decide_eq_true (by first | (with_reducible assumption) | assumption)
          obtain ⟨ad316, e316, hx316_0, hx316_1⟩ := at_T34 HR1.out x44_2 p316 q316
          cases e316
          replace hx316_0 := (HB.out.cell (World.block_lt_of_cell? w _ hx316_0)).trans hx316_0
          replace hx316_1 := (HB.out.cell (World.block_lt_of_cell? w _ hx316_1)).trans hx316_1
          replace p316 := eq_true p316
          replace q316 := eq_true q316
          go_wp2_with (first | ((with_reducible refine gate_dst (N := 9) rfl ?_); (try (refine gate_guard (by rfl) ?_; dsimp only)); refine boxA_ 9 34 #[.string (⟨#[]⟩ : ByteArray), .string (⟨#[]⟩ : ByteArray)] ?_; intro gb317 hg w23 hbox hb; have n0_ := Aside0.mk (Kd.R_below (by (with_reducible repeat (first | apply Kd.R_alloc | apply Kd.R_drewN | apply Kd.R_drew)); exact HO_7.out) hb); have n1_ := Aside0.mk (blkB_ BK314.out hb); have n2_ := Aside0.mk (bstep_ hb); have n3_ := Aside0.mk (hbox); have n4_ := Aside0.mk ((by rw [hg]; exact bsize_ : w.heap.size ≤ gb317)); have n5_ := Aside0.mk ((by rw [hg]; exact bsize_ : w.heap.size ≤ gb317)); have n6_ := Aside0.mk ((by rw [hg]; exact Nat.ne_of_lt (blkL_ BK314.out) : gb314 ≠ gb317)); have n7_ := Aside0.mk ((by rw [hg]; exact Nat.ne_of_gt (blkL_ BK314.out) : gb317 ≠ gb314)); clear HO_7; clear BK314; clear HB; have HO_7 := n0_; have BK314 := n1_; have HB := n2_; have BK317 := n3_; have GW317 := n4_; have GE317 := n5_; have NB314_317 := n6_; have NB317_314 := n7_; clear n0_ n1_ n2_ n3_ n4_ n5_ n6_ n7_; clear hb hbox hg; have hnb24 := NB317_314.out; have hnc24 := NB314_317.out; obtain ⟨hcz25_0, hcz25_1, hfz25_0, hfz25_1⟩ := blk_all2 BK317.out) | ((with_reducible refine gate_callee (f := 10) rfl ?_); refine goesA_ (some 52) Tryz.func10 #[] ?_; (with_reducible refine (thwartlaw08_alive.calls k2  t318 _ ⟨HTB.out.below belA_⟩ HT.out A22.out).mono ?_); rintro e w26 ⟨rfl, hb⟩; refine ⟨_, rfl, ?_⟩; have n0_ := Aside0.mk (Kd.R_below (by (with_reducible repeat (first | apply Kd.R_alloc | apply Kd.R_drewN | apply Kd.R_drew)); exact (Kd.R_mono (Kd.R_far (p := ⟨gb317, 1, none⟩) (Kd.R_far (p := ⟨gb317, 0, none⟩) (Kd.R_types HO_7.out BK317.out (by decide)) (fun _ hk => hk.2) (.string ((rd_T34 l1 x44_2).f0))) (fun _ hk => hk.2) (.string ((rd_T34 l1 x44_2).f1))) (fun _ h_ => h_.1))) hb); have n1_ := Aside0.mk (blk_below (g := gb314) (o := .cells #[.string a0_0, .string a0_1, .int .i64 a0_2, .int .i64 a0_3, .int .i64 a0_4, .int .i64 a0_5, .int .i64 a0_6, .int .u8 a0_7, .string a0_8] 29 (0, 0)) (by (with_reducible repeat (first | refine blk_drewN ?_ _ | refine blk_drew ?_ | refine blk_alloc ?_ _)); refine blk_far ?_ NB314_317.out _; (with_reducible repeat (first | refine blk_drewN ?_ _ | refine blk_drew ?_ | refine blk_alloc ?_ _)); refine blk_far ?_ NB314_317.out _; (with_reducible repeat (first | refine blk_drewN ?_ _ | refine blk_drew ?_ | refine blk_alloc ?_ _)); exact BK314.out) hb); have n2_ := Aside0.mk (blk_below (g := gb317) (o := .cells #[.string ((rd_T34 l1 x44_2).f0), .string ((rd_T34 l1 x44_2).f1)] 34 (0, 0)) (by (with_reducible repeat (first | refine blk_drewN ?_ _ | refine blk_drew ?_ | refine blk_alloc ?_ _)); refine blk_put (cs := #[.string ((rd_T34 l1 x44_2).f0), .string (⟨#[]⟩ : ByteArray)]) ?_ 1 _ rfl; (with_reducible repeat (first | refine blk_drewN ?_ _ | refine blk_drew ?_ | refine blk_alloc ?_ _)); refine blk_put (cs := #[.string (⟨#[]⟩ : ByteArray), .string (⟨#[]⟩ : ByteArray)]) ?_ 0 _ rfl; (with_reducible repeat (first | refine blk_drewN ?_ _ | refine blk_drew ?_ | refine blk_alloc ?_ _)); exact BK317.out) hb); have n3_ := Aside0.mk (bstep_ hb); clear HO_7; clear BK314; clear BK317; clear HB; have HO_7 := n0_; have BK314 := n1_; have BK317 := n2_; have HB := n3_; clear n0_ n1_ n2_ n3_; (try clear hb); (try clear hb2); (try clear hk); (try clear hi)))
          go_ret
          exact finA_
         ·rw [if_neg c21] at H
          have c21b0 : decide (1000 < (((rd_T34 l1 x44_2).f1).size : Int)) = false := decide_eq_false c21
          have c21b1 : decide (1000 < ((rd_T34 l1 x44_2).f1).size) = false := decide_eq_false (by omega)
          clear c21
          by_cases c27 : x7_2.length < 4398046511104
          ·rw [if_pos c27] at H
           have LMc27 := Aside0.mk c27
           clear c27
           obtain ⟨y319, hy319⟩ : ∃ y_ : List (S35), y_ = (x7_2 ++ [(⟨(rd_T34 l1 x44_2).f0, (rd_T34 l1 x44_2).f1⟩ : S35)]) := ⟨_, rfl⟩
           replace H : (thwartlaw08_MembFrom.l0 k2 l1 l2 y319 l1 (l1.length : Int) (wrap64 (x44_2 + 1)) a0_0 a0_1 a0_2 a0_3 a0_4 a0_5 a0_6 a0_7 a0_8) = some r := by first | (rw [hy319]; with_reducible exact H) | (have H2_ := (Option.bind_some _ _).symm.trans H; rw [hy319]; with_reducible exact H2_) | (have H2_ := (Option.bind_some _ _).symm.trans H; with_reducible exact H2_) | with_reducible exact H | (rw [hy319]; exact H) | exact H
           have Ny319 := Aside0.mk hy319
           clear hy319
           have H' := Aside0.mk H
           clear H
           have p316 : 0 ≤ (x44_2 : Int) := of_decide_eq_true (by first | (with_reducible assumption) | assumption)
           have q316 : x44_2 < (l1.length : Int) := of_decide_eq_true (by first | (with_reducible assumption) | assumption)
           obtain ⟨ad316, e316, hx316_0, hx316_1⟩ := at_T34 HR1.out x44_2 p316 q316
           cases e316
           replace hx316_0 := (HB.out.cell (World.block_lt_of_cell? w _ hx316_0)).trans hx316_0
           replace hx316_1 := (HB.out.cell (World.block_lt_of_cell? w _ hx316_1)).trans hx316_1
           replace p316 := eq_true p316
           replace q316 := eq_true q316
           go_wp2_with (first | ((with_reducible refine gate_dst (N := 9) rfl ?_); (try (refine gate_guard (by rfl) ?_; dsimp only)); refine boxA_ 9 34 #[.string (⟨#[]⟩ : ByteArray), .string (⟨#[]⟩ : ByteArray)] ?_; intro gb317 hg w28 hbox hb; have n0_ := Aside0.mk (Kd.R_below (by (with_reducible repeat (first | apply Kd.R_alloc | apply Kd.R_drewN | apply Kd.R_drew)); exact HO_7.out) hb); have n1_ := Aside0.mk (blkB_ BK314.out hb); have n2_ := Aside0.mk (bstep_ hb); have n3_ := Aside0.mk (hbox); have n4_ := Aside0.mk ((by rw [hg]; exact bsize_ : w.heap.size ≤ gb317)); have n5_ := Aside0.mk ((by rw [hg]; exact bsize_ : w.heap.size ≤ gb317)); have n6_ := Aside0.mk ((by rw [hg]; exact Nat.ne_of_lt (blkL_ BK314.out) : gb314 ≠ gb317)); have n7_ := Aside0.mk ((by rw [hg]; exact Nat.ne_of_gt (blkL_ BK314.out) : gb317 ≠ gb314)); clear HO_7; clear BK314; clear HB; have HO_7 := n0_; have BK314 := n1_; have HB := n2_; have BK317 := n3_; have GW317 := n4_; have GE317 := n5_; have NB314_317 := n6_; have NB317_314 := n7_; clear n0_ n1_ n2_ n3_ n4_ n5_ n6_ n7_; clear hb hbox hg; have hnb29 := NB317_314.out; have hnc29 := NB314_317.out; obtain ⟨hcz30_0, hcz30_1, hfz30_0, hfz30_1⟩ := blk_all2 BK317.out) | ((with_reducible refine gate_builtin (b := .append) (xs := #[.tmp 53, .tmp 55]) rfl ?_); (try (refine gate_guard (by rfl) ?_; dsimp only)); at_builtin; refine Kd.R_append k35 (w0 := w) w.heap.size rfl (.tmp 53) (.tmp 55) 32 35 (.agg #[(.string ⟨#[]⟩), (.string ⟨#[]⟩)]) 32 rfl Tryz.underlying32 info35 rfl (by decide) (by omega) u7 x7_2 (⟨(rd_T34 l1 x44_2).f0, (rd_T34 l1 x44_2).f1⟩ : S35) [.string ((rd_T34 l1 x44_2).f0), .string ((rd_T34 l1 x44_2).f1)] (fun _ => True) (fun _ => False) rfl (by first | (go_simp; done) | (go_simp; rfl)) ?aP (fun _ hk => hk.elim) ?aF ?aO ?aB ?aS ?aL ?_; (case aP => exact k35_mkM _ _ _ (⟨(rd_T34 l1 x44_2).f0, (rd_T34 l1 x44_2).f1⟩ : S35)); (case aB => exact belA_); (case aF => exact (fun _ _ => trivial)); (case aO => exact (by (with_reducible repeat (first | apply Kd.R_alloc | apply Kd.R_drewN | apply Kd.R_drew)); exact Kd.R_mono (Kd.R_far (p := ⟨gb317, 1, none⟩) (Kd.R_far (p := ⟨gb317, 0, none⟩) (Kd.R_types HO_7.out BK317.out (by decide)) (fun _ hk => hk.2) (.string ((rd_T34 l1 x44_2).f0))) (fun _ hk => hk.2) (.string ((rd_T34 l1 x44_2).f1))) (fun _ hk => trivial))); (case aS => exact bsize_); (case aL => have := LMc27.out; omega); intro v320 w31 ho hb hg hat; rw [← Ny319.out] at ho; have n0_ := Aside0.mk (blk_grown (g := gb314) (o := .cells #[.string a0_0, .string a0_1, .int .i64 a0_2, .int .i64 a0_3, .int .i64 a0_4, .int .i64 a0_5, .int .i64 a0_6, .int .u8 a0_7, .string a0_8] 29 (0, 0)) (by (with_reducible repeat (first | refine blk_drewN ?_ _ | refine blk_drew ?_ | refine blk_alloc ?_ _)); refine blk_far ?_ NB314_317.out _; (with_reducible repeat (first | refine blk_drewN ?_ _ | refine blk_drew ?_ | refine blk_alloc ?_ _)); refine blk_far ?_ NB314_317.out _; (with_reducible repeat (first | refine blk_drewN ?_ _ | refine blk_drew ?_ | refine blk_alloc ?_ _)); exact BK314.out) hg (Kd.R_ne HO_7.out BK314.out (by decide))); have n1_ := Aside0.mk (blk_grown (g := gb317) (o := .cells #[.string ((rd_T34 l1 x44_2).f0), .string ((rd_T34 l1 x44_2).f1)] 34 (0, 0)) (by (with_reducible repeat (first | refine blk_drewN ?_ _ | refine blk_drew ?_ | refine blk_alloc ?_ _)); refine blk_put (cs := #[.string ((rd_T34 l1 x44_2).f0), .string (⟨#[]⟩ : ByteArray)]) ?_ 1 _ rfl; (with_reducible repeat (first | refine blk_drewN ?_ _ | refine blk_drew ?_ | refine blk_alloc ?_ _)); refine blk_put (cs := #[.string (⟨#[]⟩ : ByteArray), .string (⟨#[]⟩ : ByteArray)]) ?_ 0 _ rfl; (with_reducible repeat (first | refine blk_drewN ?_ _ | refine blk_drew ?_ | refine blk_alloc ?_ _)); exact BK317.out) hg (Kd.R_ne HO_7.out BK317.out (by decide))); have n2_ := Aside0.mk (hb); have n3_ := Aside0.mk (ho); clear BK314; clear BK317; clear HB; clear HO_7; have BK314 := n0_; have BK317 := n1_; have HB := n2_; have HO321 := n3_; clear n0_ n1_ n2_ n3_; clear ho hb hg hat))
           go_roundg k2
           case measure => have := HJ3.out; have := HK2.out; omega
           case rel => exact ⟨(y319), (wrap64 (x44_2 + 1)), (by first | rfl | (simp; done) | (simp [*]; done)), H', ⟨by have := HJ3.out; have := HK2.out; omega⟩, ⟨by (with_reducible repeat (first | apply Kd.R_alloc | apply Kd.R_drewN | apply Kd.R_drew)); exact HO321.out⟩, ⟨by (with_reducible repeat (first | refine blk_drewN ?_ _ | refine blk_drew ?_ | refine blk_alloc ?_ _)); exact BK314.out⟩, ⟨by repeat (first | (with_reducible first | exact HB.out | apply below_alloc | apply pw_below_drewN | apply below_drew1 | refine below_set ?_ GE314.out | refine below_set ?_ GE317.out) | exact HB.out)⟩⟩
          ·rw [if_neg c27] at H
           exact absurd H (by simp)
        ·rw [if_neg c20] at H
         exact absurd H (by simp)
       ·rw [if_neg c19] at H
        exact absurd H (by simp)
      ·rw [if_neg c18] at H
       have c18b0 : decide (x44_2 < (l1.length : Int)) = false := decide_eq_false c18
       clear c18
       replace H := Option.bind_eq_some_iff.mp H
       obtain ⟨⟨t322, t323, t324, t325, t326, t327, t328, t329, t332⟩, A320, H⟩ := H
       try dsimp only at H
       have A32 := Aside0.mk A320
       clear A320
       replace H := Option.bind_eq_some_iff.mp H
       obtain ⟨⟨t334, t335, t336, t337, t338, t339, t340, t341, t344⟩, A330, H⟩ := H
       try dsimp only at H
       have A33 := Aside0.mk A330
       clear A330
       replace H := Option.bind_eq_some_iff.mp H
       obtain ⟨⟨t346, t347, t348, t349, t350, t351, t352, t353⟩, A340, H⟩ := H
       try dsimp only at H
       have A34 := Aside0.mk A340
       clear A340
       by_cases c35 : t352.size + 1 ≤ 9223372036854775807
       ·rw [if_pos c35] at H
        have c35b0 := eq_true c35
        have c35b1 : decide (t352.size + 1 ≤ 9223372036854775807) = true := decide_eq_true c35
        try have c35b2 : (9223372036854775807 < t352.size + 1) = False := eq_false (Nat.not_lt.2 c35)
        replace H := Option.bind_eq_some_iff.mp H
        obtain ⟨⟨t357, t358, t359, t360, t361, t362, t363, t364⟩, A360, H⟩ := H
        try dsimp only at H
        have A36 := Aside0.mk A360
        clear A360
        replace H := Option.bind_eq_some_iff.mp H
        obtain ⟨t367, A370, H⟩ := H
        try dsimp only at H
        have A37 := Aside0.mk A370
        clear A370
        by_cases c38 : t367 = true
        ·subst c38
         have H1 := H; rw [if_pos rfl] at H1
         clear H
         have H := H1
         clear H1
         by_cases c39 : t332 = t344
         ·rw [if_pos c39] at H
          have c39b0 : (t332 == t344) = true := beq_iff_eq.mpr c39
          have c39b1 : (t332 != t344) = false := bne_eq_false_iff_eq.mpr c39
          clear c39
          replace H := Option.bind_eq_some_iff.mp H
          obtain ⟨t368, A400, H⟩ := H
          try dsimp only at H
          have A40 := Aside0.mk A400
          clear A400
          by_cases c41 : t368 = true
          ·subst c41
           have H1 := H; rw [if_pos rfl] at H1
           clear H
           have H := H1
           clear H1
           exact absurd (H.trans (congrArg some HT.out)) (by simp)
          ·replace c41 := Bool.eq_false_iff.mpr c41
           subst c41
           have H1 := H; rw [if_neg (show ¬ (false = true) by decide)] at H1
           clear H
           have H := H1
           clear H1
           replace H := Option.bind_eq_some_iff.mp H
           obtain ⟨t369, A720, H⟩ := H
           try dsimp only at H
           have A72 := Aside0.mk A720
           clear A720
           obtain rfl := Option.some.inj H
           obtain ⟨hcz73_0, hcz73_1, hcz73_2, hcz73_3, hcz73_4, hcz73_5, hcz73_6, hcz73_7, hcz73_8, hfz73_0, hfz73_1, hfz73_2, hfz73_3, hfz73_4, hfz73_5, hfz73_6, hfz73_7, hfz73_8⟩ := blk_all9 BK314.out
           obtain ⟨Ao74, co74, eo74⟩ := Kd.R_slice HO_7.out
           subst eo74
           try go_wp2_with (first | ((with_reducible refine gate_callee (f := 11) rfl ?_); refine goesA_ (some 74) Tryz.func11 #[.agg #[.string a0_0, .string a0_1, .int .i64 a0_2, .int .i64 a0_3, .int .i64 a0_4, .int .i64 a0_5, .int .i64 a0_6, .int .u8 a0_7, .string a0_8], .slice Ao74 x7_2.length co74, .slice A2 l2.length c2] ?_; (with_reducible refine (memb_From.calls k2 a0_0 a0_1 a0_2 a0_3 a0_4 a0_5 a0_6 a0_7 a0_8 _ _ x7_2 _ _ l2 t322 t323 t324 t325 t326 t327 t328 t329 t332 _ ?side1 ?side2 ?side3 ?side4 A32.out).mono ?_); (case side1 => repeat (first | exact (Kd.R_reads' HO_7.out).2.2 | (with_reducible refine Kd.C_alloc ?_ _) | (with_reducible refine Kd.C_drewN ?_ _) | (with_reducible refine Kd.C_drew ?_))); (case side2 => exact (Kd.R_reads' HO_7.out).2.1); (case side3 => repeat (first | exact (Kd.C_below HR2.out HB.out) | (with_reducible refine Kd.C_alloc ?_ _) | (with_reducible refine Kd.C_drewN ?_ _) | (with_reducible refine Kd.C_drew ?_))); (case side4 => exact HC2.out); rintro e w75 ⟨v330, rfl, ho0, hb⟩; refine ⟨_, rfl, ?_⟩; have n0_ := Aside0.mk (Kd.R_below (by (with_reducible repeat (first | apply Kd.R_alloc | apply Kd.R_drewN | apply Kd.R_drew)); exact HO_7.out) hb); have n1_ := Aside0.mk (Kd.R_lower ho0 bsize_); have n2_ := Aside0.mk (blkB_ BK314.out hb); have n3_ := Aside0.mk (bstep_ hb); clear HO_7; clear BK314; clear HB; have HO_7 := n0_; have HO331 := n1_; have BK314 := n2_; have HB := n3_; clear n0_ n1_ n2_ n3_; (try clear hb); (try clear hb2); (try clear hk); (try clear hi); (try clear ho0)) | ((with_reducible refine gate_dst (N := 10) rfl ?_); (try (refine gate_guard (by rfl) ?_; dsimp only)); refine boxA_ 10 38 #[.string (⟨#[]⟩ : ByteArray), .int .i64 0, .int .i64 0, .int .i64 0, .int .i64 0, .int .i64 0, .string (⟨#[]⟩ : ByteArray), .slice none 0 0] ?_; intro gb333 hg w76 hbox hb; have n0_ := Aside0.mk (Kd.R_below (by (with_reducible repeat (first | apply Kd.R_alloc | apply Kd.R_drewN | apply Kd.R_drew)); exact HO_7.out) hb); have n1_ := Aside0.mk (Kd.R_below (by (with_reducible repeat (first | apply Kd.R_alloc | apply Kd.R_drewN | apply Kd.R_drew)); exact HO331.out) hb); have n2_ := Aside0.mk (blkB_ BK314.out hb); have n3_ := Aside0.mk (bstep_ hb); have n4_ := Aside0.mk (hbox); have n5_ := Aside0.mk ((by rw [hg]; exact bsize_ : w.heap.size ≤ gb333)); have n6_ := Aside0.mk ((by rw [hg]; exact bsize_ : w.heap.size ≤ gb333)); have n7_ := Aside0.mk ((by rw [hg]; exact Nat.ne_of_lt (blkL_ BK314.out) : gb314 ≠ gb333)); have n8_ := Aside0.mk ((by rw [hg]; exact Nat.ne_of_gt (blkL_ BK314.out) : gb333 ≠ gb314)); clear HO_7; clear HO331; clear BK314; clear HB; have HO_7 := n0_; have HO331 := n1_; have BK314 := n2_; have HB := n3_; have BK333 := n4_; have GW333 := n5_; have GE333 := n6_; have NB314_333 := n7_; have NB333_314 := n8_; clear n0_ n1_ n2_ n3_ n4_ n5_ n6_ n7_ n8_; clear hb hbox hg; have hnb77 := NB333_314.out; have hnc77 := NB314_333.out; obtain ⟨hcz78_0, hcz78_1, hcz78_2, hcz78_3, hcz78_4, hcz78_5, hcz78_6, hcz78_7, hfz78_0, hfz78_1, hfz78_2, hfz78_3, hfz78_4, hfz78_5, hfz78_6, hfz78_7⟩ := blk_all8 BK333.out; obtain ⟨Ao79, co79, eo79⟩ := Kd.R_slice HO331.out; subst eo79) | ((with_reducible refine gate_store (t := 38) (p := 10) rfl ?_); refine store_event (t := 38) (p := 10) (v := ?vo_w80) (w1 := ((((((((w76.setCell ⟨gb333, 0, none⟩ (.string t322)).setCell ⟨gb333, 1, none⟩ (.int .i64 t323)).setCell ⟨gb333, 2, none⟩ (.int .i64 t324)).setCell ⟨gb333, 3, none⟩ (.int .i64 t325)).setCell ⟨gb333, 4, none⟩ (.int .i64 t326)).setCell ⟨gb333, 5, none⟩ (.int .i64 t327)).setCell ⟨gb333, 6, none⟩ (.string t328)).setCell ⟨gb333, 7, none⟩ (.slice Ao79 t329.length co79))) ?hg ?ho ?hn ?hr ?_; (case ho => rfl); (case hg => rfl); (case hn => rfl); (case hr => first | (go_simp; done) | (go_simp; rfl)); intro w80 hw; have n0_ : Aside0 (Kd.R k35 35 w80 w.heap.size (fun _ => True) (.slice Ao74 x7_2.length co74) x7_2) := ⟨(by rw [hw]; exact (by (with_reducible repeat (first | apply Kd.R_alloc | apply Kd.R_drewN | apply Kd.R_drew)); exact Kd.R_mono (Kd.R_far (p := ⟨gb333, 7, none⟩) (Kd.R_far (p := ⟨gb333, 6, none⟩) (Kd.R_far (p := ⟨gb333, 5, none⟩) (Kd.R_far (p := ⟨gb333, 4, none⟩) (Kd.R_far (p := ⟨gb333, 3, none⟩) (Kd.R_far (p := ⟨gb333, 2, none⟩) (Kd.R_far (p := ⟨gb333, 1, none⟩) (Kd.R_far (p := ⟨gb333, 0, none⟩) (Kd.R_types HO_7.out BK333.out (by decide)) (fun _ hk => hk.2) (.string t322)) (fun _ hk => hk.2) (.int .i64 t323)) (fun _ hk => hk.2) (.int .i64 t324)) (fun _ hk => hk.2) (.int .i64 t325)) (fun _ hk => hk.2) (.int .i64 t326)) (fun _ hk => hk.2) (.int .i64 t327)) (fun _ hk => hk.2) (.string t328)) (fun _ hk => hk.2) (.slice Ao79 t329.length co79)) (fun _ hk => trivial)))⟩; have n1_ : Aside0 (Kd.R (Kd.int .u8) 5 w80 w.heap.size (fun _ => True) (.slice Ao79 t329.length co79) t329) := ⟨(by rw [hw]; exact (by (with_reducible repeat (first | apply Kd.R_alloc | apply Kd.R_drewN | apply Kd.R_drew)); exact Kd.R_mono (Kd.R_far (p := ⟨gb333, 7, none⟩) (Kd.R_far (p := ⟨gb333, 6, none⟩) (Kd.R_far (p := ⟨gb333, 5, none⟩) (Kd.R_far (p := ⟨gb333, 4, none⟩) (Kd.R_far (p := ⟨gb333, 3, none⟩) (Kd.R_far (p := ⟨gb333, 2, none⟩) (Kd.R_far (p := ⟨gb333, 1, none⟩) (Kd.R_far (p := ⟨gb333, 0, none⟩) (Kd.R_types HO331.out BK333.out (by decide)) (fun _ hk => hk.2) (.string t322)) (fun _ hk => hk.2) (.int .i64 t323)) (fun _ hk => hk.2) (.int .i64 t324)) (fun _ hk => hk.2) (.int .i64 t325)) (fun _ hk => hk.2) (.int .i64 t326)) (fun _ hk => hk.2) (.int .i64 t327)) (fun _ hk => hk.2) (.string t328)) (fun _ hk => hk.2) (.slice Ao79 t329.length co79)) (fun _ hk => trivial)))⟩; have n2_ : Aside0 (w80.heap[gb314]? = some (.cells #[.string a0_0, .string a0_1, .int .i64 a0_2, .int .i64 a0_3, .int .i64 a0_4, .int .i64 a0_5, .int .i64 a0_6, .int .u8 a0_7, .string a0_8] 29 (0, 0))) := ⟨(by rw [hw]; exact (by (with_reducible repeat (first | refine blk_drewN ?_ _ | refine blk_drew ?_ | refine blk_alloc ?_ _)); refine blk_far ?_ NB314_333.out _; (with_reducible repeat (first | refine blk_drewN ?_ _ | refine blk_drew ?_ | refine blk_alloc ?_ _)); refine blk_far ?_ NB314_333.out _; (with_reducible repeat (first | refine blk_drewN ?_ _ | refine blk_drew ?_ | refine blk_alloc ?_ _)); refine blk_far ?_ NB314_333.out _; (with_reducible repeat (first | refine blk_drewN ?_ _ | refine blk_drew ?_ | refine blk_alloc ?_ _)); refine blk_far ?_ NB314_333.out _; (with_reducible repeat (first | refine blk_drewN ?_ _ | refine blk_drew ?_ | refine blk_alloc ?_ _)); refine blk_far ?_ NB314_333.out _; (with_reducible repeat (first | refine blk_drewN ?_ _ | refine blk_drew ?_ | refine blk_alloc ?_ _)); refine blk_far ?_ NB314_333.out _; (with_reducible repeat (first | refine blk_drewN ?_ _ | refine blk_drew ?_ | refine blk_alloc ?_ _)); refine blk_far ?_ NB314_333.out _; (with_reducible repeat (first | refine blk_drewN ?_ _ | refine blk_drew ?_ | refine blk_alloc ?_ _)); refine blk_far ?_ NB314_333.out _; (with_reducible repeat (first | refine blk_drewN ?_ _ | refine blk_drew ?_ | refine blk_alloc ?_ _)); exact BK314.out))⟩; have n3_ : Aside0 (w80.heap[gb333]? = some (.cells #[.string t322, .int .i64 t323, .int .i64 t324, .int .i64 t325, .int .i64 t326, .int .i64 t327, .string t328, .slice Ao79 t329.length co79] 38 (0, 0))) := ⟨(by rw [hw]; exact (by (with_reducible repeat (first | refine blk_drewN ?_ _ | refine blk_drew ?_ | refine blk_alloc ?_ _)); refine blk_put (cs := #[.string t322, .int .i64 t323, .int .i64 t324, .int .i64 t325, .int .i64 t326, .int .i64 t327, .string t328, .slice none 0 0]) ?_ 7 _ rfl; (with_reducible repeat (first | refine blk_drewN ?_ _ | refine blk_drew ?_ | refine blk_alloc ?_ _)); refine blk_put (cs := #[.string t322, .int .i64 t323, .int .i64 t324, .int .i64 t325, .int .i64 t326, .int .i64 t327, .string (⟨#[]⟩ : ByteArray), .slice none 0 0]) ?_ 6 _ rfl; (with_reducible repeat (first | refine blk_drewN ?_ _ | refine blk_drew ?_ | refine blk_alloc ?_ _)); refine blk_put (cs := #[.string t322, .int .i64 t323, .int .i64 t324, .int .i64 t325, .int .i64 t326, .int .i64 0, .string (⟨#[]⟩ : ByteArray), .slice none 0 0]) ?_ 5 _ rfl; (with_reducible repeat (first | refine blk_drewN ?_ _ | refine blk_drew ?_ | refine blk_alloc ?_ _)); refine blk_put (cs := #[.string t322, .int .i64 t323, .int .i64 t324, .int .i64 t325, .int .i64 0, .int .i64 0, .string (⟨#[]⟩ : ByteArray), .slice none 0 0]) ?_ 4 _ rfl; (with_reducible repeat (first | refine blk_drewN ?_ _ | refine blk_drew ?_ | refine blk_alloc ?_ _)); refine blk_put (cs := #[.string t322, .int .i64 t323, .int .i64 t324, .int .i64 0, .int .i64 0, .int .i64 0, .string (⟨#[]⟩ : ByteArray), .slice none 0 0]) ?_ 3 _ rfl; (with_reducible repeat (first | refine blk_drewN ?_ _ | refine blk_drew ?_ | refine blk_alloc ?_ _)); refine blk_put (cs := #[.string t322, .int .i64 t323, .int .i64 0, .int .i64 0, .int .i64 0, .int .i64 0, .string (⟨#[]⟩ : ByteArray), .slice none 0 0]) ?_ 2 _ rfl; (with_reducible repeat (first | refine blk_drewN ?_ _ | refine blk_drew ?_ | refine blk_alloc ?_ _)); refine blk_put (cs := #[.string t322, .int .i64 0, .int .i64 0, .int .i64 0, .int .i64 0, .int .i64 0, .string (⟨#[]⟩ : ByteArray), .slice none 0 0]) ?_ 1 _ rfl; (with_reducible repeat (first | refine blk_drewN ?_ _ | refine blk_drew ?_ | refine blk_alloc ?_ _)); refine blk_put (cs := #[.string (⟨#[]⟩ : ByteArray), .int .i64 0, .int .i64 0, .int .i64 0, .int .i64 0, .int .i64 0, .string (⟨#[]⟩ : ByteArray), .slice none 0 0]) ?_ 0 _ rfl; (with_reducible repeat (first | refine blk_drewN ?_ _ | refine blk_drew ?_ | refine blk_alloc ?_ _)); exact BK333.out))⟩; have n4_ : Aside0 (Below w.heap.size w w80) := ⟨(by rw [hw]; exact belA_)⟩; clear hw; clear HO_7; clear HO331; clear BK314; clear BK333; clear HB; have HO_7 := n0_; have HO331 := n1_; have BK314 := n2_; have BK333 := n3_; have HB := n4_; clear n0_ n1_ n2_ n3_ n4_; obtain ⟨hcz81_0, hcz81_1, hcz81_2, hcz81_3, hcz81_4, hcz81_5, hcz81_6, hcz81_7, hcz81_8, hfz81_0, hfz81_1, hfz81_2, hfz81_3, hfz81_4, hfz81_5, hfz81_6, hfz81_7, hfz81_8⟩ := blk_all9 BK314.out) | ((with_reducible refine gate_callee (f := 12) rfl ?_); refine goesA_ (some 81) Tryz.func12 #[.agg #[.string a0_0, .string a0_1, .int .i64 a0_2, .int .i64 a0_3, .int .i64 a0_4, .int .i64 a0_5, .int .i64 a0_6, .int .u8 a0_7, .string a0_8], .slice A1 l1.length c1, .slice A2 l2.length c2] ?_; (with_reducible refine (thwartref08_From.calls k2 a0_0 a0_1 a0_2 a0_3 a0_4 a0_5 a0_6 a0_7 a0_8 _ _ l1 (fun k_ => k_ < w.heap.size) _ _ l2 t334 t335 t336 t337 t338 t339 t340 t341 t344 _ ?side1 ?side2 ?side3 A33.out).mono ?_); (case side1 => repeat (first | exact (Kd.C_below HR1.out HB.out) | (with_reducible refine Kd.C_alloc ?_ _) | (with_reducible refine Kd.C_drewN ?_ _) | (with_reducible refine Kd.C_drew ?_))); (case side2 => exact HC1.out); (case side3 => exact Kd.V_mk HC2.out (Kd.F_below (Kd.C_F (Kd.heap_int .u8) HR2.out) belA_)); rintro e w82 ⟨v342, rfl, ho0, hb⟩; refine ⟨_, rfl, ?_⟩; have n0_ := Aside0.mk (Kd.R_below (by (with_reducible repeat (first | apply Kd.R_alloc | apply Kd.R_drewN | apply Kd.R_drew)); exact HO_7.out) hb); have n1_ := Aside0.mk (Kd.R_below (by (with_reducible repeat (first | apply Kd.R_alloc | apply Kd.R_drewN | apply Kd.R_drew)); exact HO331.out) hb); have n2_ := Aside0.mk (Kd.V_lower (Kd.V_mono (ok' := fun k_ => some k_ ≠ (.slice Ao74 x7_2.length co74 : Value).ownBlock ∧ some k_ ≠ (.slice Ao79 t329.length co79 : Value).ownBlock ∧ k_ ≠ gb314 ∧ k_ ≠ gb333) ho0 (fun k_ hk_ => ⟨Or.elim hk_ (fun hs_ => fun e_ => Nat.not_le.2 hs_ (Kd.R_base HO_7.out k_ e_.symm)) (fun hn_ => (Kd.fresh' (Kd.R_lt (by (with_reducible repeat (first | apply Kd.R_alloc | apply Kd.R_drewN | apply Kd.R_drew)); exact HO_7.out)) k_ hn_)), Or.elim hk_ (fun hs_ => fun e_ => Nat.not_le.2 hs_ (Kd.R_base HO331.out k_ e_.symm)) (fun hn_ => (Kd.fresh' (Kd.R_lt (by (with_reducible repeat (first | apply Kd.R_alloc | apply Kd.R_drewN | apply Kd.R_drew)); exact HO331.out)) k_ hn_)), Or.elim hk_ (fun hs_ => fun e_ => Nat.not_le.2 hs_ (by rw [e_]; exact GW314.out)) (fun hn_ => (Kd.freshB (g := gb314) (o := .cells #[.string a0_0, .string a0_1, .int .i64 a0_2, .int .i64 a0_3, .int .i64 a0_4, .int .i64 a0_5, .int .i64 a0_6, .int .u8 a0_7, .string a0_8] 29 (0, 0)) (by (with_reducible repeat (first | refine blk_drewN ?_ _ | refine blk_drew ?_ | refine blk_alloc ?_ _)); exact BK314.out) k_ hn_)), Or.elim hk_ (fun hs_ => fun e_ => Nat.not_le.2 hs_ (by rw [e_]; exact GW333.out)) (fun hn_ => (Kd.freshB (g := gb333) (o := .cells #[.string t322, .int .i64 t323, .int .i64 t324, .int .i64 t325, .int .i64 t326, .int .i64 t327, .string t328, .slice Ao79 t329.length co79] 38 (0, 0)) (by (with_reducible repeat (first | refine blk_drewN ?_ _ | refine blk_drew ?_ | refine blk_alloc ?_ _)); exact BK333.out) k_ hn_))⟩)) bsize_); have n3_ := Aside0.mk (blkB_ BK314.out hb); have n4_ := Aside0.mk (blkB_ BK333.out hb); have n5_ := Aside0.mk (bstep_ hb); clear HO_7; clear HO331; clear BK314; clear BK333; clear HB; have HO_7 := n0_; have HO331 := n1_; have HO343 := n2_; have BK314 := n3_; have BK333 := n4_; have HB := n5_; clear n0_ n1_ n2_ n3_ n4_ n5_; (try clear hb); (try clear hb2); (try clear hk); (try clear hi); (try clear ho0)) | ((with_reducible refine gate_dst (N := 12) rfl ?_); (try (refine gate_guard (by rfl) ?_; dsimp only)); refine boxA_ 12 45 #[.string (⟨#[]⟩ : ByteArray), .int .i64 0, .int .i64 0, .int .i64 0, .int .i64 0, .int .i64 0, .string (⟨#[]⟩ : ByteArray), .slice none 0 0] ?_; intro gb345 hg w83 hbox hb; have n0_ := Aside0.mk (Kd.R_below (by (with_reducible repeat (first | apply Kd.R_alloc | apply Kd.R_drewN | apply Kd.R_drew)); exact HO_7.out) hb); have n1_ := Aside0.mk (Kd.R_below (by (with_reducible repeat (first | apply Kd.R_alloc | apply Kd.R_drewN | apply Kd.R_drew)); exact HO331.out) hb); have n2_ := Aside0.mk (Kd.V_below (Kd.V_elderB (by (with_reducible repeat (first | apply Kd.V_alloc | apply Kd.V_drewN | apply Kd.V_drew)); exact HO343.out) gb345 (Nat.le_of_eq hg.symm)) hb); have n3_ := Aside0.mk (blkB_ BK314.out hb); have n4_ := Aside0.mk (blkB_ BK333.out hb); have n5_ := Aside0.mk (bstep_ hb); have n6_ := Aside0.mk (hbox); have n7_ := Aside0.mk ((by rw [hg]; exact bsize_ : w.heap.size ≤ gb345)); have n8_ := Aside0.mk ((by rw [hg]; exact bsize_ : w.heap.size ≤ gb345)); have n9_ := Aside0.mk ((by rw [hg]; exact Nat.ne_of_lt (blkL_ BK314.out) : gb314 ≠ gb345)); have n10_ := Aside0.mk ((by rw [hg]; exact Nat.ne_of_gt (blkL_ BK314.out) : gb345 ≠ gb314)); have n11_ := Aside0.mk ((by rw [hg]; exact Nat.ne_of_lt (blkL_ BK333.out) : gb333 ≠ gb345)); have n12_ := Aside0.mk ((by rw [hg]; exact Nat.ne_of_gt (blkL_ BK333.out) : gb345 ≠ gb333)); clear HO_7; clear HO331; clear HO343; clear BK314; clear BK333; clear HB; have HO_7 := n0_; have HO331 := n1_; have HO343 := n2_; have BK314 := n3_; have BK333 := n4_; have HB := n5_; have BK345 := n6_; have GW345 := n7_; have GE345 := n8_; have NB314_345 := n9_; have NB345_314 := n10_; have NB333_345 := n11_; have NB345_333 := n12_; clear n0_ n1_ n2_ n3_ n4_ n5_ n6_ n7_ n8_ n9_ n10_ n11_ n12_; clear hb hbox hg; have hnb84 := NB345_314.out; have hnc84 := NB314_345.out; have hnb85 := NB345_333.out; have hnc85 := NB333_345.out; obtain ⟨hcz86_0, hcz86_1, hcz86_2, hcz86_3, hcz86_4, hcz86_5, hcz86_6, hcz86_7, hfz86_0, hfz86_1, hfz86_2, hfz86_3, hfz86_4, hfz86_5, hfz86_6, hfz86_7⟩ := blk_all8 BK345.out; obtain ⟨Ao87, co87, eo87⟩ := Kd.V_slice HO343.out; subst eo87) | ((with_reducible refine gate_store (t := 45) (p := 12) rfl ?_); refine store_event (t := 45) (p := 12) (v := ?vo_w88) (w1 := ((((((((w83.setCell ⟨gb345, 0, none⟩ (.string t334)).setCell ⟨gb345, 1, none⟩ (.int .i64 t335)).setCell ⟨gb345, 2, none⟩ (.int .i64 t336)).setCell ⟨gb345, 3, none⟩ (.int .i64 t337)).setCell ⟨gb345, 4, none⟩ (.int .i64 t338)).setCell ⟨gb345, 5, none⟩ (.int .i64 t339)).setCell ⟨gb345, 6, none⟩ (.string t340)).setCell ⟨gb345, 7, none⟩ (.slice Ao87 t341.length co87))) ?hg ?ho ?hn ?hr ?_; (case ho => rfl); (case hg => rfl); (case hn => rfl); (case hr => first | (go_simp; done) | (go_simp; rfl)); intro w88 hw; have n0_ : Aside0 (Kd.R k35 35 w88 w.heap.size (fun _ => True) (.slice Ao74 x7_2.length co74) x7_2) := ⟨(by rw [hw]; exact (by (with_reducible repeat (first | apply Kd.R_alloc | apply Kd.R_drewN | apply Kd.R_drew)); exact Kd.R_mono (Kd.R_far (p := ⟨gb345, 7, none⟩) (Kd.R_far (p := ⟨gb345, 6, none⟩) (Kd.R_far (p := ⟨gb345, 5, none⟩) (Kd.R_far (p := ⟨gb345, 4, none⟩) (Kd.R_far (p := ⟨gb345, 3, none⟩) (Kd.R_far (p := ⟨gb345, 2, none⟩) (Kd.R_far (p := ⟨gb345, 1, none⟩) (Kd.R_far (p := ⟨gb345, 0, none⟩) (Kd.R_types HO_7.out BK345.out (by decide)) (fun _ hk => hk.2) (.string t334)) (fun _ hk => hk.2) (.int .i64 t335)) (fun _ hk => hk.2) (.int .i64 t336)) (fun _ hk => hk.2) (.int .i64 t337)) (fun _ hk => hk.2) (.int .i64 t338)) (fun _ hk => hk.2) (.int .i64 t339)) (fun _ hk => hk.2) (.string t340)) (fun _ hk => hk.2) (.slice Ao87 t341.length co87)) (fun _ hk => trivial)))⟩; have n1_ : Aside0 (Kd.R (Kd.int .u8) 5 w88 w.heap.size (fun _ => True) (.slice Ao79 t329.length co79) t329) := ⟨(by rw [hw]; exact (by (with_reducible repeat (first | apply Kd.R_alloc | apply Kd.R_drewN | apply Kd.R_drew)); exact Kd.R_mono (Kd.R_far (p := ⟨gb345, 7, none⟩) (Kd.R_far (p := ⟨gb345, 6, none⟩) (Kd.R_far (p := ⟨gb345, 5, none⟩) (Kd.R_far (p := ⟨gb345, 4, none⟩) (Kd.R_far (p := ⟨gb345, 3, none⟩) (Kd.R_far (p := ⟨gb345, 2, none⟩) (Kd.R_far (p := ⟨gb345, 1, none⟩) (Kd.R_far (p := ⟨gb345, 0, none⟩) (Kd.R_types HO331.out BK345.out (by decide)) (fun _ hk => hk.2) (.string t334)) (fun _ hk => hk.2) (.int .i64 t335)) (fun _ hk => hk.2) (.int .i64 t336)) (fun _ hk => hk.2) (.int .i64 t337)) (fun _ hk => hk.2) (.int .i64 t338)) (fun _ hk => hk.2) (.int .i64 t339)) (fun _ hk => hk.2) (.string t340)) (fun _ hk => hk.2) (.slice Ao87 t341.length co87)) (fun _ hk => trivial)))⟩; have n2_ : Aside0 (Kd.V (Kd.int .u8) 5 w88 w.heap.size (fun k_ => some k_ ≠ (.slice Ao74 x7_2.length co74 : Value).ownBlock ∧ some k_ ≠ (.slice Ao79 t329.length co79 : Value).ownBlock ∧ k_ ≠ gb314 ∧ k_ ≠ gb333 ∧ k_ ≠ gb345) (.slice Ao87 t341.length co87) t341) := ⟨(by rw [hw]; exact (by (with_reducible repeat (first | apply Kd.V_alloc | apply Kd.V_drewN | apply Kd.V_drew)); exact Kd.V_mono (Kd.V_far (p := ⟨gb345, 7, none⟩) (Kd.V_far (p := ⟨gb345, 6, none⟩) (Kd.V_far (p := ⟨gb345, 5, none⟩) (Kd.V_far (p := ⟨gb345, 4, none⟩) (Kd.V_far (p := ⟨gb345, 3, none⟩) (Kd.V_far (p := ⟨gb345, 2, none⟩) (Kd.V_far (p := ⟨gb345, 1, none⟩) (Kd.V_far (p := ⟨gb345, 0, none⟩) (Kd.V_mono HO343.out (fun k_ hk => (⟨hk, hk.2⟩ : _ ∧ k_ ≠ gb345))) (fun _ hk => hk.2) (.string t334)) (fun _ hk => hk.2) (.int .i64 t335)) (fun _ hk => hk.2) (.int .i64 t336)) (fun _ hk => hk.2) (.int .i64 t337)) (fun _ hk => hk.2) (.int .i64 t338)) (fun _ hk => hk.2) (.int .i64 t339)) (fun _ hk => hk.2) (.string t340)) (fun _ hk => hk.2) (.slice Ao87 t341.length co87)) (fun _ hk => ⟨hk.1.1.1, ⟨hk.1.1.2.1, ⟨hk.1.1.2.2.1, ⟨hk.1.1.2.2.2, hk.1.2⟩⟩⟩⟩)))⟩; have n3_ : Aside0 (w88.heap[gb314]? = some (.cells #[.string a0_0, .string a0_1, .int .i64 a0_2, .int .i64 a0_3, .int .i64 a0_4, .int .i64 a0_5, .int .i64 a0_6, .int .u8 a0_7, .string a0_8] 29 (0, 0))) := ⟨(by rw [hw]; exact (by (with_reducible repeat (first | refine blk_drewN ?_ _ | refine blk_drew ?_ | refine blk_alloc ?_ _)); refine blk_far ?_ NB314_345.out _; (with_reducible repeat (first | refine blk_drewN ?_ _ | refine blk_drew ?_ | refine blk_alloc ?_ _)); refine blk_far ?_ NB314_345.out _; (with_reducible repeat (first | refine blk_drewN ?_ _ | refine blk_drew ?_ | refine blk_alloc ?_ _)); refine blk_far ?_ NB314_345.out _; (with_reducible repeat (first | refine blk_drewN ?_ _ | refine blk_drew ?_ | refine blk_alloc ?_ _)); refine blk_far ?_ NB314_345.out _; (with_reducible repeat (first | refine blk_drewN ?_ _ | refine blk_drew ?_ | refine blk_alloc ?_ _)); refine blk_far ?_ NB314_345.out _; (with_reducible repeat (first | refine blk_drewN ?_ _ | refine blk_drew ?_ | refine blk_alloc ?_ _)); refine blk_far ?_ NB314_345.out _; (with_reducible repeat (first | refine blk_drewN ?_ _ | refine blk_drew ?_ | refine blk_alloc ?_ _)); refine blk_far ?_ NB314_345.out _; (with_reducible repeat (first | refine blk_drewN ?_ _ | refine blk_drew ?_ | refine blk_alloc ?_ _)); refine blk_far ?_ NB314_345.out _; (with_reducible repeat (first | refine blk_drewN ?_ _ | refine blk_drew ?_ | refine blk_alloc ?_ _)); exact BK314.out))⟩; have n4_ : Aside0 (w88.heap[gb333]? = some (.cells #[.string t322, .int .i64 t323, .int .i64 t324, .int .i64 t325, .int .i64 t326, .int .i64 t327, .string t328, .slice Ao79 t329.length co79] 38 (0, 0))) := ⟨(by rw [hw]; exact (by (with_reducible repeat (first | refine blk_drewN ?_ _ | refine blk_drew ?_ | refine blk_alloc ?_ _)); refine blk_far ?_ NB333_345.out _; (with_reducible repeat (first | refine blk_drewN ?_ _ | refine blk_drew ?_ | refine blk_alloc ?_ _)); refine blk_far ?_ NB333_345.out _; (with_reducible repeat (first | refine blk_drewN ?_ _ | refine blk_drew ?_ | refine blk_alloc ?_ _)); refine blk_far ?_ NB333_345.out _; (with_reducible repeat (first | refine blk_drewN ?_ _ | refine blk_drew ?_ | refine blk_alloc ?_ _)); refine blk_far ?_ NB333_345.out _; (with_reducible repeat (first | refine blk_drewN ?_ _ | refine blk_drew ?_ | refine blk_alloc ?_ _)); refine blk_far ?_ NB333_345.out _; (with_reducible repeat (first | refine blk_drewN ?_ _ | refine blk_drew ?_ | refine blk_alloc ?_ _)); refine blk_far ?_ NB333_345.out _; (with_reducible repeat (first | refine blk_drewN ?_ _ | refine blk_drew ?_ | refine blk_alloc ?_ _)); refine blk_far ?_ NB333_345.out _; (with_reducible repeat (first | refine blk_drewN ?_ _ | refine blk_drew ?_ | refine blk_alloc ?_ _)); refine blk_far ?_ NB333_345.out _; (with_reducible repeat (first | refine blk_drewN ?_ _ | refine blk_drew ?_ | refine blk_alloc ?_ _)); exact BK333.out))⟩; have n5_ : Aside0 (w88.heap[gb345]? = some (.cells #[.string t334, .int .i64 t335, .int .i64 t336, .int .i64 t337, .int .i64 t338, .int .i64 t339, .string t340, .slice Ao87 t341.length co87] 45 (0, 0))) := ⟨(by rw [hw]; exact (by (with_reducible repeat (first | refine blk_drewN ?_ _ | refine blk_drew ?_ | refine blk_alloc ?_ _)); refine blk_put (cs := #[.string t334, .int .i64 t335, .int .i64 t336, .int .i64 t337, .int .i64 t338, .int .i64 t339, .string t340, .slice none 0 0]) ?_ 7 _ rfl; (with_reducible repeat (first | refine blk_drewN ?_ _ | refine blk_drew ?_ | refine blk_alloc ?_ _)); refine blk_put (cs := #[.string t334, .int .i64 t335, .int .i64 t336, .int .i64 t337, .int .i64 t338, .int .i64 t339, .string (⟨#[]⟩ : ByteArray), .slice none 0 0]) ?_ 6 _ rfl; (with_reducible repeat (first | refine blk_drewN ?_ _ | refine blk_drew ?_ | refine blk_alloc ?_ _)); refine blk_put (cs := #[.string t334, .int .i64 t335, .int .i64 t336, .int .i64 t337, .int .i64 t338, .int .i64 0, .string (⟨#[]⟩ : ByteArray), .slice none 0 0]) ?_ 5 _ rfl; (with_reducible repeat (first | refine blk_drewN ?_ _ | refine blk_drew ?_ | refine blk_alloc ?_ _)); refine blk_put (cs := #[.string t334, .int .i64 t335, .int .i64 t336, .int .i64 t337, .int .i64 0, .int .i64 0, .string (⟨#[]⟩ : ByteArray), .slice none 0 0]) ?_ 4 _ rfl; (with_reducible repeat (first | refine blk_drewN ?_ _ | refine blk_drew ?_ | refine blk_alloc ?_ _)); refine blk_put (cs := #[.string t334, .int .i64 t335, .int .i64 t336, .int .i64 0, .int .i64 0, .int .i64 0, .string (⟨#[]⟩ : ByteArray), .slice none 0 0]) ?_ 3 _ rfl; (with_reducible repeat (first | refine blk_drewN ?_ _ | refine blk_drew ?_ | refine blk_alloc ?_ _)); refine blk_put (cs := #[.string t334, .int .i64 t335, .int .i64 0, .int .i64 0, .int .i64 0, .int .i64 0, .string (⟨#[]⟩ : ByteArray), .slice none 0 0]) ?_ 2 _ rfl; (with_reducible repeat (first | refine blk_drewN ?_ _ | refine blk_drew ?_ | refine blk_alloc ?_ _)); refine blk_put (cs := #[.string t334, .int .i64 0, .int .i64 0, .int .i64 0, .int .i64 0, .int .i64 0, .string (⟨#[]⟩ : ByteArray), .slice none 0 0]) ?_ 1 _ rfl; (with_reducible repeat (first | refine blk_drewN ?_ _ | refine blk_drew ?_ | refine blk_alloc ?_ _)); refine blk_put (cs := #[.string (⟨#[]⟩ : ByteArray), .int .i64 0, .int .i64 0, .int .i64 0, .int .i64 0, .int .i64 0, .string (⟨#[]⟩ : ByteArray), .slice none 0 0]) ?_ 0 _ rfl; (with_reducible repeat (first | refine blk_drewN ?_ _ | refine blk_drew ?_ | refine blk_alloc ?_ _)); exact BK345.out))⟩; have n6_ : Aside0 (Below w.heap.size w w88) := ⟨(by rw [hw]; exact belA_)⟩; clear hw; clear HO_7; clear HO331; clear HO343; clear BK314; clear BK333; clear BK345; clear HB; have HO_7 := n0_; have HO331 := n1_; have HO343 := n2_; have BK314 := n3_; have BK333 := n4_; have BK345 := n5_; have HB := n6_; clear n0_ n1_ n2_ n3_ n4_ n5_ n6_; obtain ⟨hcz89_0, hcz89_1, hcz89_2, hcz89_3, hcz89_4, hcz89_5, hcz89_6, hcz89_7, hfz89_0, hfz89_1, hfz89_2, hfz89_3, hfz89_4, hfz89_5, hfz89_6, hfz89_7⟩ := blk_all8 BK345.out) | ((with_reducible refine gate_callee (f := 13) rfl ?_); refine goesA_ (some 85) Tryz.func13 #[.agg #[.string t334, .int .i64 t335, .int .i64 t336, .int .i64 t337, .int .i64 t338, .int .i64 t339, .string t340, .slice Ao87 t341.length co87]] ?_; (with_reducible refine (thwartlaw08_theirs.calls t334 t335 t336 t337 t338 t339 t340 (fun k_ => (some k_ ≠ (.slice Ao74 x7_2.length co74 : Value).ownBlock ∧ (some k_ ≠ (.slice Ao79 t329.length co79 : Value).ownBlock ∧ (k_ ≠ gb314 ∧ (k_ ≠ gb333 ∧ k_ ≠ gb345))))) _ _ t341 t346 t347 t348 t349 t350 t351 t352 t353 _ ?side1 A34.out).mono ?_); (case side1 => exact HO343.out); rintro e w90 ⟨v354, rfl, ho0, hb⟩; refine ⟨_, rfl, ?_⟩; have n0_ := Aside0.mk (Kd.R_below (by (with_reducible repeat (first | apply Kd.R_alloc | apply Kd.R_drewN | apply Kd.R_drew)); exact HO_7.out) hb); have n1_ := Aside0.mk (Kd.R_below (by (with_reducible repeat (first | apply Kd.R_alloc | apply Kd.R_drewN | apply Kd.R_drew)); exact HO331.out) hb); have n2_ := Aside0.mk (Kd.V_below (by (with_reducible repeat (first | apply Kd.V_alloc | apply Kd.V_drewN | apply Kd.V_drew)); exact HO343.out) hb); have n3_ := Aside0.mk (Kd.V_lower (Kd.V_mono (ok' := fun k_ => some k_ ≠ (.slice Ao74 x7_2.length co74 : Value).ownBlock ∧ some k_ ≠ (.slice Ao79 t329.length co79 : Value).ownBlock ∧ k_ ≠ gb314 ∧ k_ ≠ gb333 ∧ k_ ≠ gb345) ho0 (fun k_ hk_ => ⟨Or.elim hk_ (fun hs_ => hs_.1) (fun hn_ => (Kd.fresh' (Kd.R_lt (by (with_reducible repeat (first | apply Kd.R_alloc | apply Kd.R_drewN | apply Kd.R_drew)); exact HO_7.out)) k_ hn_)), Or.elim hk_ (fun hs_ => hs_.2.1) (fun hn_ => (Kd.fresh' (Kd.R_lt (by (with_reducible repeat (first | apply Kd.R_alloc | apply Kd.R_drewN | apply Kd.R_drew)); exact HO331.out)) k_ hn_)), Or.elim hk_ (fun hs_ => hs_.2.2.1) (fun hn_ => (Kd.freshB (g := gb314) (o := .cells #[.string a0_0, .string a0_1, .int .i64 a0_2, .int .i64 a0_3, .int .i64 a0_4, .int .i64 a0_5, .int .i64 a0_6, .int .u8 a0_7, .string a0_8] 29 (0, 0)) (by (with_reducible repeat (first | refine blk_drewN ?_ _ | refine blk_drew ?_ | refine blk_alloc ?_ _)); exact BK314.out) k_ hn_)), Or.elim hk_ (fun hs_ => hs_.2.2.2.1) (fun hn_ => (Kd.freshB (g := gb333) (o := .cells #[.string t322, .int .i64 t323, .int .i64 t324, .int .i64 t325, .int .i64 t326, .int .i64 t327, .string t328, .slice Ao79 t329.length co79] 38 (0, 0)) (by (with_reducible repeat (first | refine blk_drewN ?_ _ | refine blk_drew ?_ | refine blk_alloc ?_ _)); exact BK333.out) k_ hn_)), Or.elim hk_ (fun hs_ => hs_.2.2.2.2) (fun hn_ => (Kd.freshB (g := gb345) (o := .cells #[.string t334, .int .i64 t335, .int .i64 t336, .int .i64 t337, .int .i64 t338, .int .i64 t339, .string t340, .slice Ao87 t341.length co87] 45 (0, 0)) (by (with_reducible repeat (first | refine blk_drewN ?_ _ | refine blk_drew ?_ | refine blk_alloc ?_ _)); exact BK345.out) k_ hn_))⟩)) bsize_); have n4_ := Aside0.mk (blkB_ BK314.out hb); have n5_ := Aside0.mk (blkB_ BK333.out hb); have n6_ := Aside0.mk (blkB_ BK345.out hb); have n7_ := Aside0.mk (bstep_ hb); clear HO_7; clear HO331; clear HO343; clear BK314; clear BK333; clear BK345; clear HB; have HO_7 := n0_; have HO331 := n1_; have HO343 := n2_; have HO355 := n3_; have BK314 := n4_; have BK333 := n5_; have BK345 := n6_; have HB := n7_; clear n0_ n1_ n2_ n3_ n4_ n5_ n6_ n7_; (try clear hb); (try clear hb2); (try clear hk); (try clear hi); (try clear ho0)) | ((with_reducible refine gate_dst (N := 14) rfl ?_); (try (refine gate_guard (by rfl) ?_; dsimp only)); refine boxA_ 14 38 #[.string (⟨#[]⟩ : ByteArray), .int .i64 0, .int .i64 0, .int .i64 0, .int .i64 0, .int .i64 0, .string (⟨#[]⟩ : ByteArray), .slice none 0 0] ?_; intro gb356 hg w91 hbox hb; have n0_ := Aside0.mk (Kd.R_below (by (with_reducible repeat (first | apply Kd.R_alloc | apply Kd.R_drewN | apply Kd.R_drew)); exact HO_7.out) hb); have n1_ := Aside0.mk (Kd.R_below (by (with_reducible repeat (first | apply Kd.R_alloc | apply Kd.R_drewN | apply Kd.R_drew)); exact HO331.out) hb); have n2_ := Aside0.mk (Kd.V_below (Kd.V_elderB (by (with_reducible repeat (first | apply Kd.V_alloc | apply Kd.V_drewN | apply Kd.V_drew)); exact HO343.out) gb356 (Nat.le_of_eq hg.symm)) hb); have n3_ := Aside0.mk (Kd.V_below (Kd.V_elderB (by (with_reducible repeat (first | apply Kd.V_alloc | apply Kd.V_drewN | apply Kd.V_drew)); exact HO355.out) gb356 (Nat.le_of_eq hg.symm)) hb); have n4_ := Aside0.mk (blkB_ BK314.out hb); have n5_ := Aside0.mk (blkB_ BK333.out hb); have n6_ := Aside0.mk (blkB_ BK345.out hb); have n7_ := Aside0.mk (bstep_ hb); have n8_ := Aside0.mk (hbox); have n9_ := Aside0.mk ((by rw [hg]; exact bsize_ : w.heap.size ≤ gb356)); have n10_ := Aside0.mk ((by rw [hg]; exact bsize_ : w.heap.size ≤ gb356)); have n11_ := Aside0.mk ((by rw [hg]; exact Nat.ne_of_lt (blkL_ BK314.out) : gb314 ≠ gb356)); have n12_ := Aside0.mk ((by rw [hg]; exact Nat.ne_of_gt (blkL_ BK314.out) : gb356 ≠ gb314)); have n13_ := Aside0.mk ((by rw [hg]; exact Nat.ne_of_lt (blkL_ BK333.out) : gb333 ≠ gb356)); have n14_ := Aside0.mk ((by rw [hg]; exact Nat.ne_of_gt (blkL_ BK333.out) : gb356 ≠ gb333)); have n15_ := Aside0.mk ((by rw [hg]; exact Nat.ne_of_lt (blkL_ BK345.out) : gb345 ≠ gb356)); have n16_ := Aside0.mk ((by rw [hg]; exact Nat.ne_of_gt (blkL_ BK345.out) : gb356 ≠ gb345)); clear HO_7; clear HO331; clear HO343; clear HO355; clear BK314; clear BK333; clear BK345; clear HB; have HO_7 := n0_; have HO331 := n1_; have HO343 := n2_; have HO355 := n3_; have BK314 := n4_; have BK333 := n5_; have BK345 := n6_; have HB := n7_; have BK356 := n8_; have GW356 := n9_; have GE356 := n10_; have NB314_356 := n11_; have NB356_314 := n12_; have NB333_356 := n13_; have NB356_333 := n14_; have NB345_356 := n15_; have NB356_345 := n16_; clear n0_ n1_ n2_ n3_ n4_ n5_ n6_ n7_ n8_ n9_ n10_ n11_ n12_ n13_ n14_ n15_ n16_; clear hb hbox hg; have hnb92 := NB356_314.out; have hnc92 := NB314_356.out; have hnb93 := NB356_333.out; have hnc93 := NB333_356.out; have hnb94 := NB356_345.out; have hnc94 := NB345_356.out; obtain ⟨hcz95_0, hcz95_1, hcz95_2, hcz95_3, hcz95_4, hcz95_5, hcz95_6, hcz95_7, hfz95_0, hfz95_1, hfz95_2, hfz95_3, hfz95_4, hfz95_5, hfz95_6, hfz95_7⟩ := blk_all8 BK356.out; obtain ⟨Ao96, co96, eo96⟩ := Kd.V_slice HO355.out; subst eo96))
           have n0_ : Aside0 (Kd.R k35 35 (((((((((w91.setCell ⟨gb356, 0, none⟩ (.string t346)).setCell ⟨gb356, 1, none⟩ (.int .i64 t347)).setCell ⟨gb356, 2, none⟩ (.int .i64 t348)).setCell ⟨gb356, 3, none⟩ (.int .i64 t349)).setCell ⟨gb356, 4, none⟩ (.int .i64 t350)).setCell ⟨gb356, 5, none⟩ (.int .i64 t351)).setCell ⟨gb356, 6, none⟩ (.string t352)).setCell ⟨gb356, 7, none⟩ (.slice Ao96 t353.length co96)).setCell ⟨gb356, 6, none⟩ (.string (t352 ++ (⟨#[120]⟩ : ByteArray)))) w.heap.size (fun _ => True) (.slice Ao74 x7_2.length co74) x7_2) := ⟨by (with_reducible repeat (first | apply Kd.R_alloc | apply Kd.R_drewN | apply Kd.R_drew)); exact Kd.R_mono (Kd.R_far (p := ⟨gb356, 6, none⟩) (Kd.R_far (p := ⟨gb356, 7, none⟩) (Kd.R_far (p := ⟨gb356, 6, none⟩) (Kd.R_far (p := ⟨gb356, 5, none⟩) (Kd.R_far (p := ⟨gb356, 4, none⟩) (Kd.R_far (p := ⟨gb356, 3, none⟩) (Kd.R_far (p := ⟨gb356, 2, none⟩) (Kd.R_far (p := ⟨gb356, 1, none⟩) (Kd.R_far (p := ⟨gb356, 0, none⟩) (Kd.R_types HO_7.out BK356.out (by decide)) (fun _ hk => hk.2) (.string t346)) (fun _ hk => hk.2) (.int .i64 t347)) (fun _ hk => hk.2) (.int .i64 t348)) (fun _ hk => hk.2) (.int .i64 t349)) (fun _ hk => hk.2) (.int .i64 t350)) (fun _ hk => hk.2) (.int .i64 t351)) (fun _ hk => hk.2) (.string t352)) (fun _ hk => hk.2) (.slice Ao96 t353.length co96)) (fun _ hk => hk.2) (.string (t352 ++ (⟨#[120]⟩ : ByteArray)))) (fun _ hk => trivial)⟩
           have n1_ : Aside0 (Kd.R (Kd.int .u8) 5 (((((((((w91.setCell ⟨gb356, 0, none⟩ (.string t346)).setCell ⟨gb356, 1, none⟩ (.int .i64 t347)).setCell ⟨gb356, 2, none⟩ (.int .i64 t348)).setCell ⟨gb356, 3, none⟩ (.int .i64 t349)).setCell ⟨gb356, 4, none⟩ (.int .i64 t350)).setCell ⟨gb356, 5, none⟩ (.int .i64 t351)).setCell ⟨gb356, 6, none⟩ (.string t352)).setCell ⟨gb356, 7, none⟩ (.slice Ao96 t353.length co96)).setCell ⟨gb356, 6, none⟩ (.string (t352 ++ (⟨#[120]⟩ : ByteArray)))) w.heap.size (fun _ => True) (.slice Ao79 t329.length co79) t329) := ⟨by (with_reducible repeat (first | apply Kd.R_alloc | apply Kd.R_drewN | apply Kd.R_drew)); exact Kd.R_mono (Kd.R_far (p := ⟨gb356, 6, none⟩) (Kd.R_far (p := ⟨gb356, 7, none⟩) (Kd.R_far (p := ⟨gb356, 6, none⟩) (Kd.R_far (p := ⟨gb356, 5, none⟩) (Kd.R_far (p := ⟨gb356, 4, none⟩) (Kd.R_far (p := ⟨gb356, 3, none⟩) (Kd.R_far (p := ⟨gb356, 2, none⟩) (Kd.R_far (p := ⟨gb356, 1, none⟩) (Kd.R_far (p := ⟨gb356, 0, none⟩) (Kd.R_types HO331.out BK356.out (by decide)) (fun _ hk => hk.2) (.string t346)) (fun _ hk => hk.2) (.int .i64 t347)) (fun _ hk => hk.2) (.int .i64 t348)) (fun _ hk => hk.2) (.int .i64 t349)) (fun _ hk => hk.2) (.int .i64 t350)) (fun _ hk => hk.2) (.int .i64 t351)) (fun _ hk => hk.2) (.string t352)) (fun _ hk => hk.2) (.slice Ao96 t353.length co96)) (fun _ hk => hk.2) (.string (t352 ++ (⟨#[120]⟩ : ByteArray)))) (fun _ hk => trivial)⟩
           have n2_ : Aside0 (Kd.V (Kd.int .u8) 5 (((((((((w91.setCell ⟨gb356, 0, none⟩ (.string t346)).setCell ⟨gb356, 1, none⟩ (.int .i64 t347)).setCell ⟨gb356, 2, none⟩ (.int .i64 t348)).setCell ⟨gb356, 3, none⟩ (.int .i64 t349)).setCell ⟨gb356, 4, none⟩ (.int .i64 t350)).setCell ⟨gb356, 5, none⟩ (.int .i64 t351)).setCell ⟨gb356, 6, none⟩ (.string t352)).setCell ⟨gb356, 7, none⟩ (.slice Ao96 t353.length co96)).setCell ⟨gb356, 6, none⟩ (.string (t352 ++ (⟨#[120]⟩ : ByteArray)))) w.heap.size (fun k_ => some k_ ≠ (.slice Ao74 x7_2.length co74 : Value).ownBlock ∧ some k_ ≠ (.slice Ao79 t329.length co79 : Value).ownBlock ∧ k_ ≠ gb314 ∧ k_ ≠ gb333 ∧ k_ ≠ gb345 ∧ k_ ≠ gb356) (.slice Ao87 t341.length co87) t341) := ⟨by (with_reducible repeat (first | apply Kd.V_alloc | apply Kd.V_drewN | apply Kd.V_drew)); exact Kd.V_mono (Kd.V_far (p := ⟨gb356, 6, none⟩) (Kd.V_far (p := ⟨gb356, 7, none⟩) (Kd.V_far (p := ⟨gb356, 6, none⟩) (Kd.V_far (p := ⟨gb356, 5, none⟩) (Kd.V_far (p := ⟨gb356, 4, none⟩) (Kd.V_far (p := ⟨gb356, 3, none⟩) (Kd.V_far (p := ⟨gb356, 2, none⟩) (Kd.V_far (p := ⟨gb356, 1, none⟩) (Kd.V_far (p := ⟨gb356, 0, none⟩) (Kd.V_mono HO343.out (fun k_ hk => (⟨hk, hk.2⟩ : _ ∧ k_ ≠ gb356))) (fun _ hk => hk.2) (.string t346)) (fun _ hk => hk.2) (.int .i64 t347)) (fun _ hk => hk.2) (.int .i64 t348)) (fun _ hk => hk.2) (.int .i64 t349)) (fun _ hk => hk.2) (.int .i64 t350)) (fun _ hk => hk.2) (.int .i64 t351)) (fun _ hk => hk.2) (.string t352)) (fun _ hk => hk.2) (.slice Ao96 t353.length co96)) (fun _ hk => hk.2) (.string (t352 ++ (⟨#[120]⟩ : ByteArray)))) (fun _ hk => ⟨hk.1.1.1, ⟨hk.1.1.2.1, ⟨hk.1.1.2.2.1, ⟨hk.1.1.2.2.2.1, ⟨hk.1.1.2.2.2.2, hk.1.2⟩⟩⟩⟩⟩)⟩
           have n3_ : Aside0 (Kd.V (Kd.int .u8) 5 (((((((((w91.setCell ⟨gb356, 0, none⟩ (.string t346)).setCell ⟨gb356, 1, none⟩ (.int .i64 t347)).setCell ⟨gb356, 2, none⟩ (.int .i64 t348)).setCell ⟨gb356, 3, none⟩ (.int .i64 t349)).setCell ⟨gb356, 4, none⟩ (.int .i64 t350)).setCell ⟨gb356, 5, none⟩ (.int .i64 t351)).setCell ⟨gb356, 6, none⟩ (.string t352)).setCell ⟨gb356, 7, none⟩ (.slice Ao96 t353.length co96)).setCell ⟨gb356, 6, none⟩ (.string (t352 ++ (⟨#[120]⟩ : ByteArray)))) w.heap.size (fun k_ => some k_ ≠ (.slice Ao74 x7_2.length co74 : Value).ownBlock ∧ some k_ ≠ (.slice Ao79 t329.length co79 : Value).ownBlock ∧ k_ ≠ gb314 ∧ k_ ≠ gb333 ∧ k_ ≠ gb345 ∧ k_ ≠ gb356) (.slice Ao96 t353.length co96) t353) := ⟨by (with_reducible repeat (first | apply Kd.V_alloc | apply Kd.V_drewN | apply Kd.V_drew)); exact Kd.V_mono (Kd.V_far (p := ⟨gb356, 6, none⟩) (Kd.V_far (p := ⟨gb356, 7, none⟩) (Kd.V_far (p := ⟨gb356, 6, none⟩) (Kd.V_far (p := ⟨gb356, 5, none⟩) (Kd.V_far (p := ⟨gb356, 4, none⟩) (Kd.V_far (p := ⟨gb356, 3, none⟩) (Kd.V_far (p := ⟨gb356, 2, none⟩) (Kd.V_far (p := ⟨gb356, 1, none⟩) (Kd.V_far (p := ⟨gb356, 0, none⟩) (Kd.V_mono HO355.out (fun k_ hk => (⟨hk, hk.2⟩ : _ ∧ k_ ≠ gb356))) (fun _ hk => hk.2) (.string t346)) (fun _ hk => hk.2) (.int .i64 t347)) (fun _ hk => hk.2) (.int .i64 t348)) (fun _ hk => hk.2) (.int .i64 t349)) (fun _ hk => hk.2) (.int .i64 t350)) (fun _ hk => hk.2) (.int .i64 t351)) (fun _ hk => hk.2) (.string t352)) (fun _ hk => hk.2) (.slice Ao96 t353.length co96)) (fun _ hk => hk.2) (.string (t352 ++ (⟨#[120]⟩ : ByteArray)))) (fun _ hk => ⟨hk.1.1.1, ⟨hk.1.1.2.1, ⟨hk.1.1.2.2.1, ⟨hk.1.1.2.2.2.1, ⟨hk.1.1.2.2.2.2, hk.1.2⟩⟩⟩⟩⟩)⟩
           have n4_ : Aside0 ((((((((((w91.setCell ⟨gb356, 0, none⟩ (.string t346)).setCell ⟨gb356, 1, none⟩ (.int .i64 t347)).setCell ⟨gb356, 2, none⟩ (.int .i64 t348)).setCell ⟨gb356, 3, none⟩ (.int .i64 t349)).setCell ⟨gb356, 4, none⟩ (.int .i64 t350)).setCell ⟨gb356, 5, none⟩ (.int .i64 t351)).setCell ⟨gb356, 6, none⟩ (.string t352)).setCell ⟨gb356, 7, none⟩ (.slice Ao96 t353.length co96)).setCell ⟨gb356, 6, none⟩ (.string (t352 ++ (⟨#[120]⟩ : ByteArray)))).heap[gb314]? = some (.cells #[.string a0_0, .string a0_1, .int .i64 a0_2, .int .i64 a0_3, .int .i64 a0_4, .int .i64 a0_5, .int .i64 a0_6, .int .u8 a0_7, .string a0_8] 29 (0, 0))) := ⟨by (with_reducible repeat (first | refine blk_drewN ?_ _ | refine blk_drew ?_ | refine blk_alloc ?_ _)); refine blk_far ?_ NB314_356.out _; (with_reducible repeat (first | refine blk_drewN ?_ _ | refine blk_drew ?_ | refine blk_alloc ?_ _)); refine blk_far ?_ NB314_356.out _; (with_reducible repeat (first | refine blk_drewN ?_ _ | refine blk_drew ?_ | refine blk_alloc ?_ _)); refine blk_far ?_ NB314_356.out _; (with_reducible repeat (first | refine blk_drewN ?_ _ | refine blk_drew ?_ | refine blk_alloc ?_ _)); refine blk_far ?_ NB314_356.out _; (with_reducible repeat (first | refine blk_drewN ?_ _ | refine blk_drew ?_ | refine blk_alloc ?_ _)); refine blk_far ?_ NB314_356.out _; (with_reducible repeat (first | refine blk_drewN ?_ _ | refine blk_drew ?_ | refine blk_alloc ?_ _)); refine blk_far ?_ NB314_356.out _; (with_reducible repeat (first | refine blk_drewN ?_ _ | refine blk_drew ?_ | refine blk_alloc ?_ _)); refine blk_far ?_ NB314_356.out _; (with_reducible repeat (first | refine blk_drewN ?_ _ | refine blk_drew ?_ | refine blk_alloc ?_ _)); refine blk_far ?_ NB314_356.out _; (with_reducible repeat (first | refine blk_drewN ?_ _ | refine blk_drew ?_ | refine blk_alloc ?_ _)); refine blk_far ?_ NB314_356.out _; (with_reducible repeat (first | refine blk_drewN ?_ _ | refine blk_drew ?_ | refine blk_alloc ?_ _)); exact BK314.out⟩
           have n5_ : Aside0 ((((((((((w91.setCell ⟨gb356, 0, none⟩ (.string t346)).setCell ⟨gb356, 1, none⟩ (.int .i64 t347)).setCell ⟨gb356, 2, none⟩ (.int .i64 t348)).setCell ⟨gb356, 3, none⟩ (.int .i64 t349)).setCell ⟨gb356, 4, none⟩ (.int .i64 t350)).setCell ⟨gb356, 5, none⟩ (.int .i64 t351)).setCell ⟨gb356, 6, none⟩ (.string t352)).setCell ⟨gb356, 7, none⟩ (.slice Ao96 t353.length co96)).setCell ⟨gb356, 6, none⟩ (.string (t352 ++ (⟨#[120]⟩ : ByteArray)))).heap[gb333]? = some (.cells #[.string t322, .int .i64 t323, .int .i64 t324, .int .i64 t325, .int .i64 t326, .int .i64 t327, .string t328, .slice Ao79 t329.length co79] 38 (0, 0))) := ⟨by (with_reducible repeat (first | refine blk_drewN ?_ _ | refine blk_drew ?_ | refine blk_alloc ?_ _)); refine blk_far ?_ NB333_356.out _; (with_reducible repeat (first | refine blk_drewN ?_ _ | refine blk_drew ?_ | refine blk_alloc ?_ _)); refine blk_far ?_ NB333_356.out _; (with_reducible repeat (first | refine blk_drewN ?_ _ | refine blk_drew ?_ | refine blk_alloc ?_ _)); refine blk_far ?_ NB333_356.out _; (with_reducible repeat (first | refine blk_drewN ?_ _ | refine blk_drew ?_ | refine blk_alloc ?_ _)); refine blk_far ?_ NB333_356.out _; (with_reducible repeat (first | refine blk_drewN ?_ _ | refine blk_drew ?_ | refine blk_alloc ?_ _)); refine blk_far ?_ NB333_356.out _; (with_reducible repeat (first | refine blk_drewN ?_ _ | refine blk_drew ?_ | refine blk_alloc ?_ _)); refine blk_far ?_ NB333_356.out _; (with_reducible repeat (first | refine blk_drewN ?_ _ | refine blk_drew ?_ | refine blk_alloc ?_ _)); refine blk_far ?_ NB333_356.out _; (with_reducible repeat (first | refine blk_drewN ?_ _ | refine blk_drew ?_ | refine blk_alloc ?_ _)); refine blk_far ?_ NB333_356.out _; (with_reducible repeat (first | refine blk_drewN ?_ _ | refine blk_drew ?_ | refine blk_alloc ?_ _)); refine blk_far ?_ NB333_356.out _; (with_reducible repeat (first | refine blk_drewN ?_ _ | refine blk_drew ?_ | refine blk_alloc ?_ _)); exact BK333.out⟩
           have n6_ : Aside0 ((((((((((w91.setCell ⟨gb356, 0, none⟩ (.string t346)).setCell ⟨gb356, 1, none⟩ (.int .i64 t347)).setCell ⟨gb356, 2, none⟩ (.int .i64 t348)).setCell ⟨gb356, 3, none⟩ (.int .i64 t349)).setCell ⟨gb356, 4, none⟩ (.int .i64 t350)).setCell ⟨gb356, 5, none⟩ (.int .i64 t351)).setCell ⟨gb356, 6, none⟩ (.string t352)).setCell ⟨gb356, 7, none⟩ (.slice Ao96 t353.length co96)).setCell ⟨gb356, 6, none⟩ (.string (t352 ++ (⟨#[120]⟩ : ByteArray)))).heap[gb345]? = some (.cells #[.string t334, .int .i64 t335, .int .i64 t336, .int .i64 t337, .int .i64 t338, .int .i64 t339, .string t340, .slice Ao87 t341.length co87] 45 (0, 0))) := ⟨by (with_reducible repeat (first | refine blk_drewN ?_ _ | refine blk_drew ?_ | refine blk_alloc ?_ _)); refine blk_far ?_ NB345_356.out _; (with_reducible repeat (first | refine blk_drewN ?_ _ | refine blk_drew ?_ | refine blk_alloc ?_ _)); refine blk_far ?_ NB345_356.out _; (with_reducible repeat (first | refine blk_drewN ?_ _ | refine blk_drew ?_ | refine blk_alloc ?_ _)); refine blk_far ?_ NB345_356.out _; (with_reducible repeat (first | refine blk_drewN ?_ _ | refine blk_drew ?_ | refine blk_alloc ?_ _)); refine blk_far ?_ NB345_356.out _; (with_reducible repeat (first | refine blk_drewN ?_ _ | refine blk_drew ?_ | refine blk_alloc ?_ _)); refine blk_far ?_ NB345_356.out _; (with_reducible repeat (first | refine blk_drewN ?_ _ | refine blk_drew ?_ | refine blk_alloc ?_ _)); refine blk_far ?_ NB345_356.out _; (with_reducible repeat (first | refine blk_drewN ?_ _ | refine blk_drew ?_ | refine blk_alloc ?_ _)); refine blk_far ?_ NB345_356.out _; (with_reducible repeat (first | refine blk_drewN ?_ _ | refine blk_drew ?_ | refine blk_alloc ?_ _)); refine blk_far ?_ NB345_356.out _; (with_reducible repeat (first | refine blk_drewN ?_ _ | refine blk_drew ?_ | refine blk_alloc ?_ _)); refine blk_far ?_ NB345_356.out _; (with_reducible repeat (first | refine blk_drewN ?_ _ | refine blk_drew ?_ | refine blk_alloc ?_ _)); exact BK345.out⟩
           have n7_ : Aside0 ((((((((((w91.setCell ⟨gb356, 0, none⟩ (.string t346)).setCell ⟨gb356, 1, none⟩ (.int .i64 t347)).setCell ⟨gb356, 2, none⟩ (.int .i64 t348)).setCell ⟨gb356, 3, none⟩ (.int .i64 t349)).setCell ⟨gb356, 4, none⟩ (.int .i64 t350)).setCell ⟨gb356, 5, none⟩ (.int .i64 t351)).setCell ⟨gb356, 6, none⟩ (.string t352)).setCell ⟨gb356, 7, none⟩ (.slice Ao96 t353.length co96)).setCell ⟨gb356, 6, none⟩ (.string (t352 ++ (⟨#[120]⟩ : ByteArray)))).heap[gb356]? = some (.cells #[.string t346, .int .i64 t347, .int .i64 t348, .int .i64 t349, .int .i64 t350, .int .i64 t351, .string (t352 ++ (⟨#[120]⟩ : ByteArray)), .slice Ao96 t353.length co96] 38 (0, 0))) := ⟨by (with_reducible repeat (first | refine blk_drewN ?_ _ | refine blk_drew ?_ | refine blk_alloc ?_ _)); refine blk_put (cs := #[.string t346, .int .i64 t347, .int .i64 t348, .int .i64 t349, .int .i64 t350, .int .i64 t351, .string t352, .slice Ao96 t353.length co96]) ?_ 6 _ rfl; (with_reducible repeat (first | refine blk_drewN ?_ _ | refine blk_drew ?_ | refine blk_alloc ?_ _)); refine blk_put (cs := #[.string t346, .int .i64 t347, .int .i64 t348, .int .i64 t349, .int .i64 t350, .int .i64 t351, .string t352, .slice none 0 0]) ?_ 7 _ rfl; (with_reducible repeat (first | refine blk_drewN ?_ _ | refine blk_drew ?_ | refine blk_alloc ?_ _)); refine blk_put (cs := #[.string t346, .int .i64 t347, .int .i64 t348, .int .i64 t349, .int .i64 t350, .int .i64 t351, .string (⟨#[]⟩ : ByteArray), .slice none 0 0]) ?_ 6 _ rfl; (with_reducible repeat (first | refine blk_drewN ?_ _ | refine blk_drew ?_ | refine blk_alloc ?_ _)); refine blk_put (cs := #[.string t346, .int .i64 t347, .int .i64 t348, .int .i64 t349, .int .i64 t350, .int .i64 0, .string (⟨#[]⟩ : ByteArray), .slice none 0 0]) ?_ 5 _ rfl; (with_reducible repeat (first | refine blk_drewN ?_ _ | refine blk_drew ?_ | refine blk_alloc ?_ _)); refine blk_put (cs := #[.string t346, .int .i64 t347, .int .i64 t348, .int .i64 t349, .int .i64 0, .int .i64 0, .string (⟨#[]⟩ : ByteArray), .slice none 0 0]) ?_ 4 _ rfl; (with_reducible repeat (first | refine blk_drewN ?_ _ | refine blk_drew ?_ | refine blk_alloc ?_ _)); refine blk_put (cs := #[.string t346, .int .i64 t347, .int .i64 t348, .int .i64 0, .int .i64 0, .int .i64 0, .string (⟨#[]⟩ : ByteArray), .slice none 0 0]) ?_ 3 _ rfl; (with_reducible repeat (first | refine blk_drewN ?_ _ | refine blk_drew ?_ | refine blk_alloc ?_ _)); refine blk_put (cs := #[.string t346, .int .i64 t347, .int .i64 0, .int .i64 0, .int .i64 0, .int .i64 0, .string (⟨#[]⟩ : ByteArray), .slice none 0 0]) ?_ 2 _ rfl; (with_reducible repeat (first | refine blk_drewN ?_ _ | refine blk_drew ?_ | refine blk_alloc ?_ _)); refine blk_put (cs := #[.string t346, .int .i64 0, .int .i64 0, .int .i64 0, .int .i64 0, .int .i64 0, .string (⟨#[]⟩ : ByteArray), .slice none 0 0]) ?_ 1 _ rfl; (with_reducible repeat (first | refine blk_drewN ?_ _ | refine blk_drew ?_ | refine blk_alloc ?_ _)); refine blk_put (cs := #[.string (⟨#[]⟩ : ByteArray), .int .i64 0, .int .i64 0, .int .i64 0, .int .i64 0, .int .i64 0, .string (⟨#[]⟩ : ByteArray), .slice none 0 0]) ?_ 0 _ rfl; (with_reducible repeat (first | refine blk_drewN ?_ _ | refine blk_drew ?_ | refine blk_alloc ?_ _)); exact BK356.out⟩
           have n8_ : Aside0 (Below w.heap.size w (((((((((w91.setCell ⟨gb356, 0, none⟩ (.string t346)).setCell ⟨gb356, 1, none⟩ (.int .i64 t347)).setCell ⟨gb356, 2, none⟩ (.int .i64 t348)).setCell ⟨gb356, 3, none⟩ (.int .i64 t349)).setCell ⟨gb356, 4, none⟩ (.int .i64 t350)).setCell ⟨gb356, 5, none⟩ (.int .i64 t351)).setCell ⟨gb356, 6, none⟩ (.string t352)).setCell ⟨gb356, 7, none⟩ (.slice Ao96 t353.length co96)).setCell ⟨gb356, 6, none⟩ (.string (t352 ++ (⟨#[120]⟩ : ByteArray))))) := ⟨by repeat (first | (with_reducible first | exact HB.out | apply below_alloc | apply pw_below_drewN | apply below_drew1 | refine below_set ?_ GE314.out | refine below_set ?_ GE333.out | refine below_set ?_ GE345.out | refine below_set ?_ GE356.out) | exact HB.out)⟩
           (try clear HO_7)
           (try clear HO331)
           (try clear HO343)
           (try clear HO355)
           (try clear BK314)
           (try clear BK333)
           (try clear BK345)
           (try clear BK356)
           (try clear HB)
           generalize (((((((((w91.setCell ⟨gb356, 0, none⟩ (.string t346)).setCell ⟨gb356, 1, none⟩ (.int .i64 t347)).setCell ⟨gb356, 2, none⟩ (.int .i64 t348)).setCell ⟨gb356, 3, none⟩ (.int .i64 t349)).setCell ⟨gb356, 4, none⟩ (.int .i64 t350)).setCell ⟨gb356, 5, none⟩ (.int .i64 t351)).setCell ⟨gb356, 6, none⟩ (.string t352)).setCell ⟨gb356, 7, none⟩ (.slice Ao96 t353.length co96)).setCell ⟨gb356, 6, none⟩ (.string (t352 ++ (⟨#[120]⟩ : ByteArray)))) = w97 at n0_ n1_ n2_ n3_ n4_ n5_ n6_ n7_ n8_ ⊢
           have HO_7 := n0_
           have HO331 := n1_
           have HO343 := n2_
           have HO355 := n3_
           have BK314 := n4_
           have BK333 := n5_
           have BK345 := n6_
           have BK356 := n7_
           have HB := n8_
           clear n0_ n1_ n2_ n3_ n4_ n5_ n6_ n7_ n8_
           have n0_ := Aside0.mk (Kd.R_drew HO_7.out)
           have n1_ := Aside0.mk (Kd.R_drew HO331.out)
           have n2_ := Aside0.mk (Kd.V_drew HO343.out)
           have n3_ := Aside0.mk (Kd.V_drew HO355.out)
           have n4_ := Aside0.mk (blk_drew BK314.out)
           have n5_ := Aside0.mk (blk_drew BK333.out)
           have n6_ := Aside0.mk (blk_drew BK345.out)
           have n7_ := Aside0.mk (blk_drew BK356.out)
           have n8_ := Aside0.mk (below_drew1 HB.out)
           clear HO_7
           clear HO331
           clear HO343
           clear HO355
           clear BK314
           clear BK333
           clear BK345
           clear BK356
           clear HB
           have HO_7 := n0_
           have HO331 := n1_
           have HO343 := n2_
           have HO355 := n3_
           have BK314 := n4_
           have BK333 := n5_
           have BK345 := n6_
           have BK356 := n7_
           have HB := n8_
           clear n0_ n1_ n2_ n3_ n4_ n5_ n6_ n7_ n8_
           refine start_ (n := 19) (S := fun w' => w'.cell? ⟨gb333, 0, none⟩ = some (.string t322) ∧ w'.cell? ⟨gb333, 1, none⟩ = some (.int .i64 t323) ∧ w'.cell? ⟨gb333, 2, none⟩ = some (.int .i64 t324) ∧ w'.cell? ⟨gb333, 3, none⟩ = some (.int .i64 t325) ∧ w'.cell? ⟨gb333, 4, none⟩ = some (.int .i64 t326) ∧ w'.cell? ⟨gb333, 5, none⟩ = some (.int .i64 t327) ∧ w'.cell? ⟨gb333, 6, none⟩ = some (.string t328) ∧ w'.cell? ⟨gb333, 7, none⟩ = some (.slice Ao79 t329.length co79) ∧ w'.cell? ⟨gb345, 0, none⟩ = some (.string t334) ∧ w'.cell? ⟨gb345, 1, none⟩ = some (.int .i64 t335) ∧ w'.cell? ⟨gb345, 2, none⟩ = some (.int .i64 t336) ∧ w'.cell? ⟨gb345, 3, none⟩ = some (.int .i64 t337) ∧ w'.cell? ⟨gb345, 4, none⟩ = some (.int .i64 t338) ∧ w'.cell? ⟨gb345, 5, none⟩ = some (.int .i64 t339) ∧ w'.cell? ⟨gb345, 6, none⟩ = some (.string t340) ∧ w'.cell? ⟨gb345, 7, none⟩ = some (.slice Ao87 t341.length co87) ∧ w'.cell? ⟨gb356, 0, none⟩ = some (.string t346) ∧ w'.cell? ⟨gb356, 1, none⟩ = some (.int .i64 t347) ∧ w'.cell? ⟨gb356, 2, none⟩ = some (.int .i64 t348) ∧ w'.cell? ⟨gb356, 3, none⟩ = some (.int .i64 t349) ∧ w'.cell? ⟨gb356, 4, none⟩ = some (.int .i64 t350) ∧ w'.cell? ⟨gb356, 5, none⟩ = some (.int .i64 t351) ∧ w'.cell? ⟨gb356, 6, none⟩ = some (.string (t352 ++ (⟨#[120]⟩ : ByteArray))) ∧ w'.cell? ⟨gb356, 7, none⟩ = some (.slice Ao96 t353.length co96)) (ds := []) #[false, false, false, false, false, false, false, false, false, false, false, false, false, false, false, false, false, false, false] (by kernel_rfl) rfl rfl ⟨(blk_cell BK333.out 0).trans rfl, (blk_cell BK333.out 1).trans rfl, (blk_cell BK333.out 2).trans rfl, (blk_cell BK333.out 3).trans rfl, (blk_cell BK333.out 4).trans rfl, (blk_cell BK333.out 5).trans rfl, (blk_cell BK333.out 6).trans rfl, (blk_cell BK333.out 7).trans rfl, (blk_cell BK345.out 0).trans rfl, (blk_cell BK345.out 1).trans rfl, (blk_cell BK345.out 2).trans rfl, (blk_cell BK345.out 3).trans rfl, (blk_cell BK345.out 4).trans rfl, (blk_cell BK345.out 5).trans rfl, (blk_cell BK345.out 6).trans rfl, (blk_cell BK345.out 7).trans rfl, (blk_cell BK356.out 0).trans rfl, (blk_cell BK356.out 1).trans rfl, (blk_cell BK356.out 2).trans rfl, (blk_cell BK356.out 3).trans rfl, (blk_cell BK356.out 4).trans rfl, (blk_cell BK356.out 5).trans rfl, (blk_cell BK356.out 6).trans rfl, (blk_cell BK356.out 7).trans rfl⟩ (fun hHeld => ?_); refine with_tabW thwartlaw08_MembFrom.tab15 thwartlaw08_MembFrom.bits15 (fun HT_ HW_ => ?_)
           generalize w97.drew = w98 at HO_7 HO331 HO343 HO355 BK314 BK333 BK345 BK356 HB hHeld ⊢
           refine takeS_ 0 90 ?_
           refine takeS_ 1 91 ?_
           refine one_ (i := 2) (N := some 92) #[true, true, true, false, false, false, false, false, false, false, false, false, false, false, false, false, false, false, false] rfl rfl (one_of HT_.out (by kernel_rfl)) (by decide) (fun K hK => ?_)
           refine goes_ Tryz.func13 (by kernel_rfl) rfl #[.agg #[.string t334, .int .i64 t335, .int .i64 t336, .int .i64 t337, .int .i64 t338, .int .i64 t339, .string t340, .slice Ao87 t341.length co87]] (by rfl) rfl rfl (by (try simp only [List.map_toArray, List.map_cons, List.map_nil]); first | done | rfl | (simp only [List.length_drop, List.length_take]; rfl)) ?_
           with_reducible refine (thwartlaw08_theirs.calls t334 t335 t336 t337 t338 t339 t340 (fun k_ => (some k_ ≠ (.slice Ao74 x7_2.length co74 : Value).ownBlock ∧ (some k_ ≠ (.slice Ao79 t329.length co79 : Value).ownBlock ∧ (k_ ≠ gb314 ∧ (k_ ≠ gb333 ∧ (k_ ≠ gb345 ∧ k_ ≠ gb356)))))) _ _ t341 t357 t358 t359 t360 t361 t362 t363 t364 _ ?side1 A36.out).mono ?_
           (case side1 => exact HO343.out)
           rintro e w99 ⟨v365, rfl, ho0, hb⟩
           refine ⟨_, rfl, ?_⟩
           have n0_ := Aside0.mk (Kd.R_below (by (with_reducible repeat (first | apply Kd.R_alloc | apply Kd.R_drewN | apply Kd.R_drew)); exact HO_7.out) hb)
           have n1_ := Aside0.mk (Kd.R_below (by (with_reducible repeat (first | apply Kd.R_alloc | apply Kd.R_drewN | apply Kd.R_drew)); exact HO331.out) hb)
           have n2_ := Aside0.mk (Kd.V_below (by (with_reducible repeat (first | apply Kd.V_alloc | apply Kd.V_drewN | apply Kd.V_drew)); exact HO343.out) hb)
           have n3_ := Aside0.mk (Kd.V_below (by (with_reducible repeat (first | apply Kd.V_alloc | apply Kd.V_drewN | apply Kd.V_drew)); exact HO355.out) hb)
           have n4_ := Aside0.mk (Kd.V_lower (Kd.V_mono (ok' := fun k_ => some k_ ≠ (.slice Ao74 x7_2.length co74 : Value).ownBlock ∧ some k_ ≠ (.slice Ao79 t329.length co79 : Value).ownBlock ∧ k_ ≠ gb314 ∧ k_ ≠ gb333 ∧ k_ ≠ gb345 ∧ k_ ≠ gb356) ho0 (fun k_ hk_ => ⟨Or.elim hk_ (fun hs_ => hs_.1) (fun hn_ => (Kd.fresh' (Kd.R_lt (by (with_reducible repeat (first | apply Kd.R_alloc | apply Kd.R_drewN | apply Kd.R_drew)); exact HO_7.out)) k_ hn_)), Or.elim hk_ (fun hs_ => hs_.2.1) (fun hn_ => (Kd.fresh' (Kd.R_lt (by (with_reducible repeat (first | apply Kd.R_alloc | apply Kd.R_drewN | apply Kd.R_drew)); exact HO331.out)) k_ hn_)), Or.elim hk_ (fun hs_ => hs_.2.2.1) (fun hn_ => (Kd.freshB (g := gb314) (o := .cells #[.string a0_0, .string a0_1, .int .i64 a0_2, .int .i64 a0_3, .int .i64 a0_4, .int .i64 a0_5, .int .i64 a0_6, .int .u8 a0_7, .string a0_8] 29 (0, 0)) (by (with_reducible repeat (first | refine blk_drewN ?_ _ | refine blk_drew ?_ | refine blk_alloc ?_ _)); exact BK314.out) k_ hn_)), Or.elim hk_ (fun hs_ => hs_.2.2.2.1) (fun hn_ => (Kd.freshB (g := gb333) (o := .cells #[.string t322, .int .i64 t323, .int .i64 t324, .int .i64 t325, .int .i64 t326, .int .i64 t327, .string t328, .slice Ao79 t329.length co79] 38 (0, 0)) (by (with_reducible repeat (first | refine blk_drewN ?_ _ | refine blk_drew ?_ | refine blk_alloc ?_ _)); exact BK333.out) k_ hn_)), Or.elim hk_ (fun hs_ => hs_.2.2.2.2.1) (fun hn_ => (Kd.freshB (g := gb345) (o := .cells #[.string t334, .int .i64 t335, .int .i64 t336, .int .i64 t337, .int .i64 t338, .int .i64 t339, .string t340, .slice Ao87 t341.length co87] 45 (0, 0)) (by (with_reducible repeat (first | refine blk_drewN ?_ _ | refine blk_drew ?_ | refine blk_alloc ?_ _)); exact BK345.out) k_ hn_)), Or.elim hk_ (fun hs_ => hs_.2.2.2.2.2) (fun hn_ => (Kd.freshB (g := gb356) (o := .cells #[.string t346, .int .i64 t347, .int .i64 t348, .int .i64 t349, .int .i64 t350, .int .i64 t351, .string (t352 ++ (⟨#[120]⟩ : ByteArray)), .slice Ao96 t353.length co96] 38 (0, 0)) (by (with_reducible repeat (first | refine blk_drewN ?_ _ | refine blk_drew ?_ | refine blk_alloc ?_ _)); exact BK356.out) k_ hn_))⟩)) bsize_)
           have n5_ := Aside0.mk (blkB_ BK314.out hb)
           have n6_ := Aside0.mk (blkB_ BK333.out hb)
           have n7_ := Aside0.mk (blkB_ BK345.out hb)
           have n8_ := Aside0.mk (blkB_ BK356.out hb)
           have n9_ := Aside0.mk (bstep_ hb)
           clear HO_7
           clear HO331
           clear HO343
           clear HO355
           clear BK314
           clear BK333
           clear BK345
           clear BK356
           clear HB
           have HO_7 := n0_
           have HO331 := n1_
           have HO343 := n2_
           have HO355 := n3_
           have HO366 := n4_
           have BK314 := n5_
           have BK333 := n6_
           have BK345 := n7_
           have BK356 := n8_
           have HB := n9_
           clear n0_ n1_ n2_ n3_ n4_ n5_ n6_ n7_ n8_ n9_
           (try clear hb)
           (try clear hb2)
           (try clear hk)
           (try clear hi)
           (try clear ho0)
           obtain ⟨Ao100, co100, eo100⟩ := Kd.V_slice HO366.out
           (first | subst eo100 | (injection eo100 with f1_ f2_ f3_; have f4_ := f1_.symm; have f5_ := f3_.symm; clear f1_ f2_ f3_; subst f4_; subst f5_))
           refine hK.out _ _ ⟨(blk_cell BK333.out 0).trans rfl, (blk_cell BK333.out 1).trans rfl, (blk_cell BK333.out 2).trans rfl, (blk_cell BK333.out 3).trans rfl, (blk_cell BK333.out 4).trans rfl, (blk_cell BK333.out 5).trans rfl, (blk_cell BK333.out 6).trans rfl, (blk_cell BK333.out 7).trans rfl, (blk_cell BK345.out 0).trans rfl, (blk_cell BK345.out 1).trans rfl, (blk_cell BK345.out 2).trans rfl, (blk_cell BK345.out 3).trans rfl, (blk_cell BK345.out 4).trans rfl, (blk_cell BK345.out 5).trans rfl, (blk_cell BK345.out 6).trans rfl, (blk_cell BK345.out 7).trans rfl, (blk_cell BK356.out 0).trans rfl, (blk_cell BK356.out 1).trans rfl, (blk_cell BK356.out 2).trans rfl, (blk_cell BK356.out 3).trans rfl, (blk_cell BK356.out 4).trans rfl, (blk_cell BK356.out 5).trans rfl, (blk_cell BK356.out 6).trans rfl, (blk_cell BK356.out 7).trans rfl⟩ (fun hHeld => ?_)
           clear hK K
           refine normS_ 92 ?_
           refine one_ (i := 3) (N := some 93) #[true, true, true, true, false, false, false, false, false, false, false, false, false, false, false, false, false, false, false] rfl rfl (one_of HT_.out (by kernel_rfl)) (by decide) (fun K hK => ?_)
           refine goes_ Tryz.func14 (by kernel_rfl) rfl #[.agg #[.string t322, .int .i64 t323, .int .i64 t324, .int .i64 t325, .int .i64 t326, .int .i64 t327, .string t328, .slice Ao79 t329.length co79], .agg #[.string t357, .int .i64 t358, .int .i64 t359, .int .i64 t360, .int .i64 t361, .int .i64 t362, .string t363, .slice Ao100 t364.length co100]] (by rfl) rfl rfl (by (try simp only [List.map_toArray, List.map_cons, List.map_nil]); first | done | rfl | (simp only [List.length_drop, List.length_take]; rfl)) ?_
           with_reducible refine (memb_Same.calls t322 t323 t324 t325 t326 t327 t328 _ _ t329 t357 t358 t359 t360 t361 t362 t363 _ _ t364 true _ ?side1 ?side2 ?side3 ?side4 A37.out).mono ?_
           (case side1 => repeat (first | exact (Kd.R_reads' HO331.out).2.2 | (with_reducible refine Kd.C_alloc ?_ _) | (with_reducible refine Kd.C_drewN ?_ _) | (with_reducible refine Kd.C_drew ?_)))
           (case side2 => exact (Kd.R_reads' HO331.out).2.1)
           (case side3 => repeat (first | exact (Kd.V_reads' HO366.out).2.2 | (with_reducible refine Kd.C_alloc ?_ _) | (with_reducible refine Kd.C_drewN ?_ _) | (with_reducible refine Kd.C_drew ?_)))
           (case side4 => exact (Kd.V_reads' HO366.out).2.1)
           rintro e w101 ⟨rfl, hb⟩
           refine ⟨_, rfl, ?_⟩
           have n0_ := Aside0.mk (Kd.R_below (by (with_reducible repeat (first | apply Kd.R_alloc | apply Kd.R_drewN | apply Kd.R_drew)); exact HO_7.out) hb)
           have n1_ := Aside0.mk (Kd.R_below (by (with_reducible repeat (first | apply Kd.R_alloc | apply Kd.R_drewN | apply Kd.R_drew)); exact HO331.out) hb)
           have n2_ := Aside0.mk (Kd.V_below (by (with_reducible repeat (first | apply Kd.V_alloc | apply Kd.V_drewN | apply Kd.V_drew)); exact HO343.out) hb)
           have n3_ := Aside0.mk (Kd.V_below (by (with_reducible repeat (first | apply Kd.V_alloc | apply Kd.V_drewN | apply Kd.V_drew)); exact HO355.out) hb)
           have n4_ := Aside0.mk (Kd.V_below (by (with_reducible repeat (first | apply Kd.V_alloc | apply Kd.V_drewN | apply Kd.V_drew)); exact HO366.out) hb)
           have n5_ := Aside0.mk (blkB_ BK314.out hb)
           have n6_ := Aside0.mk (blkB_ BK333.out hb)
           have n7_ := Aside0.mk (blkB_ BK345.out hb)
           have n8_ := Aside0.mk (blkB_ BK356.out hb)
           have n9_ := Aside0.mk (bstep_ hb)
           clear HO_7
           clear HO331
           clear HO343
           clear HO355
           clear HO366
           clear BK314
           clear BK333
           clear BK345
           clear BK356
           clear HB
           have HO_7 := n0_
           have HO331 := n1_
           have HO343 := n2_
           have HO355 := n3_
           have HO366 := n4_
           have BK314 := n5_
           have BK333 := n6_
           have BK345 := n7_
           have BK356 := n8_
           have HB := n9_
           clear n0_ n1_ n2_ n3_ n4_ n5_ n6_ n7_ n8_ n9_
           (try clear hb)
           (try clear hb2)
           (try clear hk)
           (try clear hi)
           refine hK.out _ _ ⟨(blk_cell BK333.out 0).trans rfl, (blk_cell BK333.out 1).trans rfl, (blk_cell BK333.out 2).trans rfl, (blk_cell BK333.out 3).trans rfl, (blk_cell BK333.out 4).trans rfl, (blk_cell BK333.out 5).trans rfl, (blk_cell BK333.out 6).trans rfl, (blk_cell BK333.out 7).trans rfl, (blk_cell BK345.out 0).trans rfl, (blk_cell BK345.out 1).trans rfl, (blk_cell BK345.out 2).trans rfl, (blk_cell BK345.out 3).trans rfl, (blk_cell BK345.out 4).trans rfl, (blk_cell BK345.out 5).trans rfl, (blk_cell BK345.out 6).trans rfl, (blk_cell BK345.out 7).trans rfl, (blk_cell BK356.out 0).trans rfl, (blk_cell BK356.out 1).trans rfl, (blk_cell BK356.out 2).trans rfl, (blk_cell BK356.out 3).trans rfl, (blk_cell BK356.out 4).trans rfl, (blk_cell BK356.out 5).trans rfl, (blk_cell BK356.out 6).trans rfl, (blk_cell BK356.out 7).trans rfl⟩ (fun hHeld => ?_)
           clear hK K
           refine normS_ 93 ?_
           refine pureS_ 4 94 ?_
           refine pureS_ 5 95 ?_
           refine pureS_ 6 96 ?_
           refine pureS_ 7 97 ?_
           refine pureS_ 8 98 ?_
           refine pureS_ 9 99 ?_
           refine takeS_ 10 100 ?_
           refine takeS_ 11 101 ?_
           refine one_ (i := 12) (N := some 102) #[true, true, true, true, true, true, true, true, true, true, true, true, true, false, false, false, false, false, false] rfl rfl (one_of HT_.out (by kernel_rfl)) (by decide) (fun K hK => ?_)
           refine goes_ Tryz.func14 (by kernel_rfl) rfl #[.agg #[.string t322, .int .i64 t323, .int .i64 t324, .int .i64 t325, .int .i64 t326, .int .i64 t327, .string t328, .slice Ao79 t329.length co79], .agg #[.string t346, .int .i64 t347, .int .i64 t348, .int .i64 t349, .int .i64 t350, .int .i64 t351, .string (t352 ++ (⟨#[120]⟩ : ByteArray)), .slice Ao96 t353.length co96]] (by rfl) rfl rfl (by (try simp only [List.map_toArray, List.map_cons, List.map_nil]); first | done | rfl | (simp only [List.length_drop, List.length_take]; rfl)) ?_
           with_reducible refine (memb_Same.calls t322 t323 t324 t325 t326 t327 t328 _ _ t329 t346 t347 t348 t349 t350 t351 (t352 ++ (⟨#[120]⟩ : ByteArray)) _ _ t353 false _ ?side1 ?side2 ?side3 ?side4 A40.out).mono ?_
           (case side1 => repeat (first | exact (Kd.R_reads' HO331.out).2.2 | (with_reducible refine Kd.C_alloc ?_ _) | (with_reducible refine Kd.C_drewN ?_ _) | (with_reducible refine Kd.C_drew ?_)))
           (case side2 => exact (Kd.R_reads' HO331.out).2.1)
           (case side3 => repeat (first | exact (Kd.V_reads' HO355.out).2.2 | (with_reducible refine Kd.C_alloc ?_ _) | (with_reducible refine Kd.C_drewN ?_ _) | (with_reducible refine Kd.C_drew ?_)))
           (case side4 => exact (Kd.V_reads' HO355.out).2.1)
           rintro e w102 ⟨rfl, hb⟩
           refine ⟨_, rfl, ?_⟩
           have n0_ := Aside0.mk (Kd.R_below (by (with_reducible repeat (first | apply Kd.R_alloc | apply Kd.R_drewN | apply Kd.R_drew)); exact HO_7.out) hb)
           have n1_ := Aside0.mk (Kd.R_below (by (with_reducible repeat (first | apply Kd.R_alloc | apply Kd.R_drewN | apply Kd.R_drew)); exact HO331.out) hb)
           have n2_ := Aside0.mk (Kd.V_below (by (with_reducible repeat (first | apply Kd.V_alloc | apply Kd.V_drewN | apply Kd.V_drew)); exact HO343.out) hb)
           have n3_ := Aside0.mk (Kd.V_below (by (with_reducible repeat (first | apply Kd.V_alloc | apply Kd.V_drewN | apply Kd.V_drew)); exact HO355.out) hb)
           have n4_ := Aside0.mk (Kd.V_below (by (with_reducible repeat (first | apply Kd.V_alloc | apply Kd.V_drewN | apply Kd.V_drew)); exact HO366.out) hb)
           have n5_ := Aside0.mk (blkB_ BK314.out hb)
           have n6_ := Aside0.mk (blkB_ BK333.out hb)
           have n7_ := Aside0.mk (blkB_ BK345.out hb)
           have n8_ := Aside0.mk (blkB_ BK356.out hb)
           have n9_ := Aside0.mk (bstep_ hb)
           clear HO_7
           clear HO331
           clear HO343
           clear HO355
           clear HO366
           clear BK314
           clear BK333
           clear BK345
           clear BK356
           clear HB
           have HO_7 := n0_
           have HO331 := n1_
           have HO343 := n2_
           have HO355 := n3_
           have HO366 := n4_
           have BK314 := n5_
           have BK333 := n6_
           have BK345 := n7_
           have BK356 := n8_
           have HB := n9_
           clear n0_ n1_ n2_ n3_ n4_ n5_ n6_ n7_ n8_ n9_
           (try clear hb)
           (try clear hb2)
           (try clear hk)
           (try clear hi)
           refine hK.out _ _ ⟨(blk_cell BK333.out 0).trans rfl, (blk_cell BK333.out 1).trans rfl, (blk_cell BK333.out 2).trans rfl, (blk_cell BK333.out 3).trans rfl, (blk_cell BK333.out 4).trans rfl, (blk_cell BK333.out 5).trans rfl, (blk_cell BK333.out 6).trans rfl, (blk_cell BK333.out 7).trans rfl, (blk_cell BK345.out 0).trans rfl, (blk_cell BK345.out 1).trans rfl, (blk_cell BK345.out 2).trans rfl, (blk_cell BK345.out 3).trans rfl, (blk_cell BK345.out 4).trans rfl, (blk_cell BK345.out 5).trans rfl, (blk_cell BK345.out 6).trans rfl, (blk_cell BK345.out 7).trans rfl, (blk_cell BK356.out 0).trans rfl, (blk_cell BK356.out 1).trans rfl, (blk_cell BK356.out 2).trans rfl, (blk_cell BK356.out 3).trans rfl, (blk_cell BK356.out 4).trans rfl, (blk_cell BK356.out 5).trans rfl, (blk_cell BK356.out 6).trans rfl, (blk_cell BK356.out 7).trans rfl⟩ (fun hHeld => ?_)
           clear hK K
           refine normS_ 102 ?_
           refine pureS_ 13 103 ?_
           refine pureS_ 14 104 ?_
           refine pureS_ 15 105 ?_
           refine one_ (i := 16) (N := some 106) #[true, true, true, true, true, true, true, true, true, true, true, true, true, true, true, true, true, false, false] rfl rfl (one_of HT_.out (by kernel_rfl)) (by decide) (fun K hK => ?_)
           refine goes_ Tryz.func10 (by kernel_rfl) rfl #[] (by rfl) rfl rfl (by (try simp only [List.map_toArray, List.map_cons, List.map_nil]); first | done | rfl | (simp only [List.length_drop, List.length_take]; rfl)) ?_
           with_reducible refine (thwartlaw08_alive.calls k2  t369 _ ⟨HTB.out.below belA_⟩ HT.out A72.out).mono ?_
           rintro e w103 ⟨rfl, hb⟩
           refine ⟨_, rfl, ?_⟩
           have n0_ := Aside0.mk (Kd.R_below (by (with_reducible repeat (first | apply Kd.R_alloc | apply Kd.R_drewN | apply Kd.R_drew)); exact HO_7.out) hb)
           have n1_ := Aside0.mk (Kd.R_below (by (with_reducible repeat (first | apply Kd.R_alloc | apply Kd.R_drewN | apply Kd.R_drew)); exact HO331.out) hb)
           have n2_ := Aside0.mk (Kd.V_below (by (with_reducible repeat (first | apply Kd.V_alloc | apply Kd.V_drewN | apply Kd.V_drew)); exact HO343.out) hb)
           have n3_ := Aside0.mk (Kd.V_below (by (with_reducible repeat (first | apply Kd.V_alloc | apply Kd.V_drewN | apply Kd.V_drew)); exact HO355.out) hb)
           have n4_ := Aside0.mk (Kd.V_below (by (with_reducible repeat (first | apply Kd.V_alloc | apply Kd.V_drewN | apply Kd.V_drew)); exact HO366.out) hb)
           have n5_ := Aside0.mk (blkB_ BK314.out hb)
           have n6_ := Aside0.mk (blkB_ BK333.out hb)
           have n7_ := Aside0.mk (blkB_ BK345.out hb)
           have n8_ := Aside0.mk (blkB_ BK356.out hb)
           have n9_ := Aside0.mk (bstep_ hb)
           clear HO_7
           clear HO331
           clear HO343
           clear HO355
           clear HO366
           clear BK314
           clear BK333
           clear BK345
           clear BK356
           clear HB
           have HO_7 := n0_
           have HO331 := n1_
           have HO343 := n2_
           have HO355 := n3_
           have HO366 := n4_
           have BK314 := n5_
           have BK333 := n6_
           have BK345 := n7_
           have BK356 := n8_
           have HB := n9_
           clear n0_ n1_ n2_ n3_ n4_ n5_ n6_ n7_ n8_ n9_
           (try clear hb)
           (try clear hb2)
           (try clear hk)
           (try clear hi)
           refine hK.out _ _ ⟨(blk_cell BK333.out 0).trans rfl, (blk_cell BK333.out 1).trans rfl, (blk_cell BK333.out 2).trans rfl, (blk_cell BK333.out 3).trans rfl, (blk_cell BK333.out 4).trans rfl, (blk_cell BK333.out 5).trans rfl, (blk_cell BK333.out 6).trans rfl, (blk_cell BK333.out 7).trans rfl, (blk_cell BK345.out 0).trans rfl, (blk_cell BK345.out 1).trans rfl, (blk_cell BK345.out 2).trans rfl, (blk_cell BK345.out 3).trans rfl, (blk_cell BK345.out 4).trans rfl, (blk_cell BK345.out 5).trans rfl, (blk_cell BK345.out 6).trans rfl, (blk_cell BK345.out 7).trans rfl, (blk_cell BK356.out 0).trans rfl, (blk_cell BK356.out 1).trans rfl, (blk_cell BK356.out 2).trans rfl, (blk_cell BK356.out 3).trans rfl, (blk_cell BK356.out 4).trans rfl, (blk_cell BK356.out 5).trans rfl, (blk_cell BK356.out 6).trans rfl, (blk_cell BK356.out 7).trans rfl⟩ (fun hHeld => ?_)
           clear hK K
           refine normS_ 106 ?_
           refine pureS_ 17 107 ?_
           refine pureS_ 18 6 ?_
           refine done_ (done_of HT_.out (by kernel_rfl)) ?_
           try go_wp2
           go_ret
           exact finA_
         ·rw [if_neg c39] at H
          have c39b0 : (t332 == t344) = false := beq_eq_false_iff_ne.mpr c39
          have c39b1 : (t332 != t344) = true := bne_iff_ne.mpr c39
          exact absurd (H.trans (congrArg some HT.out)) (by simp)
        ·replace c38 := Bool.eq_false_iff.mpr c38
         subst c38
         have H1 := H; rw [if_neg (show ¬ (false = true) by decide)] at H1
         clear H
         have H := H1
         clear H1
         exact absurd (H.trans (congrArg some HT.out)) (by simp)
       ·rw [if_neg c35] at H
        exact absurd H (by simp)

end Go.Proofs.YtjidenkhgeoaiaaGreatDoor.P

/- The pure statement of MembFrom: what the printed function tells. -/
namespace Go.Proofs.YtjidenkhgeoaiaaGreatDoor.P
open Go.RowKit Go.Proofs.YtjidenkhgeoaiaaGreatDoorW.PrintWords
def thwartlaw08_MembFrom.Pure : Prop := ∀ (a0_0 : ByteArray) (a0_1 : ByteArray) (a0_2 : Int) (a0_3 : Int) (a0_4 : Int) (a0_5 : Int) (a0_6 : Int) (a0_7 : Int) (a0_8 : ByteArray) (l1 : List P.S34) (l2 : List Int), (a0_0.size ≤ 9223372036854775807) → (a0_1.size ≤ 9223372036854775807) → ((Lit.int .i64 a0_2).wf = true) → ((Lit.int .i64 a0_3).wf = true) → ((Lit.int .i64 a0_4).wf = true) → ((Lit.int .i64 a0_5).wf = true) → ((Lit.int .i64 a0_6).wf = true) → ((Lit.int .u8 a0_7).wf = true) → (a0_8.size ≤ 9223372036854775807) → l1.length ≤ 9223372036854775807 → (∀ x ∈ l1, (x.f0.size ≤ 9223372036854775807) ∧ (x.f1.size ≤ 9223372036854775807)) → l2.length ≤ 9223372036854775807 → (∀ x ∈ l2, (Lit.int .u8 x).wf = true) → ∃ k, thwartlaw08_MembFrom.f k a0_0 a0_1 a0_2 a0_3 a0_4 a0_5 a0_6 a0_7 a0_8 l1 l2 = some true
end Go.Proofs.YtjidenkhgeoaiaaGreatDoor.P

/- Plain facts on kinds and types. -/
namespace Go.Proofs.YtjidenkhgeoaiaaGreatDoor.Q8
open Go.RowKit Go.Proofs.YtjidenkhgeoaiaaGreatDoor.P Go.Proofs.YtjidenkhgeoaiaaGreatDoorW.PrintWords Go.Proofs.YtjidenkhgeoaiaaGreatDoorW.PrintLast Go.Proofs.YtjidenkhgeoaiaaGreatDoorW.PrintMore Go.Proofs.YtjidenkhgeoaiaaGreatDoor.Hand
set_option linter.unusedVariables false
set_option linter.unusedSimpArgs false
theorem byte8 (x : Int) (h : (Lit.int .u8 x).wf = true) : 0 ≤ x ∧ x < 256 := by
  simp [Lit.wf] at h
  have h1 : IntKind.u8.min = 0 := by decide +kernel
  have h2 : IntKind.u8.max = 255 := by decide +kernel
  omega
def kind8 (c : Int) : Int := if c = 48 then 1 else if c = 49 then 2 else if c = 50 then 3 else if c = 53 then 4 else 0
theorem kinds8_all : ∀ c : Fin 256, memb_Kind.f (c.val : Int) = some (kind8 (c.val : Int)) ∧ thwartref08_Kind.f 6 (c.val : Int) = some (kind8 (c.val : Int)) := by decide +kernel
theorem up {α : Type} {f : Nat → Option α} (hm : ∀ k, LeO (f k) (f (k + 1))) {a b : Nat} (hab : a ≤ b) {v : α} (h : f a = some v) : f b = some v := by
  obtain ⟨d, rfl⟩ : ∃ d, b = a + d := ⟨b - a, by omega⟩
  clear hab
  induction d with
  | zero => exact h
  | succ d ih => exact hm _ _ ih
theorem kinds8 (c : Int) (h0 : 0 ≤ c) (h1 : c < 256) (k : Nat) (hk : 6 ≤ k) : memb_Kind.f c = some (kind8 c) ∧ thwartref08_Kind.f k c = some (kind8 c) := by
  have := kinds8_all ⟨c.toNat, by omega⟩
  rw [show (((⟨c.toNat, by omega⟩ : Fin 256).val : Nat) : Int) = c from by simp; omega] at this
  exact ⟨this.1, up (fun k => thwartref08_Kind.mono _ k) hk this.2⟩
end Go.Proofs.YtjidenkhgeoaiaaGreatDoor.Q8

/- The probe of layer 8 answers true. -/
namespace Go.Proofs.YtjidenkhgeoaiaaGreatDoor.Q8
open Go.RowKit Go.Proofs.YtjidenkhgeoaiaaGreatDoor.P Go.Proofs.YtjidenkhgeoaiaaGreatDoor.Hand Go.Proofs.YtjidenkhgeoaiaaGreatDoorW.PrintWords Go.Proofs.YtjidenkhgeoaiaaGreatDoorW.PrintLast
theorem alive8 : thwartlaw08_alive.f 2000 = some true := by decide +kernel
theorem alive8_k (k : Nat) (hk : 2000 ≤ k) : thwartlaw08_alive.f k = some true := up (f := thwartlaw08_alive.f) thwartlaw08_alive.mono hk alive8
end Go.Proofs.YtjidenkhgeoaiaaGreatDoor.Q8

/- Plain facts on lists of bytes, for the pure statements. -/
namespace Go.Proofs.YtjidenkhgeoaiaaGreatDoor.Q
open Go.RowKit Go.Proofs.YtjidenkhgeoaiaaGreatDoorW.PrintWords Go.Proofs.YtjidenkhgeoaiaaGreatDoorW.PrintLast Go.Proofs.YtjidenkhgeoaiaaGreatDoorW.PrintMore Go.Proofs.YtjidenkhgeoaiaaGreatDoor.Hand

theorem ext_list (a b : ByteArray) (h : a.data.toList = b.data.toList) : a = b := by
  cases a; cases b; simp only [ByteArray.mk.injEq]; exact Array.toList_inj.1 h
theorem toL (s : ByteArray) : s.toList = s.data.toList := Lib.toList_data s
theorem szL (s : ByteArray) : s.size = s.data.toList.length := Lib.size_eq s
theorem extL (s : ByteArray) (a b : Nat) : (s.extract a b).data.toList = (s.data.toList.drop a).take (b - a) := Lib.extract_data s a b
theorem appL (s t : ByteArray) : (s ++ t).data.toList = s.data.toList ++ t.data.toList := by
  rw [ByteArray.data_append, Array.toList_append]
theorem numsL (xs : List Int) : (strOfNums xs).data.toList = Lib.bytesOf xs := rfl
theorem nums_bytes (s : ByteArray) : strOfNums (bytesOf s) = s := by
  apply ext_list
  rw [numsL]
  simp [Lib.bytesOf, bytesOf, List.map_map, Function.comp_def]
theorem bytes_bytes (s : ByteArray) : Lib.bytesOf (bytesOf s) = s.data.toList := by
  simp [Lib.bytesOf, bytesOf, List.map_map, Function.comp_def]

/-- Where a byte first stands. -/
theorem index_none (l : List UInt8) (c : UInt8) : Lib.indexByte l c < 0 ↔ c ∉ l := by
  induction l with
  | nil => simp [Lib.indexByte]
  | cons b l ih =>
    have hg := Lib.indexByte_ge l c
    unfold Lib.indexByte
    by_cases e : (b == c) = true
    · rw [if_pos e]; simp at e; subst e; simp
    · rw [if_neg e]
      have e' : ¬ c = b := fun h => e (by simp [h])
      by_cases e2 : (Lib.indexByte l c == -1) = true
      · rw [if_pos e2]
        have : Lib.indexByte l c < 0 := by have := beq_iff_eq.1 e2; omega
        simp [e', ih.1 this]
      · rw [if_neg e2]
        have h3 : ¬ Lib.indexByte l c < 0 := by have : ¬ Lib.indexByte l c = -1 := fun h => e2 (by simp [h]); omega
        have h4 : c ∈ l := Decidable.byContradiction fun h => h3 (ih.2 h)
        simp [h4]; omega
theorem index_at (pre post : List UInt8) (c : UInt8) (h : c ∉ pre) : Lib.indexByte (pre ++ c :: post) c = pre.length := by
  induction pre with
  | nil => simp [Lib.indexByte]
  | cons b l ih =>
    simp only [List.mem_cons, not_or] at h
    have e : ¬ (b == c) = true := fun e => h.1 (by simpa using (beq_iff_eq.1 e).symm)
    show Lib.indexByte (b :: (l ++ c :: post)) c = _
    unfold Lib.indexByte
    rw [if_neg e, ih h.2, if_neg (by rw [beq_iff_eq]; omega)]
    simp

end Go.Proofs.YtjidenkhgeoaiaaGreatDoor.Q

/- Plain facts on paths: the pieces between slashes, names, as the document tells them. -/
namespace Go.Proofs.YtjidenkhgeoaiaaGreatDoor.Q5
open Go.RowKit Go.Proofs.YtjidenkhgeoaiaaGreatDoor.P Go.Proofs.YtjidenkhgeoaiaaGreatDoor.Hand Go.Proofs.YtjidenkhgeoaiaaGreatDoor.Q Go.Proofs.YtjidenkhgeoaiaaGreatDoorW.PrintWords Go.Proofs.YtjidenkhgeoaiaaGreatDoorW.PrintLast
set_option linter.unusedVariables false
set_option linter.unusedSimpArgs false

theorem wrap_id {i : Int} (h0 : -9223372036854775808 ≤ i) (h : i < 9223372036854775808) : wrap64 i = i := by unfold wrap64; omega
/-- No byte of a name is a nought or a slash. -/
def okBytes (l : List UInt8) : Bool := l.all fun b => b != 0 && b != 47
/-- A name, as the document says. -/
def isName (l : List UInt8) : Bool := okBytes l && decide (1 ≤ l.length) && decide (l.length ≤ 60) && (l != [46]) && (l != [46, 46])
theorem bt_at' (s : ByteArray) (i : Nat) (h : i < s.data.toList.length) : bt s (i : Int) = (s.data.toList[i].toNat : Int) := by
  have hs : i < s.size := by rw [Lib.size_eq]; exact h
  rw [← bt_at s (i : Int) (by rw [Int.toNat_natCast]; exact hs)]
  simp only [Int.toNat_natCast]
  have := Lib.data_getElem? s i hs
  rw [List.getElem?_eq_getElem h] at this
  rw [Option.some.inj this]
theorem bt_is (s : ByteArray) (i : Nat) (h : i < s.data.toList.length) (c : UInt8) : bt s (i : Int) = (c.toNat : Int) ↔ s.data.toList[i] = c := by
  rw [bt_at' s i h]
  constructor
  · intro e; exact UInt8.toNat_inj.1 (by omega)
  · intro e; rw [e]
theorem name_loop (s : ByteArray) (hs : s.size ≤ 1000) (d : Nat) : ∀ (k i : Nat), i + d = s.size → d < k → thwartref04_Name.l0 k s i = some (okBytes (s.data.toList.drop i) && decide (1 ≤ s.data.toList.length) && decide (s.data.toList.length ≤ 60) && (s.data.toList != [46]) && (s.data.toList != [46, 46])) := by
  have hl := Lib.size_eq s
  induction d with
  | zero =>
    intro k i h1 h2
    obtain ⟨k, rfl⟩ : ∃ m, k = m + 1 := ⟨k - 1, by omega⟩
    rw [thwartref04_Name.l0, if_neg (by omega), List.drop_eq_nil_of_le (by omega), toL]
    by_cases c1 : (s.size : Int) ≥ 1
    · rw [if_pos c1, decide_eq_true (show 1 ≤ s.data.toList.length by omega)]
      by_cases c2 : (s.size : Int) ≤ 60
      · rw [if_pos c2, decide_eq_true (show s.data.toList.length ≤ 60 by omega)]
        by_cases c3 : s.data.toList = [46]
        · rw [if_pos c3, c3]; rfl
        · rw [if_neg c3, bne_iff_ne.2 c3]; rfl
      · rw [if_neg c2, decide_eq_false (show ¬ s.data.toList.length ≤ 60 by omega)]; rfl
    · rw [if_neg c1, decide_eq_false (show ¬ 1 ≤ s.data.toList.length by omega)]; rfl
  | succ d ih =>
    intro k i h1 h2
    obtain ⟨k, rfl⟩ : ∃ m, k = m + 1 := ⟨k - 1, by omega⟩
    have hi : i < s.data.toList.length := by omega
    have hd : s.data.toList.drop i = s.data.toList[i] :: s.data.toList.drop (i + 1) := List.drop_eq_getElem_cons hi
    have h0 : bt s (i : Int) = 0 ↔ s.data.toList[i] = 0 := bt_is s i hi 0
    have h47 : bt s (i : Int) = 47 ↔ s.data.toList[i] = 47 := bt_is s i hi 47
    rw [thwartref04_Name.l0, if_pos (by omega), if_pos (by omega), wrap_id (i := (i : Int) + 1) (by omega) (by omega), show ((i : Int) + 1) = ((i + 1 : Nat) : Int) by omega, ih k (i + 1) (by omega) (by omega), hd]
    unfold okBytes
    rw [List.all_cons]
    by_cases c0 : s.data.toList[i] = 0
    · rw [if_pos (h0.2 c0), c0]; rfl
    · rw [if_neg (fun h => c0 (h0.1 h))]
      by_cases c47 : s.data.toList[i] = 47
      · rw [if_pos (h47.2 c47), c47]; rfl
      · rw [if_neg (fun h => c47 (h47.1 h)), bne_iff_ne.2 c0, bne_iff_ne.2 c47]; rfl
theorem name_ref (s : ByteArray) (hs : s.size ≤ 1000) (k : Nat) (hk : s.size < k) : thwartref04_Name.f k s = some (isName s.data.toList) := by
  unfold thwartref04_Name.f
  exact name_loop s hs s.size k 0 (by omega) hk
theorem any_is (l chars : List UInt8) : Lib.containsAny l chars = l.any (chars.contains ·) := by
  induction l with
  | nil => rfl
  | cons b l ih =>
    have hg := Lib.indexAny_ge chars l
    unfold Lib.containsAny at ih ⊢
    rw [List.any_cons, ← ih]
    rw [show Lib.indexAny (b :: l) chars = (if chars.contains b = true then 0 else if (Lib.indexAny l chars == -1) = true then -1 else Lib.indexAny l chars + 1) from rfl]
    by_cases h : chars.contains b = true
    · rw [if_pos h, h]; simp
    · rw [if_neg h, Bool.eq_false_iff.2 h, Bool.false_or]
      by_cases h2 : (Lib.indexAny l chars == -1) = true
      · rw [if_pos h2, beq_iff_eq.1 h2]
      · rw [if_neg h2]
        have h3 : ¬ Lib.indexAny l chars = -1 := fun e => h2 (by rw [e]; rfl)
        rw [decide_eq_true (show 0 ≤ Lib.indexAny l chars + 1 by omega), decide_eq_true (show 0 ≤ Lib.indexAny l chars by omega)]
theorem any_ok (l : List UInt8) : (!(Lib.containsAny l [47, 0])) = okBytes l := by
  rw [any_is]
  unfold okBytes
  induction l with
  | nil => rfl
  | cons b l ih =>
    rw [List.any_cons, List.all_cons, ← ih, Bool.not_or]
    congr 1
    by_cases h0 : b = 0
    · subst h0; rfl
    · by_cases h47 : b = 47
      · subst h47; rfl
      · rw [bne_iff_ne.2 h0, bne_iff_ne.2 h47]
        simp [h0, h47]
theorem name_is (s : ByteArray) (hs : s.size ≤ 1000) (k : Nat) (hk : 5 ≤ k) : ppath_Name.f k s = some (isName s.data.toList) := by
  have hl := Lib.size_eq s
  obtain ⟨k, rfl⟩ : ∃ m, k = m + 1 := ⟨k - 1, by omega⟩
  unfold ppath_Name.f
  rw [toL]
  by_cases c0 : s.data.toList = []
  · rw [if_pos c0, ppath_Name.j0, if_pos rfl, c0]; rfl
  · have h1 : 1 ≤ s.data.toList.length := by
      rcases Nat.eq_zero_or_pos s.data.toList.length with h | h
      · exact absurd (List.eq_nil_of_length_eq_zero h) c0
      · exact h
    rw [if_neg c0, ppath_Name.j0, toL]
    unfold isName
    rw [decide_eq_true h1]
    by_cases c60 : (s.size : Int) > 60
    · rw [decide_eq_true c60, if_pos rfl, decide_eq_false (show ¬ s.data.toList.length ≤ 60 by omega)]
      simp
    · rw [decide_eq_false c60, if_neg (by decide), decide_eq_true (show s.data.toList.length ≤ 60 by omega)]
      by_cases c1 : s.data.toList = [46]
      · rw [if_pos c1, c1]; rfl
      · rw [if_neg c1, bne_iff_ne.2 c1]
        by_cases c2 : s.data.toList = [46, 46]
        · rw [if_pos c2, c2]; rfl
        · rw [if_neg c2, bne_iff_ne.2 c2]
          unfold strings_ContainsAny.f
          rw [if_pos ⟨show 2 ≤ 2 by omega, show 2 < 4294967281 by omega, by omega, by decide⟩, Option.bind_some]
          congr 1
          rw [show (⟨#[47, 0]⟩ : ByteArray).data.toList = [47, 0] from rfl, any_ok]
          simp
theorem ext_sz (s : ByteArray) (a b : Nat) (h : b ≤ s.size) : (s.extract a b).size = b - a := by rw [ByteArray.size_extract]; omega
theorem ext_all (s : ByteArray) : s.extract 0 s.size = s := by
  apply ext_list; rw [extL, List.drop_zero, Nat.sub_zero, List.take_of_length_le (by rw [← szL]; omega)]
theorem ext_ext (s : ByteArray) (a b : Nat) (ha : a ≤ s.size) : (s.extract a s.size).extract b (s.extract a s.size).size = s.extract (a + b) s.size := by
  apply ext_list
  have h1 := ext_sz s a s.size (Nat.le_refl _)
  have hl := szL s
  rw [extL, extL, extL, h1]
  rw [List.drop_take, List.take_take, List.drop_drop]
  congr 1
  omega
theorem ext_head (s : ByteArray) (a b : Nat) (hb : a + b ≤ s.size) : (s.extract a s.size).extract 0 b = s.extract a (a + b) := by
  apply ext_list
  have hl := szL s
  rw [extL, extL, extL, List.drop_zero]
  rw [List.take_take]
  congr 1
  omega
theorem cut_loop (s : ByteArray) (hs : s.size ≤ 1000) (d : Nat) : ∀ (k i from_ : Nat) (done : List ByteArray), i + d = s.size → d < k → from_ ≤ i → done.length ≤ from_ → (∀ j, from_ ≤ j → j < i → s.data.toList[j]? ≠ some 47) →
    thwartref04_Cut.l0 k s done from_ i = some (done ++ pieces 47 (s.extract from_ s.size)) := by
  have hl := Lib.size_eq s
  have hsub : ∀ from_ i, from_ ≤ i → i ≤ s.size → (∀ j, from_ ≤ j → j < i → s.data.toList[j]? ≠ some 47) → (47 : UInt8) ∉ (s.data.toList.drop from_).take (i - from_) := by
    intro from_ i h1 h2 hn hm
    obtain ⟨m, hm1, hm2⟩ := List.getElem_of_mem hm
    rw [List.length_take, List.length_drop] at hm1
    rw [List.getElem_take, List.getElem_drop] at hm2
    exact hn (from_ + m) (by omega) (by omega) (by rw [List.getElem?_eq_getElem (by omega), hm2])
  induction d with
  | zero =>
    intro k i from_ done h1 h2 h3 h4 hn
    obtain ⟨k, rfl⟩ : ∃ m, k = m + 1 := ⟨k - 1, by omega⟩
    have hmiss : Lib.indexByte (s.extract from_ s.size).data.toList 47 = -1 := by
      have hno := hsub from_ s.size (by omega) (Nat.le_refl _) (fun j a b => hn j a (by omega))
      have := (index_none (s.extract from_ s.size).data.toList 47).2 (by rw [extL]; exact hno)
      have := Lib.indexByte_ge (s.extract from_ s.size).data.toList 47
      omega
    rw [thwartref04_Cut.l0, if_neg (by omega), if_pos (by omega), if_pos (by omega), if_pos (by omega), Int.toNat_natCast, pieces_miss 47 _ hmiss]
  | succ d ih =>
    intro k i from_ done h1 h2 h3 h4 hn
    obtain ⟨k, rfl⟩ : ∃ m, k = m + 1 := ⟨k - 1, by omega⟩
    have hi : i < s.data.toList.length := by omega
    have h47 : bt s (i : Int) = 47 ↔ s.data.toList[i] = 47 := bt_is s i hi 47
    rw [thwartref04_Cut.l0, if_pos (by omega), if_pos (by omega), wrap_id (i := (i : Int) + 1) (by omega) (by omega), show ((i : Int) + 1) = ((i + 1 : Nat) : Int) by omega]
    by_cases c : s.data.toList[i] = 47
    · rw [if_pos (h47.2 c), if_pos (by omega), if_pos (by omega), if_pos (by omega), if_pos (by omega), Int.toNat_natCast, Int.toNat_natCast]
      rw [ih k (i + 1) (i + 1) _ (by omega) (by omega) (Nat.le_refl _) (by rw [List.length_append]; simp; omega) (fun j a b => by omega)]
      have hidx : Lib.indexByte (s.extract from_ s.size).data.toList 47 = ((i - from_ : Nat) : Int) := by
        have hno := hsub from_ i h3 (by omega) hn
        have hsplit : (s.extract from_ s.size).data.toList = (s.data.toList.drop from_).take (i - from_) ++ 47 :: s.data.toList.drop (i + 1) := by
          rw [extL, List.take_of_length_le (by rw [List.length_drop]; omega)]
          conv => lhs; rw [← List.take_append_drop (i - from_) (s.data.toList.drop from_)]
          rw [List.drop_drop, show from_ + (i - from_) = i by omega, List.drop_eq_getElem_cons hi, c]
        rw [hsplit, index_at _ _ _ hno, List.length_take, List.length_drop]
        congr 1
        omega
      rw [pieces_hit 47 (s.extract from_ s.size) (i - from_) hidx, ext_ext s from_ _ (by omega), ext_head s from_ _ (by omega), show from_ + (i - from_ + 1) = i + 1 by omega, show from_ + (i - from_) = i by omega]
      simp
    · rw [if_neg (fun h => c (h47.1 h))]
      exact ih k (i + 1) from_ done (by omega) (by omega) (by omega) h4 (fun j a b => by
        rcases Nat.lt_or_ge j i with h | h
        · exact hn j a h
        · obtain rfl : j = i := by omega
          rw [List.getElem?_eq_getElem hi]
          intro e; exact c (Option.some.inj e))
theorem cut_is (s : ByteArray) (hs : s.size ≤ 1000) (k : Nat) (hk : s.size < k) : thwartref04_Cut.f k s = some (pieces 47 s) := by
  unfold thwartref04_Cut.f
  have := cut_loop s hs s.size k 0 0 [] (by omega) hk (Nat.le_refl _) (Nat.le_refl _) (fun j a b => by omega)
  rw [ext_all, List.nil_append] at this
  exact this
theorem pieces_size (b : UInt8) : ∀ (n : Nat) (s : ByteArray), s.size ≤ n → ∀ x ∈ pieces b s, x.size ≤ s.size := by
  intro n
  induction n with
  | zero =>
    intro s hs x hx
    have h0 : s.data.toList = [] := List.eq_nil_of_length_eq_zero (by rw [← szL]; omega)
    rw [pieces_miss b s (by rw [h0]; rfl)] at hx
    rw [List.mem_singleton.1 hx]; exact Nat.le_refl _
  | succ n ih =>
    intro s hs x hx
    have hg := Lib.indexByte_ge s.data.toList b
    by_cases h : Lib.indexByte s.data.toList b = -1
    · rw [pieces_miss b s h] at hx
      rw [List.mem_singleton.1 hx]; exact Nat.le_refl _
    · obtain ⟨i, hi⟩ := Int.eq_ofNat_of_zero_le (show 0 ≤ Lib.indexByte s.data.toList b by omega)
      have hlt : i < s.size := by
        have := indexByte_lt s.data.toList b
        rw [hi, ← szL] at this; omega
      rw [pieces_hit b s i hi] at hx
      rcases List.mem_cons.1 hx with rfl | hx
      · rw [ByteArray.size_extract]; omega
      · have h2 := ext_sz s (i + 1) s.size (Nat.le_refl _)
        have := ih (s.extract (i + 1) s.size) (by omega) x hx
        omega
theorem pieces_len (b : UInt8) (s : ByteArray) : (pieces b s).length ≤ s.size + 1 := by
  have h1 := Lib.splitB_all ⟨#[b]⟩ (Nat.le_refl 1) 0 (Lib.countB s ⟨#[b]⟩) s rfl
  have h2 := Lib.countB_le ⟨#[b]⟩ (Nat.le_refl 1) s.size s (Nat.le_refl _)
  unfold pieces
  omega
def allOk (l : List ByteArray) : Bool := l.all fun x => isName x.data.toList
theorem all_is (l : List ByteArray) (h : ∀ x ∈ l, x.size ≤ 1000) : allNames l = some (allOk l) := by
  induction l with
  | nil => rfl
  | cons x l ih =>
    unfold allNames
    rw [name_is x (h x (by simp)) 20 (by omega), Option.bind_some]
    unfold allOk at ih ⊢
    rw [List.all_cons, ih (fun y hy => h y (by simp [hy]))]
    cases isName x.data.toList <;> rfl
/-- A text's names. -/
def partsOf (s : ByteArray) : List ByteArray × Int := if s.size ≤ 300 ∧ allOk (pieces 47 s) = true then (pieces 47 s, 0) else ([], 8)
theorem parts_is (s : ByteArray) : ppath_Parts.f s = some (partsOf s) := by
  unfold ppath_Parts.f partsOf
  by_cases h : 300 < s.size
  · rw [if_pos h, if_neg (by omega)]
  · rw [if_neg h, all_is _ (fun x hx => by have := pieces_size 47 s.size s (Nat.le_refl _) x hx; omega), Option.bind_some]
    by_cases h2 : allOk (pieces 47 s) = true
    · rw [if_pos h2, if_pos ⟨by omega, h2⟩]
    · rw [if_neg h2, if_neg (fun h => h2 h.2)]
theorem parts_loop (l : List ByteArray) (hl : l.length ≤ 1000) (h : ∀ x ∈ l, x.size ≤ 1000) (d : Nat) : ∀ (k i : Nat), i + d = l.length → d + 1002 < k → thwartref04_Parts.l0 k l i = some (if allOk (l.drop i) = true then (l, 0) else ([], 8)) := by
  induction d with
  | zero =>
    intro k i h1 h2
    obtain ⟨k, rfl⟩ : ∃ m, k = m + 1 := ⟨k - 1, by omega⟩
    rw [thwartref04_Parts.l0, if_neg (by omega), List.drop_eq_nil_of_le (by omega)]; rfl
  | succ d ih =>
    intro k i h1 h2
    obtain ⟨k, rfl⟩ : ∃ m, k = m + 1 := ⟨k - 1, by omega⟩
    have hi : i < l.length := by omega
    have hr : rdOf ByteArray.empty l (i : Int) = l[i] := by unfold rdOf; rw [Int.toNat_natCast, List.getD_eq_getElem?_getD, List.getElem?_eq_getElem hi]; rfl
    have hx := h l[i] (List.getElem_mem hi)
    rw [thwartref04_Parts.l0, if_pos (by omega), if_pos (by omega), hr, name_ref _ hx k (by omega), Option.bind_some, wrap_id (i := (i : Int) + 1) (by omega) (by omega), show ((i : Int) + 1) = ((i + 1 : Nat) : Int) by omega, ih k (i + 1) (by omega) (by omega), List.drop_eq_getElem_cons hi]
    unfold allOk
    rw [List.all_cons]
    cases isName l[i].data.toList <;> simp
theorem parts_ref (s : ByteArray) (hs : s.size ≤ 140737488351232) (k : Nat) (hk : 2500 ≤ k) : thwartref04_Parts.f k s = some (partsOf s) := by
  unfold thwartref04_Parts.f partsOf
  by_cases h : (s.size : Int) > 300
  · rw [if_pos h, if_neg (by omega)]
  · have hp := pieces_len 47 s
    rw [if_neg h, cut_is s (by omega) k (by omega), Option.bind_some]
    have := parts_loop (pieces 47 s) (by omega) (fun x hx => by have := pieces_size 47 s.size s (Nat.le_refl _) x hx; omega) (pieces 47 s).length k 0 (by omega) (by omega)
    rw [show ((0 : Nat) : Int) = 0 from rfl, List.drop_zero] at this
    rw [this]
    by_cases h2 : allOk (pieces 47 s) = true
    · rw [if_pos h2, if_pos ⟨by omega, h2⟩]
    · rw [if_neg h2, if_neg (fun h => h2 h.2)]
end Go.Proofs.YtjidenkhgeoaiaaGreatDoor.Q5

/- Plain facts on texts of fields, as the code and the document tell them. -/
namespace Go.Proofs.YtjidenkhgeoaiaaGreatDoor.Q
open Go.RowKit Go.Proofs.YtjidenkhgeoaiaaGreatDoor.P Go.Proofs.YtjidenkhgeoaiaaGreatDoor.Hand Go.Proofs.YtjidenkhgeoaiaaGreatDoorW.PrintWords Go.Proofs.YtjidenkhgeoaiaaGreatDoorW.PrintLast Go.Proofs.YtjidenkhgeoaiaaGreatDoorW.PrintMore
set_option linter.unusedVariables false
set_option linter.unusedSimpArgs false
theorem wrap_small {i : Int} (h0 : 0 ≤ i) (h : i ≤ 4611686018427387904) : wrap64 (i + 1) = i + 1 := by unfold wrap64; omega
theorem bt_get (s : ByteArray) (i : Nat) (h : i < s.data.toList.length) : bt s (i : Int) = (s.data.toList[i].toNat : Int) := by
  unfold bt
  rw [Int.toNat_natCast, dif_pos (by rw [szL]; exact h)]; rfl
theorem bt_zero (s : ByteArray) (i : Nat) (h : i < s.data.toList.length) (c : UInt8) : bt s (i : Int) = (c.toNat : Int) ↔ s.data.toList[i] = c := by
  rw [bt_get s i h]
  constructor
  · intro h; exact UInt8.toNat_inj.1 (by omega)
  · rintro rfl; rfl

/-- Where the first c stands; the end, if there is none. -/
def firstAt (l : List UInt8) (c : UInt8) : Nat := if 0 ≤ Lib.indexByte l c then (Lib.indexByte l c).toNat else l.length
theorem firstAt_le (l : List UInt8) (c : UInt8) : firstAt l c ≤ l.length := by
  unfold firstAt; have := indexByte_lt l c; split <;> omega
theorem firstAt_cons (b : UInt8) (l : List UInt8) (c : UInt8) : firstAt (b :: l) c = if b = c then 0 else firstAt l c + 1 := by
  have hg := Lib.indexByte_ge l c
  have hc : Lib.indexByte (b :: l) c = if (b == c) = true then 0 else if (Lib.indexByte l c == -1) = true then -1 else Lib.indexByte l c + 1 := rfl
  unfold firstAt
  rw [hc]
  by_cases e : b = c
  · subst e; simp
  · have e1 : ¬ (b == c) = true := by simpa using e
    rw [if_neg e, if_neg e1]
    by_cases e2 : (Lib.indexByte l c == -1) = true
    · rw [if_pos e2]; have := beq_iff_eq.1 e2; rw [if_neg (by omega), if_neg (by omega)]; rfl
    · rw [if_neg e2]; have : ¬ Lib.indexByte l c = -1 := fun h => e2 (by simp [h])
      rw [if_pos (by omega), if_pos (by omega)]; omega
theorem aheadOf_first (l : List Int) (c : UInt8) : aheadOf l c = firstAt (Lib.bytesOf l) c := by
  unfold aheadOf firstAt; rw [Lib.bytesOf_length]

theorem zero_loop (s : ByteArray) (hs : s.size ≤ 140737488351232) (d : Nat) : ∀ (k i : Nat), i ≤ s.size → s.size - i = d → d < k → thwartref02_zero.l0 k s (i : Int) = some ((i + firstAt (s.data.toList.drop i) 0 : Nat) : Int) := by
  induction d with
  | zero =>
    intro k i h1 hd hk
    obtain ⟨k, rfl⟩ : ∃ m, k = m + 1 := ⟨k - 1, by omega⟩
    simp only [thwartref02_zero.l0]
    rw [if_neg (by omega), List.drop_of_length_le (by rw [← szL]; omega)]
    have : i = s.size := by omega
    subst this; rfl
  | succ d ih =>
    intro k i h1 hd hk
    obtain ⟨k, rfl⟩ : ∃ m, k = m + 1 := ⟨k - 1, by omega⟩
    have hi : i < s.data.toList.length := by rw [← szL]; omega
    simp only [thwartref02_zero.l0]
    have hz := bt_zero s i hi 0
    rw [show (((0 : UInt8).toNat : Nat) : Int) = 0 from rfl] at hz
    rw [if_pos (by omega), if_pos (by omega), List.drop_eq_getElem_cons hi, firstAt_cons]
    by_cases e : s.data.toList[i] = 0
    · rw [if_pos (hz.2 e), if_pos e]; rfl
    · rw [if_neg (fun h => e (hz.1 h)), if_neg e, wrap_small (by omega) (by omega)]
      have := ih k (i + 1) (by omega) (by omega) (by omega)
      rw [show ((i : Int) + 1) = ((i + 1 : Nat) : Int) by omega, this]
      congr 1; omega
theorem zero_is (s : ByteArray) (hs : s.size ≤ 140737488351232) (k : Nat) (hk : s.size < k) : thwartref02_zero.f k s = some ((firstAt s.data.toList 0 : Nat) : Int) := by
  have := zero_loop s hs s.size k 0 (Nat.zero_le _) (by omega) hk
  simpa [thwartref02_zero.f] using this

theorem refLoose (l : List Int) (hl : l.length ≤ 1000) (k : Nat) (hk : 1005 ≤ k) : thwartref02_Loose.f k l = strf_Loose.f l := by
  unfold thwartref02_Loose.f strf_Loose.f
  have hz : (strOfNums l).size = l.length := strOfNums_size l
  have hd : (strOfNums l).data.toList = Lib.bytesOf l := rfl
  have hle := firstAt_le (Lib.bytesOf l) 0
  rw [Lib.bytesOf_length] at hle
  rw [zero_is _ (by omega) k (by omega), hd]
  simp only [Option.bind_some]
  rw [if_pos (by omega), if_pos (by omega), aheadOf_first, Int.toNat_natCast]
  congr 1
  apply ext_list
  rw [extL, List.drop_zero, Nat.sub_zero, numsL, numsL]
  unfold Lib.bytesOf
  rw [List.map_take]

end Go.Proofs.YtjidenkhgeoaiaaGreatDoor.Q

/- Plain facts on a key's value in a list of records, told by both. -/
namespace Go.Proofs.YtjidenkhgeoaiaaGreatDoor.Qf
open Go.RowKit Go.Proofs.YtjidenkhgeoaiaaGreatDoor.P Go.Proofs.YtjidenkhgeoaiaaGreatDoorW.PrintWords Go.Proofs.YtjidenkhgeoaiaaGreatDoorW.PrintLast Go.Proofs.YtjidenkhgeoaiaaGreatDoorW.PrintMore Go.Proofs.YtjidenkhgeoaiaaGreatDoor.Hand
set_option linter.unusedVariables false
set_option linter.unusedSimpArgs false
abbrev SA := S35
abbrev SB := S34
def vc (x : SB) : SA := ⟨x.f0, x.f1⟩
theorem wrap_id {i : Int} (h0 : -9223372036854775808 ≤ i) (h : i < 9223372036854775808) : wrap64 i = i := by unfold wrap64; omega
theorem rd_B (l : List SB) (i : Nat) (h : i < l.length) : rd_T34 l (i : Int) = l[i] := by
  unfold rd_T34; rw [Int.toNat_natCast, List.getD_eq_getElem?_getD, List.getElem?_eq_getElem h]; rfl
theorem rd_A (l : List SA) (i : Nat) (h : i < l.length) : rd_T35 l (i : Int) = l[i] := by
  unfold rd_T35; rw [Int.toNat_natCast, List.getD_eq_getElem?_getD, List.getElem?_eq_getElem h]; rfl
theorem find_ref (l : List SB) (key : ByteArray) (hl : l.length ≤ 1000000) : ∀ (m k : Nat), m ≤ l.length → m < k → thwartref06_Find.l0 k l key ((m : Int) - 1) = some (lastOf (l.map vc) key m) := by
  intro m
  induction m with
  | zero =>
    intro k hm hk
    obtain ⟨k, rfl⟩ : ∃ q, k = q + 1 := ⟨k - 1, by omega⟩
    rw [thwartref06_Find.l0, if_neg (by omega)]; rfl
  | succ m ih =>
    intro k hm hk
    obtain ⟨k, rfl⟩ : ∃ q, k = q + 1 := ⟨k - 1, by omega⟩
    have h2 : m < l.length := by omega
    have hr : rdS (l.map vc) m = vc l[m] := by
      unfold rdS
      first | (rw [rd_A _ m (by rw [List.length_map]; exact h2)]; simp) | (simp [List.getD_eq_getElem?_getD, h2])
    have e : (((m + 1 : Nat) : Int) - 1) = (m : Int) := by omega
    rw [e, thwartref06_Find.l0, if_pos (by omega), if_pos (by omega), if_pos (by omega), rd_B l m h2, lastOf, hr]
    by_cases c : l[m].f0.toList = key.toList
    · rw [if_pos c, if_pos (show (vc l[m]).f0.toList = key.toList from c)]; rfl
    · rw [if_neg c, if_neg (show ¬ (vc l[m]).f0.toList = key.toList from c), wrap_id (by omega) (by omega)]
      exact ih k (by omega) (by omega)
theorem Find_same (l : List SB) (key : ByteArray) (hl : l.length ≤ 1000000) (k : Nat) (hk : l.length < k) : recs_Find.f (l.map vc) key = some (lastOf (l.map vc) key l.length) ∧ thwartref06_Find.f k l key = some (lastOf (l.map vc) key l.length) := by
  refine ⟨?_, ?_⟩
  · unfold recs_Find.f
    rw [List.length_map, if_pos (by omega)]
  · unfold thwartref06_Find.f
    rw [wrap_id (by omega) (by omega)]
    exact find_ref l key hl l.length k (Nat.le_refl _) hk
/-- What is found is the value of one of them. -/
theorem last_size (xs : List SA) (key : ByteArray) (M : Nat) (h : ∀ x ∈ xs, x.f1.size ≤ M) : ∀ m, m ≤ xs.length → (lastOf xs key m).1.size ≤ M := by
  intro m
  induction m with
  | zero => intro _; exact Nat.zero_le _
  | succ m ih =>
    intro hm
    have hr : rdS xs m = xs[m] := by
      unfold rdS
      first | (rw [rd_A _ m (by omega)]) | (simp [List.getD_eq_getElem?_getD])
    unfold lastOf
    split
    · rw [hr]; exact h _ (List.getElem_mem _)
    · exact ih (by omega)
end Go.Proofs.YtjidenkhgeoaiaaGreatDoor.Qf

/- Plain facts on members: kinds and types, whether one may be, the member of a header, told by both. -/
namespace Go.Proofs.YtjidenkhgeoaiaaGreatDoor.Q8
open Go.RowKit Go.Proofs.YtjidenkhgeoaiaaGreatDoor.P Go.Proofs.YtjidenkhgeoaiaaGreatDoorW.PrintWords Go.Proofs.YtjidenkhgeoaiaaGreatDoorW.PrintLast Go.Proofs.YtjidenkhgeoaiaaGreatDoorW.PrintMore Go.Proofs.YtjidenkhgeoaiaaGreatDoor.Hand Go.Proofs.YtjidenkhgeoaiaaGreatDoor.Q5
set_option linter.unusedVariables false
set_option linter.unusedSimpArgs false
theorem type8 (a : Int) : memb_Type.f a = some (if a = 1 then 48 else if a = 2 then 49 else if a = 3 then 50 else if a = 4 then 53 else 0) := by
  by_cases h1 : a < 1
  · rw [memb_Type.f, if_pos h1, if_neg (by omega), if_neg (by omega), if_neg (by omega), if_neg (by omega)]
  by_cases h4 : a > 4
  · rw [memb_Type.f, if_neg h1, if_pos h4, if_neg (by omega), if_neg (by omega), if_neg (by omega), if_neg (by omega)]
  have : a = 1 ∨ a = 2 ∨ a = 3 ∨ a = 4 := by omega
  rcases this with rfl | rfl | rfl | rfl <;> decide +kernel
/-- May a path be? -/
def okP (s : ByteArray) : Bool := (partsOf s).2 == 0
theorem partsOf_E (s : ByteArray) : (partsOf s).2 = 0 ∨ (partsOf s).2 = 8 := by unfold partsOf; split <;> simp
theorem may_path (s : ByteArray) : ppath_May.f s = some (okP s) := by rw [ppath_May.f, parts_is]; rfl
/-- Has a text a byte 0? -/
def zeroIn (s : ByteArray) : Bool := decide (0 ≤ Lib.indexByte s.data.toList 0)
theorem has_mine (s : ByteArray) : strings_Contains.f s (⟨#[0]⟩ : ByteArray) = some (zeroIn s) := rfl
theorem has_ref (s : ByteArray) (h : s.size ≤ 1000) (k : Nat) (hk : 1005 ≤ k) : ref08_has.f k s = some (zeroIn s) := by
  have hl : (bytesOf s).length = s.size := bytesOf_length s
  rw [ref08_has.f, if_pos (by omega), Q.refLoose _ (by omega) k hk]
  simp only [strf_Loose.f, Option.bind_some, Option.some.injEq]
  unfold zeroIn aheadOf
  rw [Q.bytes_bytes]
  by_cases c : 0 ≤ Lib.indexByte s.data.toList 0
  · rw [if_pos c, decide_eq_true c]
    have hlt := indexByte_lt s.data.toList 0 
    rw [bne_iff_ne]
    intro e
    have e2 := congrArg List.length e
    rw [Q.toL, Q.toL, Q.numsL, Lib.bytesOf_length, List.length_take, hl, ← Q.szL] at e2
    rw [← Q.szL] at hlt
    omega
  · rw [if_neg c, decide_eq_false c, hl, ← hl, List.take_length, Q.nums_bytes]
    simp
/-- What may be of a member: the error. -/
def numsOk (m u g t : Int) : Bool := decide (0 ≤ m ∧ m ≤ 4095 ∧ 0 ≤ u ∧ u ≤ 1099511627775 ∧ 0 ≤ g ∧ g ≤ 1099511627775 ∧ -1125899906842624 ≤ t ∧ t ≤ 1125899906842624)
def linkE (kd : Int) (q : ByteArray) : Int :=
  if kd = 2 then (if okP q = true then 0 else 8) else if kd = 3 then (if q.toList = ([] : List UInt8) ∨ zeroIn q = true then 3 else if (300 : Int) < (q.size : Int) then 10 else 0) else if q.toList = ([] : List UInt8) then 0 else 3
def mayE (p : ByteArray) (kd m u g t : Int) (q : ByteArray) (n : Nat) : Int :=
  if okP p = true then (if kd < 1 ∨ 4 < kd then 11 else if numsOk m u g t = true then (if kd = 1 ∧ (4096 : Int) < (n : Int) then 10 else if linkE kd q = 0 then (if kd ≠ 1 ∧ (0 : Int) < (n : Int) then 3 else 0) else linkE kd q) else 10) else 8
theorem nums_mine (m u g t : Int) : memb_numbers.f m u g t = some (numsOk m u g t) := by
  have w : ∀ a b c : Int, memb_within.f a b c = some (decide (b ≤ a ∧ a ≤ c)) := by
    intro a b c
    unfold memb_within.f
    by_cases h : a ≥ b
    · rw [if_pos h]; congr 1; simp; omega
    · rw [if_neg h]; congr 1; simp; omega
  unfold memb_numbers.f numsOk
  rw [w, w, w, w]
  simp only [Option.bind_some, decide_eq_true_eq]
  repeat' split
  all_goals first
    | (congr 1; rw [decide_eq_decide]; omega)
    | (congr 1; symm; rw [decide_eq_false_iff_not]; omega)
theorem nums_ref (m u g t : Int) : thwartref08_Numbers.f m u g t = some (numsOk m u g t) := by
  unfold thwartref08_Numbers.f numsOk
  repeat' split
  all_goals first
    | (congr 1; rw [decide_eq_decide]; omega)
    | (congr 1; symm; rw [decide_eq_false_iff_not]; omega)
theorem kind_mine (p : ByteArray) (kd m u g t : Int) (q : ByteArray) (l : List Int) (h1 : 1 ≤ kd) (h4 : kd ≤ 4) :
    memb_isKind.f p kd m u g t q l = some (if kd = 1 ∧ (4096 : Int) < (l.length : Int) then 10 else if linkE kd q = 0 then (if kd ≠ 1 ∧ (0 : Int) < (l.length : Int) then 3 else 0) else linkE kd q) := by
  have : kd = 1 ∨ kd = 2 ∨ kd = 3 ∨ kd = 4 := by omega
  unfold memb_isKind.f linkE
  rw [may_path, has_mine]
  simp only [Option.bind_some]
  rcases this with rfl | rfl | rfl | rfl
  · simp
    repeat' split
    all_goals simp_all
  · simp
    repeat' split
    all_goals simp_all
  · simp
    repeat' split
    all_goals simp_all
  · simp
    repeat' split
    all_goals simp_all
theorem may_mine (p : ByteArray) (kd m u g t : Int) (q : ByteArray) (l : List Int) : memb_May.f p kd m u g t q l = some (mayE p kd m u g t q l.length) := by
  unfold memb_May.f mayE
  rw [may_path, Option.bind_some]
  by_cases c : okP p = true
  · rw [if_pos c, if_pos c, type8, Option.bind_some, nums_mine]
    by_cases d : kd < 1 ∨ 4 < kd
    · have ht : (if kd = 1 then (48 : Int) else if kd = 2 then 49 else if kd = 3 then 50 else if kd = 4 then 53 else 0) = 0 := by rw [if_neg (by omega), if_neg (by omega), if_neg (by omega), if_neg (by omega)]
      rw [if_pos d, if_pos ht]
    · have ht : ¬ (if kd = 1 then (48 : Int) else if kd = 2 then 49 else if kd = 3 then 50 else if kd = 4 then 53 else 0) = 0 := by (repeat' split) <;> omega
      rw [if_neg d, if_neg ht, Option.bind_some, kind_mine _ _ _ _ _ _ _ _ (by omega) (by omega), Option.bind_some]
      split <;> rfl
  · rw [if_neg c, if_neg c]
theorem link_ref (p : ByteArray) (kd m u g t : Int) (q : ByteArray) (l : List Int) (hq : q.size ≤ 1000) (k : Nat) (hk : 2501 ≤ k) : thwartref08_link.f k p kd m u g t q l = some (linkE kd q) := by
  obtain ⟨k, rfl⟩ : ∃ j, k = j + 1 := ⟨k - 1, by omega⟩
  unfold thwartref08_link.f linkE
  rw [parts_ref q (by omega) (k + 1) (by omega), has_ref q hq (k + 1) (by omega)]
  simp only [Option.bind_some]
  by_cases c2 : kd = 2
  · rw [if_pos c2, if_pos c2]
    unfold okP
    rcases partsOf_E q with e | e <;> rw [e] <;> rfl
  rw [if_neg c2, if_neg c2]
  by_cases c3 : kd = 3
  · rw [if_pos c3, if_pos c3]
    by_cases c : q.toList = ([] : List UInt8)
    · rw [if_pos c, if_pos (.inl c), thwartref08_link.j0, if_pos rfl]
    · rw [if_neg c, thwartref08_link.j0]
      by_cases z : zeroIn q = true
      · rw [if_pos z, if_pos (.inr z)]
      · rw [if_neg z, if_neg (not_or.2 ⟨c, z⟩)]
        by_cases s : (q.size : Int) > 300
        · rw [if_pos s, if_pos s]
        · rw [if_neg s, if_neg s]
  rw [if_neg c3, if_neg c3]
  split <;> rfl
theorem may_ref (p : ByteArray) (kd m u g t : Int) (q : ByteArray) (l : List Int) (hp : p.size ≤ 140737488351232) (hq : q.size ≤ 1000) (k : Nat) (hk : 2503 ≤ k) : thwartref08_May.f k p kd m u g t q l = some (mayE p kd m u g t q l.length) := by
  obtain ⟨k, rfl⟩ : ∃ j, k = j + 2 := ⟨k - 2, by omega⟩
  unfold thwartref08_May.f mayE okP
  rw [parts_ref p hp (k + 2) (by omega), Option.bind_some]
  rcases partsOf_E p with e | e
  · rw [if_pos e, if_pos (show ((partsOf p).2 == 0) = true from by rw [e]; rfl)]
    have j0T : thwartref08_May.j0 (k + 2) true p kd m u g t q l = some 11 := by rw [thwartref08_May.j0, if_pos rfl]
    by_cases d1 : kd < 1
    · rw [if_pos d1, if_pos (.inl d1), j0T]
    rw [if_neg d1]
    by_cases d4 : kd > 4
    · rw [decide_eq_true d4, if_pos (.inr d4), j0T]
    rw [decide_eq_false d4, if_neg (by omega), thwartref08_May.j0, if_neg (by decide), nums_ref, Option.bind_some]
    by_cases n : numsOk m u g t = true
    · rw [if_pos n, if_pos n]
      have j1T : thwartref08_May.j1 (k + 1) true p kd m u g t q l = some 10 := by rw [thwartref08_May.j1, if_pos rfl]
      have j1F : thwartref08_May.j1 (k + 1) false p kd m u g t q l = some (if linkE kd q = 0 then (if kd ≠ 1 ∧ (0 : Int) < (l.length : Int) then 3 else 0) else linkE kd q) := by
        rw [thwartref08_May.j1, if_neg (by decide), link_ref _ _ _ _ _ _ _ _ hq k (by omega), Option.bind_some]
        by_cases z : linkE kd q = 0
        · rw [if_pos z, if_pos z]
          by_cases f : kd = 1
          · rw [if_pos f, if_neg (fun h => h.1 f)]
          · rw [if_neg f]
            by_cases b : (l.length : Int) > 0
            · rw [if_pos b, if_pos ⟨f, b⟩]
            · rw [if_neg b, if_neg (fun h => b h.2)]
        · rw [if_neg z, if_neg z]
      by_cases f : kd = 1
      · rw [if_pos f]
        by_cases b : (l.length : Int) > 4096
        · rw [decide_eq_true b, j1T, if_pos ⟨f, b⟩]
        · rw [decide_eq_false b, j1F, if_neg (show ¬ (kd = 1 ∧ (4096 : Int) < (l.length : Int)) from fun h => b h.2)]
      · rw [if_neg f, j1F, if_neg (show ¬ (kd = 1 ∧ (4096 : Int) < (l.length : Int)) from fun h => f h.1)]
    · rw [if_neg n, if_neg n]
  · rw [if_neg (by rw [e]; decide), if_neg (show ¬ ((partsOf p).2 == 0) = true from by rw [e]; decide)]
/-- Of one member, and of it with another link. -/
theorem same_self (p : ByteArray) (kd m u g t : Int) (q : ByteArray) (l : List Int) : memb_Same.f p kd m u g t q l p kd m u g t q l = some true := by
  unfold memb_Same.f
  simp [bytes_Equal.f]
theorem same_link (p : ByteArray) (kd m u g t : Int) (q q' : ByteArray) (l : List Int) (h : ¬ q.toList = q'.toList) : memb_Same.f p kd m u g t q l p kd m u g t q' l = some false := by
  unfold memb_Same.f
  simp [h]
end Go.Proofs.YtjidenkhgeoaiaaGreatDoor.Q8

/- Plain facts: the member of a header, records and bytes. -/
namespace Go.Proofs.YtjidenkhgeoaiaaGreatDoor.Q8
open Go.RowKit Go.Proofs.YtjidenkhgeoaiaaGreatDoor.P Go.Proofs.YtjidenkhgeoaiaaGreatDoorW.PrintWords Go.Proofs.YtjidenkhgeoaiaaGreatDoorW.PrintLast Go.Proofs.YtjidenkhgeoaiaaGreatDoorW.PrintMore Go.Proofs.YtjidenkhgeoaiaaGreatDoor.Hand Go.Proofs.YtjidenkhgeoaiaaGreatDoor.Q5
set_option linter.unusedVariables false
set_option linter.unusedSimpArgs false
abbrev Mem := ByteArray × Int × Int × Int × Int × Int × ByteArray × List Int × Int
def cut8 (p : ByteArray) (kd m u g t : Int) (q : ByteArray) (d : List Int) (e : Int) : Mem :=
  if e = 0 then (p, kd, m, u, g, t, q, d, 0) else ((⟨#[]⟩ : ByteArray), 0, 0, 0, 0, 0, (⟨#[]⟩ : ByteArray), [], e)
def fromOf (p : ByteArray) (kd m u g t : Int) (q : ByteArray) (d : List Int) : Mem :=
  if kd = 0 then ((⟨#[]⟩ : ByteArray), 0, 0, 0, 0, 0, (⟨#[]⟩ : ByteArray), [], 11)
  else if kd = 1 then cut8 p kd m u g t (⟨#[]⟩ : ByteArray) d (mayE p kd m u g t (⟨#[]⟩ : ByteArray) d.length)
  else if kd = 4 then cut8 p kd m u g t (⟨#[]⟩ : ByteArray) [] (mayE p kd m u g t (⟨#[]⟩ : ByteArray) 0)
  else cut8 p kd m u g t q [] (mayE p kd m u g t q 0)
theorem cut8_is (p : ByteArray) (kd m u g t : Int) (q : ByteArray) (d : List Int) (e : Int) : (if e = 0 then some (p, kd, m, u, g, t, q, d, (0 : Int)) else some ((⟨#[]⟩ : ByteArray), 0, 0, 0, 0, 0, (⟨#[]⟩ : ByteArray), [], e)) = some (cut8 p kd m u g t q d e) := by
  unfold cut8; split <;> rfl
theorem mine_j1 (k : Nat) (d : List Int) (p : ByteArray) (kd m u g t : Int) (q : ByteArray) (hd : d.length ≤ 140737488355328) : memb_From.j1 (k + 1) d p kd m u g t q = some (fromOf p kd m u g t q d) := by
  rw [memb_From.j1]
  unfold fromOf
  by_cases h0 : kd = 0
  · rw [if_pos h0, if_pos h0]
  rw [if_neg h0, if_neg h0]
  by_cases h1 : kd = 1
  · rw [if_pos h1, if_pos h1, bytes_Clone.f, if_pos hd]
    simp only [Option.bind_some]
    rw [may_mine, Option.bind_some, cut8_is]
  rw [if_neg h1, if_neg h1]
  by_cases h4 : kd = 4
  · rw [if_pos h4, if_pos h4, may_mine, Option.bind_some, cut8_is]; rfl
  rw [if_neg h4, if_neg h4, may_mine, Option.bind_some, cut8_is]; rfl
end Go.Proofs.YtjidenkhgeoaiaaGreatDoor.Q8
