import Derived.Test.YtjidenkhgeoaiaaGreatDoorCF2
import Derived.Lib.AppendIntMem
import Derived.Lib.LaidTab
import Derived.LaidSub
import Derived.MakeChecks
import Derived.Shelf.Bytes.SlTrim
namespace Go.Proofs.YtjidenkhgeoaiaaGreatDoor.P
open Go.RowKit Go.Proofs.YtjidenkhgeoaiaaGreatDoorW.PrintWords Go.Proofs.YtjidenkhgeoaiaaGreatDoorW.PrintLast Go.Proofs.YtjidenkhgeoaiaaGreatDoorW.PrintMore Go.Proofs.YtjidenkhgeoaiaaGreatDoor.Hand
attribute [local go_sem] max2_int min2_int max_two min_two max_three min_three max_four min_four   -- for this text's walks alone
set_option linter.unusedVariables false
set_option linter.unusedSimpArgs false

/-! ### memb_From: function 11 -/
mutual
def memb_From.j0 : Nat → List (S35) → List Int → ByteArray → Int → Int → Int → Int → Int → ByteArray → Option (ByteArray × Int × Int × Int × Int × Int × ByteArray × List Int × Int)
 | 0, _, _, _, _, _, _, _, _, _ => none
 | k + 1, x1, x2, x128000, x128001, x128002, x128003, x128004, x128005, x128006 => (recs_Find.f x1 (⟨#[108, 105, 110, 107, 112, 97, 116, 104]⟩ : ByteArray)).bind fun bt130 => (if bt130.2 = true then (memb_From.j1 k x2 x128000 x128001 x128002 x128003 x128004 x128005 bt130.1) else (memb_From.j1 k x2 x128000 x128001 x128002 x128003 x128004 x128005 x128006))
def memb_From.j1 : Nat → List Int → ByteArray → Int → Int → Int → Int → Int → ByteArray → Option (ByteArray × Int × Int × Int × Int × Int × ByteArray × List Int × Int)
 | 0, _, _, _, _, _, _, _, _ => none
 | k + 1, x2, x128000, x128001, x128002, x128003, x128004, x128005, x128006 => if x128001 = 0 then (some ((⟨#[]⟩ : ByteArray), 0, 0, 0, 0, 0, (⟨#[]⟩ : ByteArray), ([] : List Int), 11)) else (if x128001 = 1 then ((bytes_Clone.f x2).bind fun t134 => ((memb_May.f x128000 x128001 x128002 x128003 x128004 x128005 (⟨#[]⟩ : ByteArray) t134).bind fun t137 => (if t137 = 0 then (some (x128000, x128001, x128002, x128003, x128004, x128005, (⟨#[]⟩ : ByteArray), t134, 0)) else (some ((⟨#[]⟩ : ByteArray), 0, 0, 0, 0, 0, (⟨#[]⟩ : ByteArray), ([] : List Int), t137))))) else (if x128001 = 4 then ((memb_May.f x128000 x128001 x128002 x128003 x128004 x128005 (⟨#[]⟩ : ByteArray) ([] : List Int)).bind fun t132 => (if t132 = 0 then (some (x128000, x128001, x128002, x128003, x128004, x128005, (⟨#[]⟩ : ByteArray), ([] : List Int), 0)) else (some ((⟨#[]⟩ : ByteArray), 0, 0, 0, 0, 0, (⟨#[]⟩ : ByteArray), ([] : List Int), t132)))) else ((memb_May.f x128000 x128001 x128002 x128003 x128004 x128005 x128006 ([] : List Int)).bind fun t133 => (if t133 = 0 then (some (x128000, x128001, x128002, x128003, x128004, x128005, x128006, ([] : List Int), 0)) else (some ((⟨#[]⟩ : ByteArray), 0, 0, 0, 0, 0, (⟨#[]⟩ : ByteArray), ([] : List Int), t133))))))
end
def memb_From.f (k : Nat) (a0_0 : ByteArray) (a0_1 : ByteArray) (a0_2 : Int) (a0_3 : Int) (a0_4 : Int) (a0_5 : Int) (a0_6 : Int) (a0_7 : Int) (a0_8 : ByteArray) (l1 : List (S35)) (l2 : List Int) : Option (ByteArray × Int × Int × Int × Int × Int × ByteArray × List Int × Int) := (head_Path.f a0_0 a0_1 a0_2 a0_3 a0_4 a0_5 a0_6 a0_7 a0_8).bind fun t125 => ((memb_Kind.f a0_7).bind fun t126 => ((recs_Find.f l1 (⟨#[112, 97, 116, 104]⟩ : ByteArray)).bind fun bt128 => (if bt128.2 = true then (memb_From.j0 k l1 l2 bt128.1 t126 a0_2 a0_3 a0_4 a0_5 a0_8) else (memb_From.j0 k l1 l2 t125 t126 a0_2 a0_3 a0_4 a0_5 a0_8))))
theorem memb_From.mono_l : ∀ k, (∀ y0 y1 y2 y3 y4 y5 y6 y7 y8, LeO (memb_From.j0 k y0 y1 y2 y3 y4 y5 y6 y7 y8) (memb_From.j0 (k + 1) y0 y1 y2 y3 y4 y5 y6 y7 y8)) ∧ (∀ y0 y1 y2 y3 y4 y5 y6 y7, LeO (memb_From.j1 k y0 y1 y2 y3 y4 y5 y6 y7) (memb_From.j1 (k + 1) y0 y1 y2 y3 y4 y5 y6 y7))
 | 0 => ⟨fun _ _ _ _ _ _ _ _ _ r h => by simp [memb_From.j0] at h, fun _ _ _ _ _ _ _ _ r h => by simp [memb_From.j1] at h⟩
 | k + 1 => by
  obtain ⟨ih0, ih1⟩ := memb_From.mono_l k
  refine ⟨?_, ?_⟩
  ·intro y0 y1 y2 y3 y4 y5 y6 y7 y8
   unfold memb_From.j0
   repeat' first
   | (with_reducible exact ih0 _ _ _ _ _ _ _ _ _)
   | (with_reducible exact ih1 _ _ _ _ _ _ _ _)
   | (with_reducible exact LeO.refl _)
   | (with_reducible exact LeO.none _)
   | (with_reducible refine LeO.ite ?_ ?_)
   | (with_reducible refine LeO.bind ?_ (fun _ => ?_))
   | exact ih0 _ _ _ _ _ _ _ _ _
   | exact ih1 _ _ _ _ _ _ _ _
   | exact LeO.none _
   | refine LeO.ite ?_ ?_
   | refine LeO.bind ?_ (fun _ => ?_)
  ·intro y0 y1 y2 y3 y4 y5 y6 y7
   unfold memb_From.j1
   repeat' first
   | (with_reducible exact ih0 _ _ _ _ _ _ _ _ _)
   | (with_reducible exact ih1 _ _ _ _ _ _ _ _)
   | (with_reducible exact LeO.refl _)
   | (with_reducible exact LeO.none _)
   | (with_reducible refine LeO.ite ?_ ?_)
   | (with_reducible refine LeO.bind ?_ (fun _ => ?_))
   | exact ih0 _ _ _ _ _ _ _ _ _
   | exact ih1 _ _ _ _ _ _ _ _
   | exact LeO.none _
   | refine LeO.ite ?_ ?_
   | refine LeO.bind ?_ (fun _ => ?_)
theorem memb_From.mono : ∀ a0 a1 a2 a3 a4 a5 a6 a7 a8 a9 a10 k, LeO (memb_From.f k a0 a1 a2 a3 a4 a5 a6 a7 a8 a9 a10) (memb_From.f (k + 1) a0 a1 a2 a3 a4 a5 a6 a7 a8 a9 a10) := by
 intro a0 a1 a2 a3 a4 a5 a6 a7 a8 a9 a10 k
 obtain ⟨ih0, ih1⟩ := memb_From.mono_l k
 unfold memb_From.f
 repeat' first
   | (with_reducible exact ih0 _ _ _ _ _ _ _ _ _)
   | (with_reducible exact ih1 _ _ _ _ _ _ _ _)
   | (with_reducible exact LeO.refl _)
   | (with_reducible exact LeO.none _)
   | (with_reducible refine LeO.ite ?_ ?_)
   | (with_reducible refine LeO.bind ?_ (fun _ => ?_))
   | exact ih0 _ _ _ _ _ _ _ _ _
   | exact ih1 _ _ _ _ _ _ _ _
   | exact LeO.none _
   | refine LeO.ite ?_ ?_
   | refine LeO.bind ?_ (fun _ => ?_)
def memb_From.T1 : Bool × List (List Nat × List Nat) := (true, [([], []), ([0], [0]), ([], []), ([2], [2]), ([3, 1], [3]), ([], []), ([5], [5]), ([], []), ([7], [7]), ([1, 4, 6, 8], [1, 4, 6, 8]), ([], []), ([10, 9, 4, 0, 1, 2, 3, 4, 5, 6, 7, 8, 9, 10], [9, 10])])
def memb_From.B1 : List Nat := [0, 1, 0, 4, 15, 0, 32, 0, 128, 511, 0, 2047]
theorem memb_From.tab1 : rtab .any (opsOf Tryz.f11 1) = memb_From.T1 := by kernel_rfl
theorem memb_From.bits1 : waitsOk memb_From.T1.2 memb_From.B1 = true := by kernel_rfl
set_option maxHeartbeats 8000000 in
set_option maxRecDepth 100000 in
theorem memb_From.calls (k : Nat) (a0_0 : ByteArray) (a0_1 : ByteArray) (a0_2 : Int) (a0_3 : Int) (a0_4 : Int) (a0_5 : Int) (a0_6 : Int) (a0_7 : Int) (a0_8 : ByteArray) (A1 : Option Addr) (c1 : Nat) (l1 : List (S35)) (A2 : Option Addr) (c2 : Nat) (l2 : List Int) (r1 : ByteArray) (r2 : Int) (r3 : Int) (r4 : Int) (r5 : Int) (r6 : Int) (r7 : ByteArray) (r8 : List Int) (r9 : Int) (w : World) (hr1 : Kd.C k35 w A1 l1.length l1) (hc1 : l1.length ≤ c1) (hr2 : Kd.C (Kd.int .u8) w A2 l2.length l2) (hc2 : l2.length ≤ c2) (h : memb_From.f k a0_0 a0_1 a0_2 a0_3 a0_4 a0_5 a0_6 a0_7 a0_8 l1 l2 = some (r1, r2, r3, r4, r5, r6, r7, r8, r9)) :
  Calls Tryz.prog 11 #[.agg #[.string a0_0, .string a0_1, .int .i64 a0_2, .int .i64 a0_3, .int .i64 a0_4, .int .i64 a0_5, .int .i64 a0_6, .int .u8 a0_7, .string a0_8], .slice A1 l1.length c1, .slice A2 l2.length c2] w fun e w' => ∃ v7_ : Value, e = .returned (.tuple #[.agg #[.string r1, .int .i64 r2, .int .i64 r3, .int .i64 r4, .int .i64 r5, .int .i64 r6, .string r7, v7_], .int .i64 r9]) ∧ Kd.R (Kd.int .u8) 5 w' w.heap.size (fun _ => True) v7_ r8 ∧ Below w.heap.size w w' := by
 have hu43 := Tryz.underlying43
 have hu38 := Tryz.underlying38
 have hu36 := Tryz.underlying36
 have HR1 := Aside0.mk hr1
 have HC1 := Aside0.mk hc1
 clear hr1 hc1
 have HR2 := Aside0.mk hr2
 have HC2 := Aside0.mk hc2
 clear hr2 hc2
 have HB := Aside0.mk (Below.refl w.heap.size w)
 have H : ((head_Path.f a0_0 a0_1 a0_2 a0_3 a0_4 a0_5 a0_6 a0_7 a0_8).bind fun t125 => ((memb_Kind.f a0_7).bind fun t126 => ((recs_Find.f l1 (⟨#[112, 97, 116, 104]⟩ : ByteArray)).bind fun bt128 => (if bt128.2 = true then (memb_From.j0 k l1 l2 bt128.1 t126 a0_2 a0_3 a0_4 a0_5 a0_8) else (memb_From.j0 k l1 l2 t125 t126 a0_2 a0_3 a0_4 a0_5 a0_8))))) = some (r1, r2, r3, r4, r5, r6, r7, r8, r9) := h
 clear h
 replace H := Option.bind_eq_some_iff.mp H
 obtain ⟨t125, A40, H⟩ := H
 try dsimp only at H
 have A4 := Aside0.mk A40
 clear A40
 replace H := Option.bind_eq_some_iff.mp H
 obtain ⟨t126, A50, H⟩ := H
 try dsimp only at H
 have A5 := Aside0.mk A50
 clear A50
 replace H := Option.bind_eq_some_iff.mp H
 obtain ⟨⟨t128, t129⟩, A60, H⟩ := H
 try dsimp only at H
 have A6 := Aside0.mk A60
 clear A60
 have HC7 := Aside0.mk H
 clear H
 go_enter Tryz.func11, Tryz.ntmps11
 try go_wp2_with (first | ((with_reducible refine gate_dst (N := 3) rfl ?_); refine boxA_ 3 43 #[.string a0_0, .string a0_1, .int .i64 a0_2, .int .i64 a0_3, .int .i64 a0_4, .int .i64 a0_5, .int .i64 a0_6, .int .u8 a0_7, .string a0_8] ?_; intro gb123 hg w8 hbox hb; have n0_ := Aside0.mk (bstep_ hb); have n1_ := Aside0.mk (hbox); have n2_ := Aside0.mk ((by rw [hg]; exact bsize_ : w.heap.size ≤ gb123)); have n3_ := Aside0.mk ((by rw [hg]; exact bsize_ : w.heap.size ≤ gb123)); clear HB; have HB := n0_; have BK123 := n1_; have GW123 := n2_; have GE123 := n3_; clear n0_ n1_ n2_ n3_; clear hb hbox hg) | ((with_reducible refine gate_dst (N := 6) rfl ?_); refine boxA_ 6 38 #[.string (⟨#[]⟩ : ByteArray), .int .i64 0, .int .i64 0, .int .i64 0, .int .i64 0, .int .i64 0, .string (⟨#[]⟩ : ByteArray), .slice none 0 0] ?_; intro gb124 hg w9 hbox hb; have n0_ := Aside0.mk (blkB_ BK123.out hb); have n1_ := Aside0.mk (bstep_ hb); have n2_ := Aside0.mk (hbox); have n3_ := Aside0.mk ((by rw [hg]; exact bsize_ : w.heap.size ≤ gb124)); have n4_ := Aside0.mk ((by rw [hg]; exact bsize_ : w.heap.size ≤ gb124)); have n5_ := Aside0.mk ((by rw [hg]; exact Nat.ne_of_lt (blkL_ BK123.out) : gb123 ≠ gb124)); have n6_ := Aside0.mk ((by rw [hg]; exact Nat.ne_of_gt (blkL_ BK123.out) : gb124 ≠ gb123)); clear BK123; clear HB; have BK123 := n0_; have HB := n1_; have BK124 := n2_; have GW124 := n3_; have GE124 := n4_; have NB123_124 := n5_; have NB124_123 := n6_; clear n0_ n1_ n2_ n3_ n4_ n5_ n6_; clear hb hbox hg))
 have n0_ := Aside0.mk (blk_drew BK123.out)
 have n1_ := Aside0.mk (blk_drew BK124.out)
 have n2_ := Aside0.mk (below_drew1 HB.out)
 clear BK123
 clear BK124
 clear HB
 have BK123 := n0_
 have BK124 := n1_
 have HB := n2_
 clear n0_ n1_ n2_
 refine start_ (n := 12) (S := fun w' => w'.cell? ⟨gb123, 0, none⟩ = some (.string a0_0) ∧ w'.cell? ⟨gb123, 1, none⟩ = some (.string a0_1) ∧ w'.cell? ⟨gb123, 2, none⟩ = some (.int .i64 a0_2) ∧ w'.cell? ⟨gb123, 3, none⟩ = some (.int .i64 a0_3) ∧ w'.cell? ⟨gb123, 4, none⟩ = some (.int .i64 a0_4) ∧ w'.cell? ⟨gb123, 5, none⟩ = some (.int .i64 a0_5) ∧ w'.cell? ⟨gb123, 6, none⟩ = some (.int .i64 a0_6) ∧ w'.cell? ⟨gb123, 7, none⟩ = some (.int .u8 a0_7) ∧ w'.cell? ⟨gb123, 8, none⟩ = some (.string a0_8)) (ds := []) #[false, false, false, false, false, false, false, false, false, false, false, false] (by kernel_rfl) rfl rfl (blk_c9 BK123.out) (fun hHeld => ?_); refine with_tabW memb_From.tab1 memb_From.bits1 (fun HT_ HW_ => ?_)
 generalize w9.drew = w10 at BK123 BK124 HB hHeld ⊢
 refine pureS_ 2 16 ?_
 refine pureS_ 5 19 ?_
 refine pureS_ 7 21 ?_
 refine takeS_ 0 14 ?_
 refine takeS_ 3 17 ?_
 refine takeS_ 6 20 ?_
 refine takeS_ 8 22 ?_
 refine join_ (σ := Nat) 1 #[true, true, true, true, true, true, true, true, true, true, true, false] (fun s_ => [(15, .string t125), (18, .int .i64 t126), (8, .pointer (some ⟨s_, 0, none⟩)), (23, .agg #[.string t125, .int .i64 t126, .int .i64 a0_2, .int .i64 a0_3, .int .i64 a0_4, .int .i64 a0_5, .string a0_8, .slice none 0 0])]) (fun s_ w' => (w'.cell? ⟨gb123, 0, none⟩ = some (.string a0_0) ∧ w'.cell? ⟨gb123, 1, none⟩ = some (.string a0_1) ∧ w'.cell? ⟨gb123, 2, none⟩ = some (.int .i64 a0_2) ∧ w'.cell? ⟨gb123, 3, none⟩ = some (.int .i64 a0_3) ∧ w'.cell? ⟨gb123, 4, none⟩ = some (.int .i64 a0_4) ∧ w'.cell? ⟨gb123, 5, none⟩ = some (.int .i64 a0_5) ∧ w'.cell? ⟨gb123, 6, none⟩ = some (.int .i64 a0_6) ∧ w'.cell? ⟨gb123, 7, none⟩ = some (.int .u8 a0_7) ∧ w'.cell? ⟨gb123, 8, none⟩ = some (.string a0_8)) ∧ (w'.heap[gb123]? = some (.cells #[.string a0_0, .string a0_1, .int .i64 a0_2, .int .i64 a0_3, .int .i64 a0_4, .int .i64 a0_5, .int .i64 a0_6, .int .u8 a0_7, .string a0_8] 43 (0, 0))) ∧ (w'.heap[gb124]? = some (.cells #[.string (⟨#[]⟩ : ByteArray), .int .i64 0, .int .i64 0, .int .i64 0, .int .i64 0, .int .i64 0, .string (⟨#[]⟩ : ByteArray), .slice none 0 0] 38 (0, 0))) ∧ (w'.heap[s_]? = some (.cells #[.string (⟨#[]⟩ : ByteArray), .int .i64 0, .int .i64 0, .int .i64 0, .int .i64 0, .int .i64 0, .string (⟨#[]⟩ : ByteArray), .slice none 0 0] 38 (0, 0))) ∧ (w.heap.size ≤ s_) ∧ (w.heap.size ≤ s_) ∧ (gb123 ≠ s_) ∧ (s_ ≠ gb123) ∧ (gb124 ≠ s_) ∧ (s_ ≠ gb124) ∧ (Below w.heap.size w w')) ?_ ?_
 rotate_left
 ·intro hCont
  refine two_ (i := 1) (j := 10) (Ni := some 15) (Nj := some 8) #[true, true, true, true, false, true, true, true, true, false, false, false] #[true, false, true, true, false, true, true, true, true, false, true, false] rfl rfl rfl rfl (two_of HT_.out (by kernel_rfl)) (by decide) (by decide) (fun K hK => ?_) (fun K hK => ?_)
  ·skip
   refine goes_ Tryz.func21 (by kernel_rfl) rfl #[.agg #[.string a0_0, .string a0_1, .int .i64 a0_2, .int .i64 a0_3, .int .i64 a0_4, .int .i64 a0_5, .int .i64 a0_6, .int .u8 a0_7, .string a0_8]] (by rfl) rfl rfl (by (try simp only [List.map_toArray, List.map_cons, List.map_nil]); first | done | rfl | (simp only [List.length_drop, List.length_take]; rfl)) ?_
   with_reducible refine (head_Path.calls a0_0 a0_1 a0_2 a0_3 a0_4 a0_5 a0_6 a0_7 a0_8 t125 _ A4.out).mono ?_
   rintro e w11 ⟨rfl, hb⟩
   refine ⟨_, rfl, ?_⟩
   have n0_ := Aside0.mk (blkB_ BK123.out hb)
   have n1_ := Aside0.mk (blkB_ BK124.out hb)
   have n2_ := Aside0.mk (bstep_ hb)
   clear BK123
   clear BK124
   clear HB
   have BK123 := n0_
   have BK124 := n1_
   have HB := n2_
   clear n0_ n1_ n2_
   (try clear hb)
   (try clear hb2)
   (try clear hk)
   (try clear hi)
   refine hK.out _ _ (blk_c9 BK123.out) (fun hHeld => ?_)
   clear hK K
   refine normS_ 15 ?_
   refine two_ (i := 4) (j := 10) (Ni := some 18) (Nj := some 8) #[true, true, true, true, true, true, true, true, true, false, false, false] #[true, true, true, true, false, true, true, true, true, false, true, false] rfl rfl rfl rfl (two_of HT_.out (by kernel_rfl)) (by decide) (by decide) (fun K hK => ?_) (fun K hK => ?_)
   ·skip
    refine goes_ Tryz.func7 (by kernel_rfl) rfl #[.int .u8 a0_7] (by rfl) rfl rfl (by (try simp only [List.map_toArray, List.map_cons, List.map_nil]); first | done | rfl | (simp only [List.length_drop, List.length_take]; rfl)) ?_
    with_reducible refine (memb_Kind.calls a0_7 t126 _ A5.out).mono ?_
    rintro e w12 ⟨rfl, hb⟩
    refine ⟨_, rfl, ?_⟩
    have n0_ := Aside0.mk (blkB_ BK123.out hb)
    have n1_ := Aside0.mk (blkB_ BK124.out hb)
    have n2_ := Aside0.mk (bstep_ hb)
    clear BK123
    clear BK124
    clear HB
    have BK123 := n0_
    have BK124 := n1_
    have HB := n2_
    clear n0_ n1_ n2_
    (try clear hb)
    (try clear hb2)
    (try clear hk)
    (try clear hi)
    refine hK.out _ _ (blk_c9 BK123.out) (fun hHeld => ?_)
    clear hK K
    refine normS_ 18 ?_
    refine pureS_ 9 23 ?_
    refine one_ (i := 10) (N := some 8) #[true, true, true, true, true, true, true, true, true, true, true, false] rfl rfl (one_of HT_.out (by kernel_rfl)) (by decide) (fun K hK => ?_)
    refine box_step ?hg (N := 8) ?hd (cs := #[.string (⟨#[]⟩ : ByteArray), .int .i64 0, .int .i64 0, .int .i64 0, .int .i64 0, .int .i64 0, .string (⟨#[]⟩ : ByteArray), .slice none 0 0]) (t := 38) ?hr ?_; (case hd => rfl); (case hg => rfl); (case hr => first | (go_simp; done) | (go_simp; rfl))
    intro gb127 hg w13 hbox hb
    have n0_ := Aside0.mk (blkB_ BK123.out hb)
    have n1_ := Aside0.mk (blkB_ BK124.out hb)
    have n2_ := Aside0.mk (bstep_ hb)
    have n3_ := Aside0.mk (hbox)
    have n4_ := Aside0.mk ((by rw [hg]; exact bsize_ : w.heap.size ≤ gb127))
    have n5_ := Aside0.mk ((by rw [hg]; exact bsize_ : w.heap.size ≤ gb127))
    have n6_ := Aside0.mk ((by rw [hg]; exact Nat.ne_of_lt (blkL_ BK123.out) : gb123 ≠ gb127))
    have n7_ := Aside0.mk ((by rw [hg]; exact Nat.ne_of_gt (blkL_ BK123.out) : gb127 ≠ gb123))
    have n8_ := Aside0.mk ((by rw [hg]; exact Nat.ne_of_lt (blkL_ BK124.out) : gb124 ≠ gb127))
    have n9_ := Aside0.mk ((by rw [hg]; exact Nat.ne_of_gt (blkL_ BK124.out) : gb127 ≠ gb124))
    clear BK123
    clear BK124
    clear HB
    have BK123 := n0_
    have BK124 := n1_
    have HB := n2_
    have BK127 := n3_
    have GW127 := n4_
    have GE127 := n5_
    have NB123_127 := n6_
    have NB127_123 := n7_
    have NB124_127 := n8_
    have NB127_124 := n9_
    clear n0_ n1_ n2_ n3_ n4_ n5_ n6_ n7_ n8_ n9_
    clear hb hbox hg
    refine hK.out _ _ (blk_c9 BK123.out) (fun hHeld => ?_)
    clear hK K
    refine normS_ 8 ?_
    exact norm_ (by simp only [putAll, Act.put, List.setIfInBounds_toArray, List.set_cons_zero, List.set_cons_succ]) (hCont (gb127) _ ⟨hHeld, (by (with_reducible repeat (first | refine blk_drewN ?_ _ | refine blk_drew ?_ | refine blk_alloc ?_ _)); exact BK123.out), (by (with_reducible repeat (first | refine blk_drewN ?_ _ | refine blk_drew ?_ | refine blk_alloc ?_ _)); exact BK124.out), (by (with_reducible repeat (first | refine blk_drewN ?_ _ | refine blk_drew ?_ | refine blk_alloc ?_ _)); exact BK127.out), GW127.out, GE127.out, NB123_127.out, NB127_123.out, NB124_127.out, NB127_124.out, belA_⟩)
   ·skip
    refine box_step ?hg (N := 8) ?hd (cs := #[.string (⟨#[]⟩ : ByteArray), .int .i64 0, .int .i64 0, .int .i64 0, .int .i64 0, .int .i64 0, .string (⟨#[]⟩ : ByteArray), .slice none 0 0]) (t := 38) ?hr ?_; (case hd => rfl); (case hg => rfl); (case hr => first | (go_simp; done) | (go_simp; rfl))
    intro gb127 hg w12 hbox hb
    have n0_ := Aside0.mk (blkB_ BK123.out hb)
    have n1_ := Aside0.mk (blkB_ BK124.out hb)
    have n2_ := Aside0.mk (bstep_ hb)
    have n3_ := Aside0.mk (hbox)
    have n4_ := Aside0.mk ((by rw [hg]; exact bsize_ : w.heap.size ≤ gb127))
    have n5_ := Aside0.mk ((by rw [hg]; exact bsize_ : w.heap.size ≤ gb127))
    have n6_ := Aside0.mk ((by rw [hg]; exact Nat.ne_of_lt (blkL_ BK123.out) : gb123 ≠ gb127))
    have n7_ := Aside0.mk ((by rw [hg]; exact Nat.ne_of_gt (blkL_ BK123.out) : gb127 ≠ gb123))
    have n8_ := Aside0.mk ((by rw [hg]; exact Nat.ne_of_lt (blkL_ BK124.out) : gb124 ≠ gb127))
    have n9_ := Aside0.mk ((by rw [hg]; exact Nat.ne_of_gt (blkL_ BK124.out) : gb127 ≠ gb124))
    clear BK123
    clear BK124
    clear HB
    have BK123 := n0_
    have BK124 := n1_
    have HB := n2_
    have BK127 := n3_
    have GW127 := n4_
    have GE127 := n5_
    have NB123_127 := n6_
    have NB127_123 := n7_
    have NB124_127 := n8_
    have NB127_124 := n9_
    clear n0_ n1_ n2_ n3_ n4_ n5_ n6_ n7_ n8_ n9_
    clear hb hbox hg
    refine hK.out _ _ (blk_c9 BK123.out) (fun hHeld => ?_)
    clear hK K
    refine normS_ 8 ?_
    refine one_ (i := 4) (N := some 18) #[true, true, true, true, true, true, true, true, true, false, true, false] rfl rfl (one_of HT_.out (by kernel_rfl)) (by decide) (fun K hK => ?_)
    refine goes_ Tryz.func7 (by kernel_rfl) rfl #[.int .u8 a0_7] (by rfl) rfl rfl (by (try simp only [List.map_toArray, List.map_cons, List.map_nil]); first | done | rfl | (simp only [List.length_drop, List.length_take]; rfl)) ?_
    with_reducible refine (memb_Kind.calls a0_7 t126 _ A5.out).mono ?_
    rintro e w13 ⟨rfl, hb⟩
    refine ⟨_, rfl, ?_⟩
    have n0_ := Aside0.mk (blkB_ BK123.out hb)
    have n1_ := Aside0.mk (blkB_ BK124.out hb)
    have n2_ := Aside0.mk (blkB_ BK127.out hb)
    have n3_ := Aside0.mk (bstep_ hb)
    clear BK123
    clear BK124
    clear BK127
    clear HB
    have BK123 := n0_
    have BK124 := n1_
    have BK127 := n2_
    have HB := n3_
    clear n0_ n1_ n2_ n3_
    (try clear hb)
    (try clear hb2)
    (try clear hk)
    (try clear hi)
    refine hK.out _ _ (blk_c9 BK123.out) (fun hHeld => ?_)
    clear hK K
    refine normS_ 18 ?_
    refine pureS_ 9 23 ?_
    exact norm_ (by simp only [putAll, Act.put, List.setIfInBounds_toArray, List.set_cons_zero, List.set_cons_succ]) (hCont (gb127) _ ⟨hHeld, (by (with_reducible repeat (first | refine blk_drewN ?_ _ | refine blk_drew ?_ | refine blk_alloc ?_ _)); exact BK123.out), (by (with_reducible repeat (first | refine blk_drewN ?_ _ | refine blk_drew ?_ | refine blk_alloc ?_ _)); exact BK124.out), (by (with_reducible repeat (first | refine blk_drewN ?_ _ | refine blk_drew ?_ | refine blk_alloc ?_ _)); exact BK127.out), GW127.out, GE127.out, NB123_127.out, NB127_123.out, NB124_127.out, NB127_124.out, belA_⟩)
  ·skip
   refine box_step ?hg (N := 8) ?hd (cs := #[.string (⟨#[]⟩ : ByteArray), .int .i64 0, .int .i64 0, .int .i64 0, .int .i64 0, .int .i64 0, .string (⟨#[]⟩ : ByteArray), .slice none 0 0]) (t := 38) ?hr ?_; (case hd => rfl); (case hg => rfl); (case hr => first | (go_simp; done) | (go_simp; rfl))
   intro gb127 hg w11 hbox hb
   have n0_ := Aside0.mk (blkB_ BK123.out hb)
   have n1_ := Aside0.mk (blkB_ BK124.out hb)
   have n2_ := Aside0.mk (bstep_ hb)
   have n3_ := Aside0.mk (hbox)
   have n4_ := Aside0.mk ((by rw [hg]; exact bsize_ : w.heap.size ≤ gb127))
   have n5_ := Aside0.mk ((by rw [hg]; exact bsize_ : w.heap.size ≤ gb127))
   have n6_ := Aside0.mk ((by rw [hg]; exact Nat.ne_of_lt (blkL_ BK123.out) : gb123 ≠ gb127))
   have n7_ := Aside0.mk ((by rw [hg]; exact Nat.ne_of_gt (blkL_ BK123.out) : gb127 ≠ gb123))
   have n8_ := Aside0.mk ((by rw [hg]; exact Nat.ne_of_lt (blkL_ BK124.out) : gb124 ≠ gb127))
   have n9_ := Aside0.mk ((by rw [hg]; exact Nat.ne_of_gt (blkL_ BK124.out) : gb127 ≠ gb124))
   clear BK123
   clear BK124
   clear HB
   have BK123 := n0_
   have BK124 := n1_
   have HB := n2_
   have BK127 := n3_
   have GW127 := n4_
   have GE127 := n5_
   have NB123_127 := n6_
   have NB127_123 := n7_
   have NB124_127 := n8_
   have NB127_124 := n9_
   clear n0_ n1_ n2_ n3_ n4_ n5_ n6_ n7_ n8_ n9_
   clear hb hbox hg
   refine hK.out _ _ (blk_c9 BK123.out) (fun hHeld => ?_)
   clear hK K
   refine normS_ 8 ?_
   refine one_ (i := 1) (N := some 15) #[true, true, true, true, false, true, true, true, true, false, true, false] rfl rfl (one_of HT_.out (by kernel_rfl)) (by decide) (fun K hK => ?_)
   refine goes_ Tryz.func21 (by kernel_rfl) rfl #[.agg #[.string a0_0, .string a0_1, .int .i64 a0_2, .int .i64 a0_3, .int .i64 a0_4, .int .i64 a0_5, .int .i64 a0_6, .int .u8 a0_7, .string a0_8]] (by rfl) rfl rfl (by (try simp only [List.map_toArray, List.map_cons, List.map_nil]); first | done | rfl | (simp only [List.length_drop, List.length_take]; rfl)) ?_
   with_reducible refine (head_Path.calls a0_0 a0_1 a0_2 a0_3 a0_4 a0_5 a0_6 a0_7 a0_8 t125 _ A4.out).mono ?_
   rintro e w12 ⟨rfl, hb⟩
   refine ⟨_, rfl, ?_⟩
   have n0_ := Aside0.mk (blkB_ BK123.out hb)
   have n1_ := Aside0.mk (blkB_ BK124.out hb)
   have n2_ := Aside0.mk (blkB_ BK127.out hb)
   have n3_ := Aside0.mk (bstep_ hb)
   clear BK123
   clear BK124
   clear BK127
   clear HB
   have BK123 := n0_
   have BK124 := n1_
   have BK127 := n2_
   have HB := n3_
   clear n0_ n1_ n2_ n3_
   (try clear hb)
   (try clear hb2)
   (try clear hk)
   (try clear hi)
   refine hK.out _ _ (blk_c9 BK123.out) (fun hHeld => ?_)
   clear hK K
   refine normS_ 15 ?_
   refine one_ (i := 4) (N := some 18) #[true, true, true, true, true, true, true, true, true, false, true, false] rfl rfl (one_of HT_.out (by kernel_rfl)) (by decide) (fun K hK => ?_)
   refine goes_ Tryz.func7 (by kernel_rfl) rfl #[.int .u8 a0_7] (by rfl) rfl rfl (by (try simp only [List.map_toArray, List.map_cons, List.map_nil]); first | done | rfl | (simp only [List.length_drop, List.length_take]; rfl)) ?_
   with_reducible refine (memb_Kind.calls a0_7 t126 _ A5.out).mono ?_
   rintro e w13 ⟨rfl, hb⟩
   refine ⟨_, rfl, ?_⟩
   have n0_ := Aside0.mk (blkB_ BK123.out hb)
   have n1_ := Aside0.mk (blkB_ BK124.out hb)
   have n2_ := Aside0.mk (blkB_ BK127.out hb)
   have n3_ := Aside0.mk (bstep_ hb)
   clear BK123
   clear BK124
   clear BK127
   clear HB
   have BK123 := n0_
   have BK124 := n1_
   have BK127 := n2_
   have HB := n3_
   clear n0_ n1_ n2_ n3_
   (try clear hb)
   (try clear hb2)
   (try clear hk)
   (try clear hi)
   refine hK.out _ _ (blk_c9 BK123.out) (fun hHeld => ?_)
   clear hK K
   refine normS_ 18 ?_
   refine pureS_ 9 23 ?_
   exact norm_ (by simp only [putAll, Act.put, List.setIfInBounds_toArray, List.set_cons_zero, List.set_cons_succ]) (hCont (gb127) _ ⟨hHeld, (by (with_reducible repeat (first | refine blk_drewN ?_ _ | refine blk_drew ?_ | refine blk_alloc ?_ _)); exact BK123.out), (by (with_reducible repeat (first | refine blk_drewN ?_ _ | refine blk_drew ?_ | refine blk_alloc ?_ _)); exact BK124.out), (by (with_reducible repeat (first | refine blk_drewN ?_ _ | refine blk_drew ?_ | refine blk_alloc ?_ _)); exact BK127.out), GW127.out, GE127.out, NB123_127.out, NB127_123.out, NB124_127.out, NB127_124.out, belA_⟩)
 rintro gb127 w14 ⟨hS_, h0_, h1_, h2_, h3_, h4_, h5_, h6_, h7_, h8_, h9_⟩
 have n0_ : Aside0 (w14.heap[gb123]? = some (.cells #[.string a0_0, .string a0_1, .int .i64 a0_2, .int .i64 a0_3, .int .i64 a0_4, .int .i64 a0_5, .int .i64 a0_6, .int .u8 a0_7, .string a0_8] 43 (0, 0))) := ⟨h0_⟩
 have n1_ : Aside0 (w14.heap[gb124]? = some (.cells #[.string (⟨#[]⟩ : ByteArray), .int .i64 0, .int .i64 0, .int .i64 0, .int .i64 0, .int .i64 0, .string (⟨#[]⟩ : ByteArray), .slice none 0 0] 38 (0, 0))) := ⟨h1_⟩
 have n2_ : Aside0 (w14.heap[gb127]? = some (.cells #[.string (⟨#[]⟩ : ByteArray), .int .i64 0, .int .i64 0, .int .i64 0, .int .i64 0, .int .i64 0, .string (⟨#[]⟩ : ByteArray), .slice none 0 0] 38 (0, 0))) := ⟨h2_⟩
 have n3_ : Aside0 (w.heap.size ≤ gb127) := ⟨h3_⟩
 have n4_ : Aside0 (w.heap.size ≤ gb127) := ⟨h4_⟩
 have n5_ : Aside0 (gb123 ≠ gb127) := ⟨h5_⟩
 have n6_ : Aside0 (gb127 ≠ gb123) := ⟨h6_⟩
 have n7_ : Aside0 (gb124 ≠ gb127) := ⟨h7_⟩
 have n8_ : Aside0 (gb127 ≠ gb124) := ⟨h8_⟩
 have n9_ : Aside0 (Below w.heap.size w w14) := ⟨h9_⟩
 clear BK123
 clear BK124
 clear HB
 clear h0_ h1_ h2_ h3_ h4_ h5_ h6_ h7_ h8_ h9_
 have BK123 := n0_
 have BK124 := n1_
 have BK127 := n2_
 have GW127 := n3_
 have GE127 := n4_
 have NB123_127 := n5_
 have NB127_123 := n6_
 have NB124_127 := n7_
 have NB127_124 := n8_
 have HB := n9_
 clear n0_ n1_ n2_ n3_ n4_ n5_ n6_ n7_ n8_ n9_
 have hHeld : w14.cell? ⟨gb123, 0, none⟩ = some (.string a0_0) ∧ w14.cell? ⟨gb123, 1, none⟩ = some (.string a0_1) ∧ w14.cell? ⟨gb123, 2, none⟩ = some (.int .i64 a0_2) ∧ w14.cell? ⟨gb123, 3, none⟩ = some (.int .i64 a0_3) ∧ w14.cell? ⟨gb123, 4, none⟩ = some (.int .i64 a0_4) ∧ w14.cell? ⟨gb123, 5, none⟩ = some (.int .i64 a0_5) ∧ w14.cell? ⟨gb123, 6, none⟩ = some (.int .i64 a0_6) ∧ w14.cell? ⟨gb123, 7, none⟩ = some (.int .u8 a0_7) ∧ w14.cell? ⟨gb123, 8, none⟩ = some (.string a0_8) := hS_
 refine norm_ (a' := ?_) ?_ ?_
 rotate_left
 ·simp only [putAll, Act.put, List.setIfInBounds_toArray, List.set_cons_zero, List.set_cons_succ]
  rfl
 refine one_ (i := 11) (N := none) #[true, true, true, true, true, true, true, true, true, true, true, true] rfl rfl (one_of HT_.out (by kernel_rfl)) (by decide) (fun K hK => ?_)
 have hs15 : w14.cell? ⟨gb127, 0, none⟩ = some (.string (⟨#[]⟩ : ByteArray)) := (blk_cell BK127.out 0).trans rfl
 have hfs15 := blk_frozen BK127.out 0
 have hns15_0 := NB123_127.out
 have hns15_1 := NB124_127.out
 have hms15_0 := NB127_123.out
 have hms15_1 := NB127_124.out
 have hs16 : w14.cell? ⟨gb127, 1, none⟩ = some (.int .i64 0) := (blk_cell BK127.out 1).trans rfl
 have hfs16 := blk_frozen BK127.out 1
 have hns16_0 := NB123_127.out
 have hns16_1 := NB124_127.out
 have hms16_0 := NB127_123.out
 have hms16_1 := NB127_124.out
 have hs17 : w14.cell? ⟨gb127, 2, none⟩ = some (.int .i64 0) := (blk_cell BK127.out 2).trans rfl
 have hfs17 := blk_frozen BK127.out 2
 have hns17_0 := NB123_127.out
 have hns17_1 := NB124_127.out
 have hms17_0 := NB127_123.out
 have hms17_1 := NB127_124.out
 have hs18 : w14.cell? ⟨gb127, 3, none⟩ = some (.int .i64 0) := (blk_cell BK127.out 3).trans rfl
 have hfs18 := blk_frozen BK127.out 3
 have hns18_0 := NB123_127.out
 have hns18_1 := NB124_127.out
 have hms18_0 := NB127_123.out
 have hms18_1 := NB127_124.out
 have hs19 : w14.cell? ⟨gb127, 4, none⟩ = some (.int .i64 0) := (blk_cell BK127.out 4).trans rfl
 have hfs19 := blk_frozen BK127.out 4
 have hns19_0 := NB123_127.out
 have hns19_1 := NB124_127.out
 have hms19_0 := NB127_123.out
 have hms19_1 := NB127_124.out
 have hs20 : w14.cell? ⟨gb127, 5, none⟩ = some (.int .i64 0) := (blk_cell BK127.out 5).trans rfl
 have hfs20 := blk_frozen BK127.out 5
 have hns20_0 := NB123_127.out
 have hns20_1 := NB124_127.out
 have hms20_0 := NB127_123.out
 have hms20_1 := NB127_124.out
 have hs21 : w14.cell? ⟨gb127, 6, none⟩ = some (.string (⟨#[]⟩ : ByteArray)) := (blk_cell BK127.out 6).trans rfl
 have hfs21 := blk_frozen BK127.out 6
 have hns21_0 := NB123_127.out
 have hns21_1 := NB124_127.out
 have hms21_0 := NB127_123.out
 have hms21_1 := NB127_124.out
 have hs22 : w14.cell? ⟨gb127, 7, none⟩ = some (.slice none 0 0) := (blk_cell BK127.out 7).trans rfl
 have hfs22 := blk_frozen BK127.out 7
 have hns22_0 := NB123_127.out
 have hns22_1 := NB124_127.out
 have hms22_0 := NB127_123.out
 have hms22_1 := NB127_124.out
 refine skip_ (w1 := ?_) (by rfl) rfl ?_ ?_
 rotate_left
 ·go_simp
  rfl
 refine hK.out _ _ ⟨((cell_far (p := ⟨gb127, _, none⟩) NB123_127.out _).trans (((cell_far (p := ⟨gb127, _, none⟩) NB123_127.out _).trans (((cell_far (p := ⟨gb127, _, none⟩) NB123_127.out _).trans (((cell_far (p := ⟨gb127, _, none⟩) NB123_127.out _).trans (((cell_far (p := ⟨gb127, _, none⟩) NB123_127.out _).trans (((cell_far (p := ⟨gb127, _, none⟩) NB123_127.out _).trans (((cell_far (p := ⟨gb127, _, none⟩) NB123_127.out _).trans (((cell_far (p := ⟨gb127, _, none⟩) NB123_127.out _).trans (hHeld.1)))))))))))))))), ((cell_far (p := ⟨gb127, _, none⟩) NB123_127.out _).trans (((cell_far (p := ⟨gb127, _, none⟩) NB123_127.out _).trans (((cell_far (p := ⟨gb127, _, none⟩) NB123_127.out _).trans (((cell_far (p := ⟨gb127, _, none⟩) NB123_127.out _).trans (((cell_far (p := ⟨gb127, _, none⟩) NB123_127.out _).trans (((cell_far (p := ⟨gb127, _, none⟩) NB123_127.out _).trans (((cell_far (p := ⟨gb127, _, none⟩) NB123_127.out _).trans (((cell_far (p := ⟨gb127, _, none⟩) NB123_127.out _).trans (hHeld.2.1)))))))))))))))), ((cell_far (p := ⟨gb127, _, none⟩) NB123_127.out _).trans (((cell_far (p := ⟨gb127, _, none⟩) NB123_127.out _).trans (((cell_far (p := ⟨gb127, _, none⟩) NB123_127.out _).trans (((cell_far (p := ⟨gb127, _, none⟩) NB123_127.out _).trans (((cell_far (p := ⟨gb127, _, none⟩) NB123_127.out _).trans (((cell_far (p := ⟨gb127, _, none⟩) NB123_127.out _).trans (((cell_far (p := ⟨gb127, _, none⟩) NB123_127.out _).trans (((cell_far (p := ⟨gb127, _, none⟩) NB123_127.out _).trans (hHeld.2.2.1)))))))))))))))), ((cell_far (p := ⟨gb127, _, none⟩) NB123_127.out _).trans (((cell_far (p := ⟨gb127, _, none⟩) NB123_127.out _).trans (((cell_far (p := ⟨gb127, _, none⟩) NB123_127.out _).trans (((cell_far (p := ⟨gb127, _, none⟩) NB123_127.out _).trans (((cell_far (p := ⟨gb127, _, none⟩) NB123_127.out _).trans (((cell_far (p := ⟨gb127, _, none⟩) NB123_127.out _).trans (((cell_far (p := ⟨gb127, _, none⟩) NB123_127.out _).trans (((cell_far (p := ⟨gb127, _, none⟩) NB123_127.out _).trans (hHeld.2.2.2.1)))))))))))))))), ((cell_far (p := ⟨gb127, _, none⟩) NB123_127.out _).trans (((cell_far (p := ⟨gb127, _, none⟩) NB123_127.out _).trans (((cell_far (p := ⟨gb127, _, none⟩) NB123_127.out _).trans (((cell_far (p := ⟨gb127, _, none⟩) NB123_127.out _).trans (((cell_far (p := ⟨gb127, _, none⟩) NB123_127.out _).trans (((cell_far (p := ⟨gb127, _, none⟩) NB123_127.out _).trans (((cell_far (p := ⟨gb127, _, none⟩) NB123_127.out _).trans (((cell_far (p := ⟨gb127, _, none⟩) NB123_127.out _).trans (hHeld.2.2.2.2.1)))))))))))))))), ((cell_far (p := ⟨gb127, _, none⟩) NB123_127.out _).trans (((cell_far (p := ⟨gb127, _, none⟩) NB123_127.out _).trans (((cell_far (p := ⟨gb127, _, none⟩) NB123_127.out _).trans (((cell_far (p := ⟨gb127, _, none⟩) NB123_127.out _).trans (((cell_far (p := ⟨gb127, _, none⟩) NB123_127.out _).trans (((cell_far (p := ⟨gb127, _, none⟩) NB123_127.out _).trans (((cell_far (p := ⟨gb127, _, none⟩) NB123_127.out _).trans (((cell_far (p := ⟨gb127, _, none⟩) NB123_127.out _).trans (hHeld.2.2.2.2.2.1)))))))))))))))), ((cell_far (p := ⟨gb127, _, none⟩) NB123_127.out _).trans (((cell_far (p := ⟨gb127, _, none⟩) NB123_127.out _).trans (((cell_far (p := ⟨gb127, _, none⟩) NB123_127.out _).trans (((cell_far (p := ⟨gb127, _, none⟩) NB123_127.out _).trans (((cell_far (p := ⟨gb127, _, none⟩) NB123_127.out _).trans (((cell_far (p := ⟨gb127, _, none⟩) NB123_127.out _).trans (((cell_far (p := ⟨gb127, _, none⟩) NB123_127.out _).trans (((cell_far (p := ⟨gb127, _, none⟩) NB123_127.out _).trans (hHeld.2.2.2.2.2.2.1)))))))))))))))), ((cell_far (p := ⟨gb127, _, none⟩) NB123_127.out _).trans (((cell_far (p := ⟨gb127, _, none⟩) NB123_127.out _).trans (((cell_far (p := ⟨gb127, _, none⟩) NB123_127.out _).trans (((cell_far (p := ⟨gb127, _, none⟩) NB123_127.out _).trans (((cell_far (p := ⟨gb127, _, none⟩) NB123_127.out _).trans (((cell_far (p := ⟨gb127, _, none⟩) NB123_127.out _).trans (((cell_far (p := ⟨gb127, _, none⟩) NB123_127.out _).trans (((cell_far (p := ⟨gb127, _, none⟩) NB123_127.out _).trans (hHeld.2.2.2.2.2.2.2.1)))))))))))))))), ((cell_far (p := ⟨gb127, _, none⟩) NB123_127.out _).trans (((cell_far (p := ⟨gb127, _, none⟩) NB123_127.out _).trans (((cell_far (p := ⟨gb127, _, none⟩) NB123_127.out _).trans (((cell_far (p := ⟨gb127, _, none⟩) NB123_127.out _).trans (((cell_far (p := ⟨gb127, _, none⟩) NB123_127.out _).trans (((cell_far (p := ⟨gb127, _, none⟩) NB123_127.out _).trans (((cell_far (p := ⟨gb127, _, none⟩) NB123_127.out _).trans (((cell_far (p := ⟨gb127, _, none⟩) NB123_127.out _).trans (hHeld.2.2.2.2.2.2.2.2))))))))))))))))⟩ (fun hHeld => ?_)
 clear hK K
 refine done_ (done_of HT_.out (by kernel_rfl)) ?_
 go_upto_if 29 with (first | ((with_reducible refine gate_callee (f := 22) rfl ?_); refine goesA_ (some 26) Tryz.func22 #[.slice A1 l1.length c1, .string (⟨#[112, 97, 116, 104]⟩ : ByteArray)] ?_; (with_reducible refine (recs_Find.calls _ _ l1 (⟨#[112, 97, 116, 104]⟩ : ByteArray) t128 t129 _ ?side1 ?side2 A6.out).mono ?_); (case side1 => exact Kd.C_below HR1.out belA_); (case side2 => exact HC1.out); rintro e w23 ⟨rfl, hb⟩; refine ⟨_, rfl, ?_⟩; have n0_ := Aside0.mk (blk_below (g := gb123) (o := .cells #[.string a0_0, .string a0_1, .int .i64 a0_2, .int .i64 a0_3, .int .i64 a0_4, .int .i64 a0_5, .int .i64 a0_6, .int .u8 a0_7, .string a0_8] 43 (0, 0)) (by (with_reducible repeat (first | refine blk_drewN ?_ _ | refine blk_drew ?_ | refine blk_alloc ?_ _)); refine blk_far ?_ NB123_127.out _; (with_reducible repeat (first | refine blk_drewN ?_ _ | refine blk_drew ?_ | refine blk_alloc ?_ _)); refine blk_far ?_ NB123_127.out _; (with_reducible repeat (first | refine blk_drewN ?_ _ | refine blk_drew ?_ | refine blk_alloc ?_ _)); refine blk_far ?_ NB123_127.out _; (with_reducible repeat (first | refine blk_drewN ?_ _ | refine blk_drew ?_ | refine blk_alloc ?_ _)); refine blk_far ?_ NB123_127.out _; (with_reducible repeat (first | refine blk_drewN ?_ _ | refine blk_drew ?_ | refine blk_alloc ?_ _)); refine blk_far ?_ NB123_127.out _; (with_reducible repeat (first | refine blk_drewN ?_ _ | refine blk_drew ?_ | refine blk_alloc ?_ _)); refine blk_far ?_ NB123_127.out _; (with_reducible repeat (first | refine blk_drewN ?_ _ | refine blk_drew ?_ | refine blk_alloc ?_ _)); refine blk_far ?_ NB123_127.out _; (with_reducible repeat (first | refine blk_drewN ?_ _ | refine blk_drew ?_ | refine blk_alloc ?_ _)); refine blk_far ?_ NB123_127.out _; (with_reducible repeat (first | refine blk_drewN ?_ _ | refine blk_drew ?_ | refine blk_alloc ?_ _)); exact BK123.out) hb); have n1_ := Aside0.mk (blk_below (g := gb124) (o := .cells #[.string (⟨#[]⟩ : ByteArray), .int .i64 0, .int .i64 0, .int .i64 0, .int .i64 0, .int .i64 0, .string (⟨#[]⟩ : ByteArray), .slice none 0 0] 38 (0, 0)) (by (with_reducible repeat (first | refine blk_drewN ?_ _ | refine blk_drew ?_ | refine blk_alloc ?_ _)); refine blk_far ?_ NB124_127.out _; (with_reducible repeat (first | refine blk_drewN ?_ _ | refine blk_drew ?_ | refine blk_alloc ?_ _)); refine blk_far ?_ NB124_127.out _; (with_reducible repeat (first | refine blk_drewN ?_ _ | refine blk_drew ?_ | refine blk_alloc ?_ _)); refine blk_far ?_ NB124_127.out _; (with_reducible repeat (first | refine blk_drewN ?_ _ | refine blk_drew ?_ | refine blk_alloc ?_ _)); refine blk_far ?_ NB124_127.out _; (with_reducible repeat (first | refine blk_drewN ?_ _ | refine blk_drew ?_ | refine blk_alloc ?_ _)); refine blk_far ?_ NB124_127.out _; (with_reducible repeat (first | refine blk_drewN ?_ _ | refine blk_drew ?_ | refine blk_alloc ?_ _)); refine blk_far ?_ NB124_127.out _; (with_reducible repeat (first | refine blk_drewN ?_ _ | refine blk_drew ?_ | refine blk_alloc ?_ _)); refine blk_far ?_ NB124_127.out _; (with_reducible repeat (first | refine blk_drewN ?_ _ | refine blk_drew ?_ | refine blk_alloc ?_ _)); refine blk_far ?_ NB124_127.out _; (with_reducible repeat (first | refine blk_drewN ?_ _ | refine blk_drew ?_ | refine blk_alloc ?_ _)); exact BK124.out) hb); have n2_ := Aside0.mk (blk_below (g := gb127) (o := .cells #[.string t125, .int .i64 t126, .int .i64 a0_2, .int .i64 a0_3, .int .i64 a0_4, .int .i64 a0_5, .string a0_8, .slice none 0 0] 38 (0, 0)) (by (with_reducible repeat (first | refine blk_drewN ?_ _ | refine blk_drew ?_ | refine blk_alloc ?_ _)); refine blk_put (cs := #[.string t125, .int .i64 t126, .int .i64 a0_2, .int .i64 a0_3, .int .i64 a0_4, .int .i64 a0_5, .string a0_8, .slice none 0 0]) ?_ 7 _ rfl; (with_reducible repeat (first | refine blk_drewN ?_ _ | refine blk_drew ?_ | refine blk_alloc ?_ _)); refine blk_put (cs := #[.string t125, .int .i64 t126, .int .i64 a0_2, .int .i64 a0_3, .int .i64 a0_4, .int .i64 a0_5, .string (⟨#[]⟩ : ByteArray), .slice none 0 0]) ?_ 6 _ rfl; (with_reducible repeat (first | refine blk_drewN ?_ _ | refine blk_drew ?_ | refine blk_alloc ?_ _)); refine blk_put (cs := #[.string t125, .int .i64 t126, .int .i64 a0_2, .int .i64 a0_3, .int .i64 a0_4, .int .i64 0, .string (⟨#[]⟩ : ByteArray), .slice none 0 0]) ?_ 5 _ rfl; (with_reducible repeat (first | refine blk_drewN ?_ _ | refine blk_drew ?_ | refine blk_alloc ?_ _)); refine blk_put (cs := #[.string t125, .int .i64 t126, .int .i64 a0_2, .int .i64 a0_3, .int .i64 0, .int .i64 0, .string (⟨#[]⟩ : ByteArray), .slice none 0 0]) ?_ 4 _ rfl; (with_reducible repeat (first | refine blk_drewN ?_ _ | refine blk_drew ?_ | refine blk_alloc ?_ _)); refine blk_put (cs := #[.string t125, .int .i64 t126, .int .i64 a0_2, .int .i64 0, .int .i64 0, .int .i64 0, .string (⟨#[]⟩ : ByteArray), .slice none 0 0]) ?_ 3 _ rfl; (with_reducible repeat (first | refine blk_drewN ?_ _ | refine blk_drew ?_ | refine blk_alloc ?_ _)); refine blk_put (cs := #[.string t125, .int .i64 t126, .int .i64 0, .int .i64 0, .int .i64 0, .int .i64 0, .string (⟨#[]⟩ : ByteArray), .slice none 0 0]) ?_ 2 _ rfl; (with_reducible repeat (first | refine blk_drewN ?_ _ | refine blk_drew ?_ | refine blk_alloc ?_ _)); refine blk_put (cs := #[.string t125, .int .i64 0, .int .i64 0, .int .i64 0, .int .i64 0, .int .i64 0, .string (⟨#[]⟩ : ByteArray), .slice none 0 0]) ?_ 1 _ rfl; (with_reducible repeat (first | refine blk_drewN ?_ _ | refine blk_drew ?_ | refine blk_alloc ?_ _)); refine blk_put (cs := #[.string (⟨#[]⟩ : ByteArray), .int .i64 0, .int .i64 0, .int .i64 0, .int .i64 0, .int .i64 0, .string (⟨#[]⟩ : ByteArray), .slice none 0 0]) ?_ 0 _ rfl; (with_reducible repeat (first | refine blk_drewN ?_ _ | refine blk_drew ?_ | refine blk_alloc ?_ _)); exact BK127.out) hb); have n3_ := Aside0.mk (bstep_ hb); clear BK123; clear BK124; clear BK127; clear HB; have BK123 := n0_; have BK124 := n1_; have BK127 := n2_; have HB := n3_; clear n0_ n1_ n2_ n3_; (try clear hb); (try clear hb2); (try clear hk); (try clear hi)))
 (try simp only [Act.put, List.setIfInBounds_toArray, List.set_cons_zero, List.set_cons_succ])
 go_cut [] (fun wc => ∃ (kq : Nat) (x128000_6 : ByteArray), Aside0 (memb_From.j0 kq l1 l2 x128000_6 t126 a0_2 a0_3 a0_4 a0_5 a0_8 = some (r1, r2, r3, r4, r5, r6, r7, r8, r9)) ∧ Aside0 (kq ≤ k) ∧ Aside0 (wc.heap[gb123]? = some (.cells #[.string a0_0, .string a0_1, .int .i64 a0_2, .int .i64 a0_3, .int .i64 a0_4, .int .i64 a0_5, .int .i64 a0_6, .int .u8 a0_7, .string a0_8] 43 (0, 0))) ∧ Aside0 (wc.heap[gb124]? = some (.cells #[.string (⟨#[]⟩ : ByteArray), .int .i64 0, .int .i64 0, .int .i64 0, .int .i64 0, .int .i64 0, .string (⟨#[]⟩ : ByteArray), (.slice none 0 0)] 38 (0, 0))) ∧ Aside0 (wc.heap[gb127]? = some (.cells #[.string x128000_6, .int .i64 t126, .int .i64 a0_2, .int .i64 a0_3, .int .i64 a0_4, .int .i64 a0_5, .string a0_8, (.slice none 0 0)] 38 (0, 0))) ∧ Aside0 (Below w.heap.size w wc))
 case first =>
  have H := HC7.out
  clear HC7
  by_cases c24 : t129 = true
  ·subst c24
   have H1 := H; rw [if_pos rfl] at H1
   clear H
   have H := H1
   clear H1
   have H' := Aside0.mk H
   clear H
   have hnb25 := NB127_123.out
   have hnc25 := NB123_127.out
   have hnb26 := NB127_124.out
   have hnc26 := NB124_127.out
   obtain ⟨hcz27_0, hcz27_1, hcz27_2, hcz27_3, hcz27_4, hcz27_5, hcz27_6, hcz27_7, hfz27_0, hfz27_1, hfz27_2, hfz27_3, hfz27_4, hfz27_5, hfz27_6, hfz27_7⟩ := blk_all8 BK127.out
   go_wp2
   go_meet
   case rel => exact ⟨_, (t128), H', ⟨by first | omega | exact Nat.le_refl _⟩, ⟨by (with_reducible repeat (first | refine blk_drewN ?_ _ | refine blk_drew ?_ | refine blk_alloc ?_ _)); refine blk_far ?_ NB123_127.out _; (with_reducible repeat (first | refine blk_drewN ?_ _ | refine blk_drew ?_ | refine blk_alloc ?_ _)); exact BK123.out⟩, ⟨by (with_reducible repeat (first | refine blk_drewN ?_ _ | refine blk_drew ?_ | refine blk_alloc ?_ _)); refine blk_far ?_ NB124_127.out _; (with_reducible repeat (first | refine blk_drewN ?_ _ | refine blk_drew ?_ | refine blk_alloc ?_ _)); exact BK124.out⟩, ⟨by (with_reducible repeat (first | refine blk_drewN ?_ _ | refine blk_drew ?_ | refine blk_alloc ?_ _)); refine blk_put (cs := #[.string t125, .int .i64 t126, .int .i64 a0_2, .int .i64 a0_3, .int .i64 a0_4, .int .i64 a0_5, .string a0_8, .slice none 0 0]) ?_ 0 _ rfl; (with_reducible repeat (first | refine blk_drewN ?_ _ | refine blk_drew ?_ | refine blk_alloc ?_ _)); exact BK127.out⟩, ⟨by repeat (first | (with_reducible first | exact HB.out | apply below_alloc | apply pw_below_drewN | apply below_drew1 | refine below_set ?_ GE123.out | refine below_set ?_ GE124.out | refine below_set ?_ GE127.out) | exact HB.out)⟩⟩
  ·replace c24 := Bool.eq_false_iff.mpr c24
   subst c24
   have H1 := H; rw [if_neg (show ¬ (false = true) by decide)] at H1
   clear H
   have H := H1
   clear H1
   have H' := Aside0.mk H
   clear H
   go_wp2
   go_meet
   case rel => exact ⟨_, (t125), H', ⟨by first | omega | exact Nat.le_refl _⟩, ⟨by (with_reducible repeat (first | refine blk_drewN ?_ _ | refine blk_drew ?_ | refine blk_alloc ?_ _)); exact BK123.out⟩, ⟨by (with_reducible repeat (first | refine blk_drewN ?_ _ | refine blk_drew ?_ | refine blk_alloc ?_ _)); exact BK124.out⟩, ⟨by (with_reducible repeat (first | refine blk_drewN ?_ _ | refine blk_drew ?_ | refine blk_alloc ?_ _)); exact BK127.out⟩, ⟨by repeat (first | (with_reducible first | exact HB.out | apply below_alloc | apply pw_below_drewN | apply below_drew1 | refine below_set ?_ GE123.out | refine below_set ?_ GE124.out | refine below_set ?_ GE127.out) | exact HB.out)⟩⟩
 case rest =>
  clear HC7
  try clear c1
  try clear c2
  try clear p2
  try clear c7
  try clear c11
  try clear c21
  try clear c22
  try clear c24
  try clear c25
  try clear c26
  try clear hcz27_0
  try clear hcz27_1
  try clear hcz27_2
  try clear hcz27_3
  try clear hcz27_4
  try clear hcz27_5
  try clear hcz27_6
  try clear hcz27_7
  try clear hfz27_0
  try clear hfz27_1
  try clear hfz27_2
  try clear hfz27_3
  try clear hfz27_4
  try clear hfz27_5
  try clear hfz27_6
  try clear hfz27_7
  obtain ⟨kq, x128000_6, HA, HJ6, BK123, BK124, BK127, HB⟩ := hcut
  cases kq with
  | zero => exact absurd HA.out (by simp [memb_From.j0])
  | succ kj6 =>
   have H := HA.out
   clear HA
   simp only [memb_From.j0] at H
   replace H := Option.bind_eq_some_iff.mp H
   obtain ⟨⟨t130, t131⟩, A280, H⟩ := H
   try dsimp only at H
   have A28 := Aside0.mk A280
   clear A280
   have HC29 := Aside0.mk H
   clear H
   go_upto_if 37 with (first | ((with_reducible refine gate_callee (f := 22) rfl ?_); refine goesA_ (some 34) Tryz.func22 #[.slice A1 l1.length c1, .string (⟨#[108, 105, 110, 107, 112, 97, 116, 104]⟩ : ByteArray)] ?_; (with_reducible refine (recs_Find.calls _ _ l1 (⟨#[108, 105, 110, 107, 112, 97, 116, 104]⟩ : ByteArray) t130 t131 _ ?side1 ?side2 A28.out).mono ?_); (case side1 => repeat (first | exact (Kd.C_below HR1.out HB.out) | (with_reducible refine Kd.C_alloc ?_ _) | (with_reducible refine Kd.C_drewN ?_ _) | (with_reducible refine Kd.C_drew ?_))); (case side2 => exact HC1.out); rintro e w30 ⟨rfl, hb⟩; refine ⟨_, rfl, ?_⟩; have n0_ := Aside0.mk (blkB_ BK123.out hb); have n1_ := Aside0.mk (blkB_ BK124.out hb); have n2_ := Aside0.mk (blkB_ BK127.out hb); have n3_ := Aside0.mk (bstep_ hb); clear BK123; clear BK124; clear BK127; clear HB; have BK123 := n0_; have BK124 := n1_; have BK127 := n2_; have HB := n3_; clear n0_ n1_ n2_ n3_; (try clear hb); (try clear hb2); (try clear hk); (try clear hi)))
   (try simp only [Act.put, List.setIfInBounds_toArray, List.set_cons_zero, List.set_cons_succ])
   go_cut [] (fun wc => ∃ (kq : Nat) (x128006_28 : ByteArray), Aside0 (memb_From.j1 kq l2 x128000_6 t126 a0_2 a0_3 a0_4 a0_5 x128006_28 = some (r1, r2, r3, r4, r5, r6, r7, r8, r9)) ∧ Aside0 (kq ≤ kj6) ∧ Aside0 (wc.heap[gb123]? = some (.cells #[.string a0_0, .string a0_1, .int .i64 a0_2, .int .i64 a0_3, .int .i64 a0_4, .int .i64 a0_5, .int .i64 a0_6, .int .u8 a0_7, .string a0_8] 43 (0, 0))) ∧ Aside0 (wc.heap[gb124]? = some (.cells #[.string (⟨#[]⟩ : ByteArray), .int .i64 0, .int .i64 0, .int .i64 0, .int .i64 0, .int .i64 0, .string (⟨#[]⟩ : ByteArray), (.slice none 0 0)] 38 (0, 0))) ∧ Aside0 (wc.heap[gb127]? = some (.cells #[.string x128000_6, .int .i64 t126, .int .i64 a0_2, .int .i64 a0_3, .int .i64 a0_4, .int .i64 a0_5, .string x128006_28, (.slice none 0 0)] 38 (0, 0))) ∧ Aside0 (Below w.heap.size w wc))
   case first =>
    have H := HC29.out
    clear HC29
    by_cases c31 : t131 = true
    ·subst c31
     have H1 := H; rw [if_pos rfl] at H1
     clear H
     have H := H1
     clear H1
     have H' := Aside0.mk H
     clear H
     have hnb32 := NB127_123.out
     have hnc32 := NB123_127.out
     have hnb33 := NB127_124.out
     have hnc33 := NB124_127.out
     obtain ⟨hcz34_0, hcz34_1, hcz34_2, hcz34_3, hcz34_4, hcz34_5, hcz34_6, hcz34_7, hfz34_0, hfz34_1, hfz34_2, hfz34_3, hfz34_4, hfz34_5, hfz34_6, hfz34_7⟩ := blk_all8 BK127.out
     go_wp2
     go_meet
     case rel => exact ⟨_, (t130), H', ⟨by have := HJ6.out; first | omega | exact Nat.le_refl _⟩, ⟨by (with_reducible repeat (first | refine blk_drewN ?_ _ | refine blk_drew ?_ | refine blk_alloc ?_ _)); refine blk_far ?_ NB123_127.out _; (with_reducible repeat (first | refine blk_drewN ?_ _ | refine blk_drew ?_ | refine blk_alloc ?_ _)); exact BK123.out⟩, ⟨by (with_reducible repeat (first | refine blk_drewN ?_ _ | refine blk_drew ?_ | refine blk_alloc ?_ _)); refine blk_far ?_ NB124_127.out _; (with_reducible repeat (first | refine blk_drewN ?_ _ | refine blk_drew ?_ | refine blk_alloc ?_ _)); exact BK124.out⟩, ⟨by (with_reducible repeat (first | refine blk_drewN ?_ _ | refine blk_drew ?_ | refine blk_alloc ?_ _)); refine blk_put (cs := #[.string x128000_6, .int .i64 t126, .int .i64 a0_2, .int .i64 a0_3, .int .i64 a0_4, .int .i64 a0_5, .string a0_8, .slice none 0 0]) ?_ 6 _ rfl; (with_reducible repeat (first | refine blk_drewN ?_ _ | refine blk_drew ?_ | refine blk_alloc ?_ _)); exact BK127.out⟩, ⟨by repeat (first | (with_reducible first | exact HB.out | apply below_alloc | apply pw_below_drewN | apply below_drew1 | refine below_set ?_ GE123.out | refine below_set ?_ GE124.out | refine below_set ?_ GE127.out) | exact HB.out)⟩⟩
    ·replace c31 := Bool.eq_false_iff.mpr c31
     subst c31
     have H1 := H; rw [if_neg (show ¬ (false = true) by decide)] at H1
     clear H
     have H := H1
     clear H1
     have H' := Aside0.mk H
     clear H
     go_wp2
     go_meet
     case rel => exact ⟨_, (a0_8), H', ⟨by have := HJ6.out; first | omega | exact Nat.le_refl _⟩, ⟨by (with_reducible repeat (first | refine blk_drewN ?_ _ | refine blk_drew ?_ | refine blk_alloc ?_ _)); exact BK123.out⟩, ⟨by (with_reducible repeat (first | refine blk_drewN ?_ _ | refine blk_drew ?_ | refine blk_alloc ?_ _)); exact BK124.out⟩, ⟨by (with_reducible repeat (first | refine blk_drewN ?_ _ | refine blk_drew ?_ | refine blk_alloc ?_ _)); exact BK127.out⟩, ⟨by repeat (first | (with_reducible first | exact HB.out | apply below_alloc | apply pw_below_drewN | apply below_drew1 | refine below_set ?_ GE123.out | refine below_set ?_ GE124.out | refine below_set ?_ GE127.out) | exact HB.out)⟩⟩
   case rest =>
    clear HC29
    try clear c1
    try clear c2
    try clear p2
    try clear c3
    try clear c7
    try clear c11
    try clear c21
    try clear c22
    try clear c24
    try clear c25
    try clear c26
    try clear c31
    try clear c32
    try clear c33
    try clear hcz27_0
    try clear hcz27_1
    try clear hcz27_2
    try clear hcz27_3
    try clear hcz27_4
    try clear hcz27_5
    try clear hcz27_6
    try clear hcz27_7
    try clear hcz34_0
    try clear hcz34_1
    try clear hcz34_2
    try clear hcz34_3
    try clear hcz34_4
    try clear hcz34_5
    try clear hcz34_6
    try clear hcz34_7
    try clear hfz27_0
    try clear hfz27_1
    try clear hfz27_2
    try clear hfz27_3
    try clear hfz27_4
    try clear hfz27_5
    try clear hfz27_6
    try clear hfz27_7
    try clear hfz34_0
    try clear hfz34_1
    try clear hfz34_2
    try clear hfz34_3
    try clear hfz34_4
    try clear hfz34_5
    try clear hfz34_6
    try clear hfz34_7
    try clear p2
    obtain ⟨kq, x128006_28, HA, HJ28, BK123, BK124, BK127, HB⟩ := hcut
    cases kq with
    | zero => exact absurd HA.out (by simp [memb_From.j1])
    | succ kj28 =>
     have H := HA.out
     clear HA
     simp only [memb_From.j1] at H
     by_cases c35 : t126 = 0
     ·rw [if_pos c35] at H
      have c35b0 : (t126 == 0) = true := beq_iff_eq.mpr c35
      have c35b1 : (t126 != 0) = false := bne_eq_false_iff_eq.mpr c35
      clear c35
      simp only [Option.some.injEq, Prod.mk.injEq] at H
      obtain ⟨rfl, rfl, rfl, rfl, rfl, rfl, rfl, rfl, rfl⟩ := H
      have hnb36 := NB127_123.out
      have hnc36 := NB123_127.out
      have hnb37 := NB127_124.out
      have hnc37 := NB124_127.out
      obtain ⟨hcz38_0, hcz38_1, hcz38_2, hcz38_3, hcz38_4, hcz38_5, hcz38_6, hcz38_7, hfz38_0, hfz38_1, hfz38_2, hfz38_3, hfz38_4, hfz38_5, hfz38_6, hfz38_7⟩ := blk_all8 BK127.out
      have hnb39 := NB124_123.out
      have hnc39 := NB123_124.out
      obtain ⟨hcz40_0, hcz40_1, hcz40_2, hcz40_3, hcz40_4, hcz40_5, hcz40_6, hcz40_7, hfz40_0, hfz40_1, hfz40_2, hfz40_3, hfz40_4, hfz40_5, hfz40_6, hfz40_7⟩ := blk_all8 BK124.out
      go_wp2
      refine bodyPost_ret (results_ct rfl _ _ gb124 38 #[.string (⟨#[]⟩ : ByteArray), .int .i64 0, .int .i64 0, .int .i64 0, .int .i64 0, .int .i64 0, .string (⟨#[]⟩ : ByteArray), .slice none 0 0] (0, 0) _ rfl (by (with_reducible repeat (first | refine blk_drewN ?_ _ | refine blk_drew ?_ | refine blk_alloc ?_ _)); refine blk_put (cs := #[.string (⟨#[]⟩ : ByteArray), .int .i64 0, .int .i64 0, .int .i64 0, .int .i64 0, .int .i64 0, .string (⟨#[]⟩ : ByteArray), .slice none 0 0]) ?_ 7 _ rfl; (with_reducible repeat (first | refine blk_drewN ?_ _ | refine blk_drew ?_ | refine blk_alloc ?_ _)); refine blk_put (cs := #[.string (⟨#[]⟩ : ByteArray), .int .i64 0, .int .i64 0, .int .i64 0, .int .i64 0, .int .i64 0, .string (⟨#[]⟩ : ByteArray), .slice none 0 0]) ?_ 6 _ rfl; (with_reducible repeat (first | refine blk_drewN ?_ _ | refine blk_drew ?_ | refine blk_alloc ?_ _)); refine blk_put (cs := #[.string (⟨#[]⟩ : ByteArray), .int .i64 0, .int .i64 0, .int .i64 0, .int .i64 0, .int .i64 0, .string (⟨#[]⟩ : ByteArray), .slice none 0 0]) ?_ 5 _ rfl; (with_reducible repeat (first | refine blk_drewN ?_ _ | refine blk_drew ?_ | refine blk_alloc ?_ _)); refine blk_put (cs := #[.string (⟨#[]⟩ : ByteArray), .int .i64 0, .int .i64 0, .int .i64 0, .int .i64 0, .int .i64 0, .string (⟨#[]⟩ : ByteArray), .slice none 0 0]) ?_ 4 _ rfl; (with_reducible repeat (first | refine blk_drewN ?_ _ | refine blk_drew ?_ | refine blk_alloc ?_ _)); refine blk_put (cs := #[.string (⟨#[]⟩ : ByteArray), .int .i64 0, .int .i64 0, .int .i64 0, .int .i64 0, .int .i64 0, .string (⟨#[]⟩ : ByteArray), .slice none 0 0]) ?_ 3 _ rfl; (with_reducible repeat (first | refine blk_drewN ?_ _ | refine blk_drew ?_ | refine blk_alloc ?_ _)); refine blk_put (cs := #[.string (⟨#[]⟩ : ByteArray), .int .i64 0, .int .i64 0, .int .i64 0, .int .i64 0, .int .i64 0, .string (⟨#[]⟩ : ByteArray), .slice none 0 0]) ?_ 2 _ rfl; (with_reducible repeat (first | refine blk_drewN ?_ _ | refine blk_drew ?_ | refine blk_alloc ?_ _)); refine blk_put (cs := #[.string (⟨#[]⟩ : ByteArray), .int .i64 0, .int .i64 0, .int .i64 0, .int .i64 0, .int .i64 0, .string (⟨#[]⟩ : ByteArray), .slice none 0 0]) ?_ 1 _ rfl; (with_reducible repeat (first | refine blk_drewN ?_ _ | refine blk_drew ?_ | refine blk_alloc ?_ _)); refine blk_put (cs := #[.string (⟨#[]⟩ : ByteArray), .int .i64 0, .int .i64 0, .int .i64 0, .int .i64 0, .int .i64 0, .string (⟨#[]⟩ : ByteArray), .slice none 0 0]) ?_ 0 _ rfl; (with_reducible repeat (first | refine blk_drewN ?_ _ | refine blk_drew ?_ | refine blk_alloc ?_ _)); exact BK124.out) Tryz.underlying38 rfl (by kernel_rfl)) rfl ?_
      exact ⟨_, by first | rfl | (simp [errW_none, errW_some] <;> rfl) | (simp [*, errW_none, errW_some] <;> rfl), by first | exact Kd.R_nil _ _ _ _ _ | exact Kd.N_nil _ _ _ _ _ | exact Kd.V_nil _ _ _ _ _ | exact Kd.Q_nil _ _ _ _ _ | exact Kd.S_nil _ _ _ _ _, by repeat (first | (with_reducible first | exact HB.out | apply below_alloc | apply pw_below_drewN | apply below_drew1 | refine below_set ?_ GE123.out | refine below_set ?_ GE124.out | refine below_set ?_ GE127.out) | exact HB.out)⟩
     ·rw [if_neg c35] at H
      have c35b0 : (t126 == 0) = false := beq_eq_false_iff_ne.mpr c35
      have c35b1 : (t126 != 0) = true := bne_iff_ne.mpr c35
      by_cases c41 : t126 = 1
      ·rw [if_pos c41] at H
       have c41b0 : (t126 == 1) = true := beq_iff_eq.mpr c41
       have c41b1 : (t126 != 1) = false := bne_eq_false_iff_eq.mpr c41
       clear c41
       replace H := Option.bind_eq_some_iff.mp H
       obtain ⟨t134, A420, H⟩ := H
       try dsimp only at H
       have A42 := Aside0.mk A420
       clear A420
       replace H := Option.bind_eq_some_iff.mp H
       obtain ⟨t137, A430, H⟩ := H
       try dsimp only at H
       have A43 := Aside0.mk A430
       clear A430
       by_cases c44 : t137 = 0
       ·rw [if_pos c44] at H
        have c44b0 : (t137 == 0) = true := beq_iff_eq.mpr c44
        have c44b1 : (t137 != 0) = false := bne_eq_false_iff_eq.mpr c44
        clear c44
        simp only [Option.some.injEq, Prod.mk.injEq] at H
        obtain ⟨rfl, rfl, rfl, rfl, rfl, rfl, rfl, rfl, rfl⟩ := H
        have hnb45 := NB127_123.out
        have hnc45 := NB123_127.out
        have hnb46 := NB127_124.out
        have hnc46 := NB124_127.out
        obtain ⟨hcz47_0, hcz47_1, hcz47_2, hcz47_3, hcz47_4, hcz47_5, hcz47_6, hcz47_7, hfz47_0, hfz47_1, hfz47_2, hfz47_3, hfz47_4, hfz47_5, hfz47_6, hfz47_7⟩ := blk_all8 BK127.out
        go_wp2_with (first | ((with_reducible refine gate_callee (f := 23) rfl ?_); refine goesA_ (some 50) Tryz.func23 #[.slice A2 l2.length c2] ?_; (with_reducible refine (bytes_Clone.calls _ _ l2 t134 _ ?side1 ?side2 A42.out).mono ?_); (case side1 => repeat (first | exact (Kd.C_below HR2.out HB.out) | (with_reducible refine Kd.C_alloc ?_ _) | (with_reducible refine Kd.C_drewN ?_ _) | (with_reducible refine Kd.C_drew ?_))); (case side2 => exact HC2.out); rintro e w48 ⟨v135, rfl, ho0, hb⟩; refine ⟨_, rfl, ?_⟩; have n0_ := Aside0.mk (Kd.R_lower ho0 bsize_); have n1_ := Aside0.mk (blkB_ BK123.out hb); have n2_ := Aside0.mk (blkB_ BK124.out hb); have n3_ := Aside0.mk (blkB_ BK127.out hb); have n4_ := Aside0.mk (bstep_ hb); clear BK123; clear BK124; clear BK127; clear HB; have HO136 := n0_; have BK123 := n1_; have BK124 := n2_; have BK127 := n3_; have HB := n4_; clear n0_ n1_ n2_ n3_ n4_; (try clear hb); (try clear hb2); (try clear hk); (try clear hi); (try clear ho0); obtain ⟨Ao49, co49, eo49⟩ := Kd.R_slice HO136.out; subst eo49; obtain ⟨hcz50_0, hcz50_1, hcz50_2, hcz50_3, hcz50_4, hcz50_5, hcz50_6, hcz50_7, hfz50_0, hfz50_1, hfz50_2, hfz50_3, hfz50_4, hfz50_5, hfz50_6, hfz50_7⟩ := blk_all8 BK127.out) | ((with_reducible refine gate_callee (f := 24) rfl ?_); refine goesL_ (some 54) rfl rfl Tryz.func24 (by kernel_rfl) rfl #[.agg #[.string x128000_6, .int .i64 t126, .int .i64 a0_2, .int .i64 a0_3, .int .i64 a0_4, .int .i64 a0_5, .string (⟨#[]⟩ : ByteArray), .slice Ao49 t134.length co49]] rfl (by (try simp only [List.map_toArray, List.map_cons, List.map_nil]); first | done | rfl | (simp only [List.length_drop, List.length_take]; rfl)) ?_; (with_reducible refine (memb_May.calls x128000_6 t126 a0_2 a0_3 a0_4 a0_5 (⟨#[]⟩ : ByteArray) _ _ t134 t137 _ ?side1 ?side2 A43.out).mono ?_); (case side1 => refine (Kd.R_reads' (e := 5) (base := w.heap.size) (ok := fun k_ => True) (n := t134.length) (c := co49) ?_).2.2; exact (by (with_reducible repeat (first | apply Kd.R_alloc | apply Kd.R_drewN | apply Kd.R_drew)); exact (Kd.R_mono (Kd.R_far (p := ⟨gb127, 6, none⟩) (Kd.R_far (p := ⟨gb127, 7, none⟩) (Kd.R_types HO136.out BK127.out (by decide)) (fun _ hk => hk.2) (.slice Ao49 t134.length co49)) (fun _ hk => hk.2) (.string (⟨#[]⟩ : ByteArray))) (fun _ h_ => h_.1)))); (case side2 => exact (Kd.R_reads' HO136.out).2.1); rintro e w51 ⟨rfl, hb⟩; refine ⟨_, rfl, ?_⟩; have n0_ := Aside0.mk (Kd.R_below (by (with_reducible repeat (first | apply Kd.R_alloc | apply Kd.R_drewN | apply Kd.R_drew)); exact (Kd.R_mono (Kd.R_far (p := ⟨gb127, 6, none⟩) (Kd.R_far (p := ⟨gb127, 7, none⟩) (Kd.R_types HO136.out BK127.out (by decide)) (fun _ hk => hk.2) (.slice Ao49 t134.length co49)) (fun _ hk => hk.2) (.string (⟨#[]⟩ : ByteArray))) (fun _ h_ => h_.1))) hb); have n1_ := Aside0.mk (blk_below (g := gb123) (o := .cells #[.string a0_0, .string a0_1, .int .i64 a0_2, .int .i64 a0_3, .int .i64 a0_4, .int .i64 a0_5, .int .i64 a0_6, .int .u8 a0_7, .string a0_8] 43 (0, 0)) (by (with_reducible repeat (first | refine blk_drewN ?_ _ | refine blk_drew ?_ | refine blk_alloc ?_ _)); refine blk_far ?_ NB123_127.out _; (with_reducible repeat (first | refine blk_drewN ?_ _ | refine blk_drew ?_ | refine blk_alloc ?_ _)); refine blk_far ?_ NB123_127.out _; (with_reducible repeat (first | refine blk_drewN ?_ _ | refine blk_drew ?_ | refine blk_alloc ?_ _)); exact BK123.out) hb); have n2_ := Aside0.mk (blk_below (g := gb124) (o := .cells #[.string (⟨#[]⟩ : ByteArray), .int .i64 0, .int .i64 0, .int .i64 0, .int .i64 0, .int .i64 0, .string (⟨#[]⟩ : ByteArray), .slice none 0 0] 38 (0, 0)) (by (with_reducible repeat (first | refine blk_drewN ?_ _ | refine blk_drew ?_ | refine blk_alloc ?_ _)); refine blk_far ?_ NB124_127.out _; (with_reducible repeat (first | refine blk_drewN ?_ _ | refine blk_drew ?_ | refine blk_alloc ?_ _)); refine blk_far ?_ NB124_127.out _; (with_reducible repeat (first | refine blk_drewN ?_ _ | refine blk_drew ?_ | refine blk_alloc ?_ _)); exact BK124.out) hb); have n3_ := Aside0.mk (blk_below (g := gb127) (o := .cells #[.string x128000_6, .int .i64 t126, .int .i64 a0_2, .int .i64 a0_3, .int .i64 a0_4, .int .i64 a0_5, .string (⟨#[]⟩ : ByteArray), .slice Ao49 t134.length co49] 38 (0, 0)) (by (with_reducible repeat (first | refine blk_drewN ?_ _ | refine blk_drew ?_ | refine blk_alloc ?_ _)); refine blk_put (cs := #[.string x128000_6, .int .i64 t126, .int .i64 a0_2, .int .i64 a0_3, .int .i64 a0_4, .int .i64 a0_5, .string x128006_28, .slice Ao49 t134.length co49]) ?_ 6 _ rfl; (with_reducible repeat (first | refine blk_drewN ?_ _ | refine blk_drew ?_ | refine blk_alloc ?_ _)); refine blk_put (cs := #[.string x128000_6, .int .i64 t126, .int .i64 a0_2, .int .i64 a0_3, .int .i64 a0_4, .int .i64 a0_5, .string x128006_28, .slice none 0 0]) ?_ 7 _ rfl; (with_reducible repeat (first | refine blk_drewN ?_ _ | refine blk_drew ?_ | refine blk_alloc ?_ _)); exact BK127.out) hb); have n4_ := Aside0.mk (bstep_ hb); clear HO136; clear BK123; clear BK124; clear BK127; clear HB; have HO136 := n0_; have BK123 := n1_; have BK124 := n2_; have BK127 := n3_; have HB := n4_; clear n0_ n1_ n2_ n3_ n4_; (try clear hb); (try clear hb2); (try clear hk); (try clear hi); obtain ⟨hcz52_0, hcz52_1, hcz52_2, hcz52_3, hcz52_4, hcz52_5, hcz52_6, hcz52_7, hfz52_0, hfz52_1, hfz52_2, hfz52_3, hfz52_4, hfz52_5, hfz52_6, hfz52_7⟩ := blk_all8 BK127.out; have hnb53 := NB124_123.out; have hnc53 := NB123_124.out; obtain ⟨hcz54_0, hcz54_1, hcz54_2, hcz54_3, hcz54_4, hcz54_5, hcz54_6, hcz54_7, hfz54_0, hfz54_1, hfz54_2, hfz54_3, hfz54_4, hfz54_5, hfz54_6, hfz54_7⟩ := blk_all8 BK124.out))
        refine bodyPost_ret (results_ct rfl _ _ gb124 38 #[.string x128000_6, .int .i64 t126, .int .i64 a0_2, .int .i64 a0_3, .int .i64 a0_4, .int .i64 a0_5, .string (⟨#[]⟩ : ByteArray), .slice Ao49 t134.length co49] (0, 0) _ rfl (by (with_reducible repeat (first | refine blk_drewN ?_ _ | refine blk_drew ?_ | refine blk_alloc ?_ _)); refine blk_put (cs := #[.string x128000_6, .int .i64 t126, .int .i64 a0_2, .int .i64 a0_3, .int .i64 a0_4, .int .i64 a0_5, .string (⟨#[]⟩ : ByteArray), .slice none 0 0]) ?_ 7 _ rfl; (with_reducible repeat (first | refine blk_drewN ?_ _ | refine blk_drew ?_ | refine blk_alloc ?_ _)); refine blk_put (cs := #[.string x128000_6, .int .i64 t126, .int .i64 a0_2, .int .i64 a0_3, .int .i64 a0_4, .int .i64 a0_5, .string (⟨#[]⟩ : ByteArray), .slice none 0 0]) ?_ 6 _ rfl; (with_reducible repeat (first | refine blk_drewN ?_ _ | refine blk_drew ?_ | refine blk_alloc ?_ _)); refine blk_put (cs := #[.string x128000_6, .int .i64 t126, .int .i64 a0_2, .int .i64 a0_3, .int .i64 a0_4, .int .i64 0, .string (⟨#[]⟩ : ByteArray), .slice none 0 0]) ?_ 5 _ rfl; (with_reducible repeat (first | refine blk_drewN ?_ _ | refine blk_drew ?_ | refine blk_alloc ?_ _)); refine blk_put (cs := #[.string x128000_6, .int .i64 t126, .int .i64 a0_2, .int .i64 a0_3, .int .i64 0, .int .i64 0, .string (⟨#[]⟩ : ByteArray), .slice none 0 0]) ?_ 4 _ rfl; (with_reducible repeat (first | refine blk_drewN ?_ _ | refine blk_drew ?_ | refine blk_alloc ?_ _)); refine blk_put (cs := #[.string x128000_6, .int .i64 t126, .int .i64 a0_2, .int .i64 0, .int .i64 0, .int .i64 0, .string (⟨#[]⟩ : ByteArray), .slice none 0 0]) ?_ 3 _ rfl; (with_reducible repeat (first | refine blk_drewN ?_ _ | refine blk_drew ?_ | refine blk_alloc ?_ _)); refine blk_put (cs := #[.string x128000_6, .int .i64 t126, .int .i64 0, .int .i64 0, .int .i64 0, .int .i64 0, .string (⟨#[]⟩ : ByteArray), .slice none 0 0]) ?_ 2 _ rfl; (with_reducible repeat (first | refine blk_drewN ?_ _ | refine blk_drew ?_ | refine blk_alloc ?_ _)); refine blk_put (cs := #[.string x128000_6, .int .i64 0, .int .i64 0, .int .i64 0, .int .i64 0, .int .i64 0, .string (⟨#[]⟩ : ByteArray), .slice none 0 0]) ?_ 1 _ rfl; (with_reducible repeat (first | refine blk_drewN ?_ _ | refine blk_drew ?_ | refine blk_alloc ?_ _)); refine blk_put (cs := #[.string (⟨#[]⟩ : ByteArray), .int .i64 0, .int .i64 0, .int .i64 0, .int .i64 0, .int .i64 0, .string (⟨#[]⟩ : ByteArray), .slice none 0 0]) ?_ 0 _ rfl; (with_reducible repeat (first | refine blk_drewN ?_ _ | refine blk_drew ?_ | refine blk_alloc ?_ _)); exact BK124.out) Tryz.underlying38 rfl (by kernel_rfl)) rfl ?_
        exact ⟨_, by first | rfl | (simp [errW_none, errW_some] <;> rfl) | (simp [*, errW_none, errW_some] <;> rfl), by (with_reducible repeat (first | apply Kd.R_alloc | apply Kd.R_drewN | apply Kd.R_drew)); exact Kd.R_mono (Kd.R_far (p := ⟨gb124, 7, none⟩) (Kd.R_far (p := ⟨gb124, 6, none⟩) (Kd.R_far (p := ⟨gb124, 5, none⟩) (Kd.R_far (p := ⟨gb124, 4, none⟩) (Kd.R_far (p := ⟨gb124, 3, none⟩) (Kd.R_far (p := ⟨gb124, 2, none⟩) (Kd.R_far (p := ⟨gb124, 1, none⟩) (Kd.R_far (p := ⟨gb124, 0, none⟩) (Kd.R_types HO136.out BK124.out (by decide)) (fun _ hk => hk.2) (.string x128000_6)) (fun _ hk => hk.2) (.int .i64 t126)) (fun _ hk => hk.2) (.int .i64 a0_2)) (fun _ hk => hk.2) (.int .i64 a0_3)) (fun _ hk => hk.2) (.int .i64 a0_4)) (fun _ hk => hk.2) (.int .i64 a0_5)) (fun _ hk => hk.2) (.string (⟨#[]⟩ : ByteArray))) (fun _ hk => hk.2) (.slice Ao49 t134.length co49)) (fun _ hk => trivial), by repeat (first | (with_reducible first | exact HB.out | apply below_alloc | apply pw_below_drewN | apply below_drew1 | refine below_set ?_ GE123.out | refine below_set ?_ GE124.out | refine below_set ?_ GE127.out) | exact HB.out)⟩
       ·rw [if_neg c44] at H
        have c44b0 : (t137 == 0) = false := beq_eq_false_iff_ne.mpr c44
        have c44b1 : (t137 != 0) = true := bne_iff_ne.mpr c44
        simp only [Option.some.injEq, Prod.mk.injEq] at H
        obtain ⟨rfl, rfl, rfl, rfl, rfl, rfl, rfl, rfl, rfl⟩ := H
        have hnb55 := NB127_123.out
        have hnc55 := NB123_127.out
        have hnb56 := NB127_124.out
        have hnc56 := NB124_127.out
        obtain ⟨hcz57_0, hcz57_1, hcz57_2, hcz57_3, hcz57_4, hcz57_5, hcz57_6, hcz57_7, hfz57_0, hfz57_1, hfz57_2, hfz57_3, hfz57_4, hfz57_5, hfz57_6, hfz57_7⟩ := blk_all8 BK127.out
        go_wp2_with (first | ((with_reducible refine gate_callee (f := 23) rfl ?_); refine goesA_ (some 50) Tryz.func23 #[.slice A2 l2.length c2] ?_; (with_reducible refine (bytes_Clone.calls _ _ l2 t134 _ ?side1 ?side2 A42.out).mono ?_); (case side1 => repeat (first | exact (Kd.C_below HR2.out HB.out) | (with_reducible refine Kd.C_alloc ?_ _) | (with_reducible refine Kd.C_drewN ?_ _) | (with_reducible refine Kd.C_drew ?_))); (case side2 => exact HC2.out); rintro e w58 ⟨v135, rfl, ho0, hb⟩; refine ⟨_, rfl, ?_⟩; have n0_ := Aside0.mk (Kd.R_lower ho0 bsize_); have n1_ := Aside0.mk (blkB_ BK123.out hb); have n2_ := Aside0.mk (blkB_ BK124.out hb); have n3_ := Aside0.mk (blkB_ BK127.out hb); have n4_ := Aside0.mk (bstep_ hb); clear BK123; clear BK124; clear BK127; clear HB; have HO136 := n0_; have BK123 := n1_; have BK124 := n2_; have BK127 := n3_; have HB := n4_; clear n0_ n1_ n2_ n3_ n4_; (try clear hb); (try clear hb2); (try clear hk); (try clear hi); (try clear ho0); obtain ⟨Ao59, co59, eo59⟩ := Kd.R_slice HO136.out; subst eo59; obtain ⟨hcz60_0, hcz60_1, hcz60_2, hcz60_3, hcz60_4, hcz60_5, hcz60_6, hcz60_7, hfz60_0, hfz60_1, hfz60_2, hfz60_3, hfz60_4, hfz60_5, hfz60_6, hfz60_7⟩ := blk_all8 BK127.out) | ((with_reducible refine gate_callee (f := 24) rfl ?_); refine goesL_ (some 54) rfl rfl Tryz.func24 (by kernel_rfl) rfl #[.agg #[.string x128000_6, .int .i64 t126, .int .i64 a0_2, .int .i64 a0_3, .int .i64 a0_4, .int .i64 a0_5, .string (⟨#[]⟩ : ByteArray), .slice Ao59 t134.length co59]] rfl (by (try simp only [List.map_toArray, List.map_cons, List.map_nil]); first | done | rfl | (simp only [List.length_drop, List.length_take]; rfl)) ?_; (with_reducible refine (memb_May.calls x128000_6 t126 a0_2 a0_3 a0_4 a0_5 (⟨#[]⟩ : ByteArray) _ _ t134 t137 _ ?side1 ?side2 A43.out).mono ?_); (case side1 => refine (Kd.R_reads' (e := 5) (base := w.heap.size) (ok := fun k_ => True) (n := t134.length) (c := co59) ?_).2.2; exact (by (with_reducible repeat (first | apply Kd.R_alloc | apply Kd.R_drewN | apply Kd.R_drew)); exact (Kd.R_mono (Kd.R_far (p := ⟨gb127, 6, none⟩) (Kd.R_far (p := ⟨gb127, 7, none⟩) (Kd.R_types HO136.out BK127.out (by decide)) (fun _ hk => hk.2) (.slice Ao59 t134.length co59)) (fun _ hk => hk.2) (.string (⟨#[]⟩ : ByteArray))) (fun _ h_ => h_.1)))); (case side2 => exact (Kd.R_reads' HO136.out).2.1); rintro e w61 ⟨rfl, hb⟩; refine ⟨_, rfl, ?_⟩; have n0_ := Aside0.mk (Kd.R_below (by (with_reducible repeat (first | apply Kd.R_alloc | apply Kd.R_drewN | apply Kd.R_drew)); exact (Kd.R_mono (Kd.R_far (p := ⟨gb127, 6, none⟩) (Kd.R_far (p := ⟨gb127, 7, none⟩) (Kd.R_types HO136.out BK127.out (by decide)) (fun _ hk => hk.2) (.slice Ao59 t134.length co59)) (fun _ hk => hk.2) (.string (⟨#[]⟩ : ByteArray))) (fun _ h_ => h_.1))) hb); have n1_ := Aside0.mk (blk_below (g := gb123) (o := .cells #[.string a0_0, .string a0_1, .int .i64 a0_2, .int .i64 a0_3, .int .i64 a0_4, .int .i64 a0_5, .int .i64 a0_6, .int .u8 a0_7, .string a0_8] 43 (0, 0)) (by (with_reducible repeat (first | refine blk_drewN ?_ _ | refine blk_drew ?_ | refine blk_alloc ?_ _)); refine blk_far ?_ NB123_127.out _; (with_reducible repeat (first | refine blk_drewN ?_ _ | refine blk_drew ?_ | refine blk_alloc ?_ _)); refine blk_far ?_ NB123_127.out _; (with_reducible repeat (first | refine blk_drewN ?_ _ | refine blk_drew ?_ | refine blk_alloc ?_ _)); exact BK123.out) hb); have n2_ := Aside0.mk (blk_below (g := gb124) (o := .cells #[.string (⟨#[]⟩ : ByteArray), .int .i64 0, .int .i64 0, .int .i64 0, .int .i64 0, .int .i64 0, .string (⟨#[]⟩ : ByteArray), .slice none 0 0] 38 (0, 0)) (by (with_reducible repeat (first | refine blk_drewN ?_ _ | refine blk_drew ?_ | refine blk_alloc ?_ _)); refine blk_far ?_ NB124_127.out _; (with_reducible repeat (first | refine blk_drewN ?_ _ | refine blk_drew ?_ | refine blk_alloc ?_ _)); refine blk_far ?_ NB124_127.out _; (with_reducible repeat (first | refine blk_drewN ?_ _ | refine blk_drew ?_ | refine blk_alloc ?_ _)); exact BK124.out) hb); have n3_ := Aside0.mk (blk_below (g := gb127) (o := .cells #[.string x128000_6, .int .i64 t126, .int .i64 a0_2, .int .i64 a0_3, .int .i64 a0_4, .int .i64 a0_5, .string (⟨#[]⟩ : ByteArray), .slice Ao59 t134.length co59] 38 (0, 0)) (by (with_reducible repeat (first | refine blk_drewN ?_ _ | refine blk_drew ?_ | refine blk_alloc ?_ _)); refine blk_put (cs := #[.string x128000_6, .int .i64 t126, .int .i64 a0_2, .int .i64 a0_3, .int .i64 a0_4, .int .i64 a0_5, .string x128006_28, .slice Ao59 t134.length co59]) ?_ 6 _ rfl; (with_reducible repeat (first | refine blk_drewN ?_ _ | refine blk_drew ?_ | refine blk_alloc ?_ _)); refine blk_put (cs := #[.string x128000_6, .int .i64 t126, .int .i64 a0_2, .int .i64 a0_3, .int .i64 a0_4, .int .i64 a0_5, .string x128006_28, .slice none 0 0]) ?_ 7 _ rfl; (with_reducible repeat (first | refine blk_drewN ?_ _ | refine blk_drew ?_ | refine blk_alloc ?_ _)); exact BK127.out) hb); have n4_ := Aside0.mk (bstep_ hb); clear HO136; clear BK123; clear BK124; clear BK127; clear HB; have HO136 := n0_; have BK123 := n1_; have BK124 := n2_; have BK127 := n3_; have HB := n4_; clear n0_ n1_ n2_ n3_ n4_; (try clear hb); (try clear hb2); (try clear hk); (try clear hi); have hnb62 := NB124_123.out; have hnc62 := NB123_124.out; obtain ⟨hcz63_0, hcz63_1, hcz63_2, hcz63_3, hcz63_4, hcz63_5, hcz63_6, hcz63_7, hfz63_0, hfz63_1, hfz63_2, hfz63_3, hfz63_4, hfz63_5, hfz63_6, hfz63_7⟩ := blk_all8 BK124.out))
        refine bodyPost_ret (results_ct rfl _ _ gb124 38 #[.string (⟨#[]⟩ : ByteArray), .int .i64 0, .int .i64 0, .int .i64 0, .int .i64 0, .int .i64 0, .string (⟨#[]⟩ : ByteArray), .slice none 0 0] (0, 0) _ rfl (by (with_reducible repeat (first | refine blk_drewN ?_ _ | refine blk_drew ?_ | refine blk_alloc ?_ _)); refine blk_put (cs := #[.string (⟨#[]⟩ : ByteArray), .int .i64 0, .int .i64 0, .int .i64 0, .int .i64 0, .int .i64 0, .string (⟨#[]⟩ : ByteArray), .slice none 0 0]) ?_ 7 _ rfl; (with_reducible repeat (first | refine blk_drewN ?_ _ | refine blk_drew ?_ | refine blk_alloc ?_ _)); refine blk_put (cs := #[.string (⟨#[]⟩ : ByteArray), .int .i64 0, .int .i64 0, .int .i64 0, .int .i64 0, .int .i64 0, .string (⟨#[]⟩ : ByteArray), .slice none 0 0]) ?_ 6 _ rfl; (with_reducible repeat (first | refine blk_drewN ?_ _ | refine blk_drew ?_ | refine blk_alloc ?_ _)); refine blk_put (cs := #[.string (⟨#[]⟩ : ByteArray), .int .i64 0, .int .i64 0, .int .i64 0, .int .i64 0, .int .i64 0, .string (⟨#[]⟩ : ByteArray), .slice none 0 0]) ?_ 5 _ rfl; (with_reducible repeat (first | refine blk_drewN ?_ _ | refine blk_drew ?_ | refine blk_alloc ?_ _)); refine blk_put (cs := #[.string (⟨#[]⟩ : ByteArray), .int .i64 0, .int .i64 0, .int .i64 0, .int .i64 0, .int .i64 0, .string (⟨#[]⟩ : ByteArray), .slice none 0 0]) ?_ 4 _ rfl; (with_reducible repeat (first | refine blk_drewN ?_ _ | refine blk_drew ?_ | refine blk_alloc ?_ _)); refine blk_put (cs := #[.string (⟨#[]⟩ : ByteArray), .int .i64 0, .int .i64 0, .int .i64 0, .int .i64 0, .int .i64 0, .string (⟨#[]⟩ : ByteArray), .slice none 0 0]) ?_ 3 _ rfl; (with_reducible repeat (first | refine blk_drewN ?_ _ | refine blk_drew ?_ | refine blk_alloc ?_ _)); refine blk_put (cs := #[.string (⟨#[]⟩ : ByteArray), .int .i64 0, .int .i64 0, .int .i64 0, .int .i64 0, .int .i64 0, .string (⟨#[]⟩ : ByteArray), .slice none 0 0]) ?_ 2 _ rfl; (with_reducible repeat (first | refine blk_drewN ?_ _ | refine blk_drew ?_ | refine blk_alloc ?_ _)); refine blk_put (cs := #[.string (⟨#[]⟩ : ByteArray), .int .i64 0, .int .i64 0, .int .i64 0, .int .i64 0, .int .i64 0, .string (⟨#[]⟩ : ByteArray), .slice none 0 0]) ?_ 1 _ rfl; (with_reducible repeat (first | refine blk_drewN ?_ _ | refine blk_drew ?_ | refine blk_alloc ?_ _)); refine blk_put (cs := #[.string (⟨#[]⟩ : ByteArray), .int .i64 0, .int .i64 0, .int .i64 0, .int .i64 0, .int .i64 0, .string (⟨#[]⟩ : ByteArray), .slice none 0 0]) ?_ 0 _ rfl; (with_reducible repeat (first | refine blk_drewN ?_ _ | refine blk_drew ?_ | refine blk_alloc ?_ _)); exact BK124.out) Tryz.underlying38 rfl (by kernel_rfl)) rfl ?_
        exact ⟨_, by first | rfl | (simp [errW_none, errW_some] <;> rfl) | (simp [*, errW_none, errW_some] <;> rfl), by first | exact Kd.R_nil _ _ _ _ _ | exact Kd.N_nil _ _ _ _ _ | exact Kd.V_nil _ _ _ _ _ | exact Kd.Q_nil _ _ _ _ _ | exact Kd.S_nil _ _ _ _ _, by repeat (first | (with_reducible first | exact HB.out | apply below_alloc | apply pw_below_drewN | apply below_drew1 | refine below_set ?_ GE123.out | refine below_set ?_ GE124.out | refine below_set ?_ GE127.out) | exact HB.out)⟩
      ·rw [if_neg c41] at H
       have c41b0 : (t126 == 1) = false := beq_eq_false_iff_ne.mpr c41
       have c41b1 : (t126 != 1) = true := bne_iff_ne.mpr c41
       by_cases c64 : t126 = 4
       ·rw [if_pos c64] at H
        have c64b0 : (t126 == 4) = true := beq_iff_eq.mpr c64
        have c64b1 : (t126 != 4) = false := bne_eq_false_iff_eq.mpr c64
        clear c64
        replace H := Option.bind_eq_some_iff.mp H
        obtain ⟨t132, A650, H⟩ := H
        try dsimp only at H
        have A65 := Aside0.mk A650
        clear A650
        by_cases c66 : t132 = 0
        ·rw [if_pos c66] at H
         have c66b0 : (t132 == 0) = true := beq_iff_eq.mpr c66
         have c66b1 : (t132 != 0) = false := bne_eq_false_iff_eq.mpr c66
         clear c66
         simp only [Option.some.injEq, Prod.mk.injEq] at H
         obtain ⟨rfl, rfl, rfl, rfl, rfl, rfl, rfl, rfl, rfl⟩ := H
         have hnb67 := NB127_123.out
         have hnc67 := NB123_127.out
         have hnb68 := NB127_124.out
         have hnc68 := NB124_127.out
         obtain ⟨hcz69_0, hcz69_1, hcz69_2, hcz69_3, hcz69_4, hcz69_5, hcz69_6, hcz69_7, hfz69_0, hfz69_1, hfz69_2, hfz69_3, hfz69_4, hfz69_5, hfz69_6, hfz69_7⟩ := blk_all8 BK127.out
         go_wp2_with (first | ((with_reducible refine gate_callee (f := 24) rfl ?_); refine goesL_ (some 54) rfl rfl Tryz.func24 (by kernel_rfl) rfl #[.agg #[.string x128000_6, .int .i64 t126, .int .i64 a0_2, .int .i64 a0_3, .int .i64 a0_4, .int .i64 a0_5, .string (⟨#[]⟩ : ByteArray), .slice none 0 0]] rfl (by (try simp only [List.map_toArray, List.map_cons, List.map_nil]); first | done | rfl | (simp only [List.length_drop, List.length_take]; rfl)) ?_; (refine (memb_May.calls x128000_6 t126 a0_2 a0_3 a0_4 a0_5 (⟨#[]⟩ : ByteArray) _ _ ([] : List Int) t132 _ ?side1 ?side2 A65.out).mono ?_); (case side1 => exact Kd.C_nil _ _); (case side2 => exact Nat.le_refl _); rintro e w70 ⟨rfl, hb⟩; refine ⟨_, rfl, ?_⟩; have n0_ := Aside0.mk (blk_below (g := gb123) (o := .cells #[.string a0_0, .string a0_1, .int .i64 a0_2, .int .i64 a0_3, .int .i64 a0_4, .int .i64 a0_5, .int .i64 a0_6, .int .u8 a0_7, .string a0_8] 43 (0, 0)) (by (with_reducible repeat (first | refine blk_drewN ?_ _ | refine blk_drew ?_ | refine blk_alloc ?_ _)); refine blk_far ?_ NB123_127.out _; (with_reducible repeat (first | refine blk_drewN ?_ _ | refine blk_drew ?_ | refine blk_alloc ?_ _)); exact BK123.out) hb); have n1_ := Aside0.mk (blk_below (g := gb124) (o := .cells #[.string (⟨#[]⟩ : ByteArray), .int .i64 0, .int .i64 0, .int .i64 0, .int .i64 0, .int .i64 0, .string (⟨#[]⟩ : ByteArray), .slice none 0 0] 38 (0, 0)) (by (with_reducible repeat (first | refine blk_drewN ?_ _ | refine blk_drew ?_ | refine blk_alloc ?_ _)); refine blk_far ?_ NB124_127.out _; (with_reducible repeat (first | refine blk_drewN ?_ _ | refine blk_drew ?_ | refine blk_alloc ?_ _)); exact BK124.out) hb); have n2_ := Aside0.mk (blk_below (g := gb127) (o := .cells #[.string x128000_6, .int .i64 t126, .int .i64 a0_2, .int .i64 a0_3, .int .i64 a0_4, .int .i64 a0_5, .string (⟨#[]⟩ : ByteArray), .slice none 0 0] 38 (0, 0)) (by (with_reducible repeat (first | refine blk_drewN ?_ _ | refine blk_drew ?_ | refine blk_alloc ?_ _)); refine blk_put (cs := #[.string x128000_6, .int .i64 t126, .int .i64 a0_2, .int .i64 a0_3, .int .i64 a0_4, .int .i64 a0_5, .string x128006_28, .slice none 0 0]) ?_ 6 _ rfl; (with_reducible repeat (first | refine blk_drewN ?_ _ | refine blk_drew ?_ | refine blk_alloc ?_ _)); exact BK127.out) hb); have n3_ := Aside0.mk (bstep_ hb); clear BK123; clear BK124; clear BK127; clear HB; have BK123 := n0_; have BK124 := n1_; have BK127 := n2_; have HB := n3_; clear n0_ n1_ n2_ n3_; (try clear hb); (try clear hb2); (try clear hk); (try clear hi); obtain ⟨hcz71_0, hcz71_1, hcz71_2, hcz71_3, hcz71_4, hcz71_5, hcz71_6, hcz71_7, hfz71_0, hfz71_1, hfz71_2, hfz71_3, hfz71_4, hfz71_5, hfz71_6, hfz71_7⟩ := blk_all8 BK127.out; have hnb72 := NB124_123.out; have hnc72 := NB123_124.out; obtain ⟨hcz73_0, hcz73_1, hcz73_2, hcz73_3, hcz73_4, hcz73_5, hcz73_6, hcz73_7, hfz73_0, hfz73_1, hfz73_2, hfz73_3, hfz73_4, hfz73_5, hfz73_6, hfz73_7⟩ := blk_all8 BK124.out))
         refine bodyPost_ret (results_ct rfl _ _ gb124 38 #[.string x128000_6, .int .i64 t126, .int .i64 a0_2, .int .i64 a0_3, .int .i64 a0_4, .int .i64 a0_5, .string (⟨#[]⟩ : ByteArray), .slice none 0 0] (0, 0) _ rfl (by (with_reducible repeat (first | refine blk_drewN ?_ _ | refine blk_drew ?_ | refine blk_alloc ?_ _)); refine blk_put (cs := #[.string x128000_6, .int .i64 t126, .int .i64 a0_2, .int .i64 a0_3, .int .i64 a0_4, .int .i64 a0_5, .string (⟨#[]⟩ : ByteArray), .slice none 0 0]) ?_ 7 _ rfl; (with_reducible repeat (first | refine blk_drewN ?_ _ | refine blk_drew ?_ | refine blk_alloc ?_ _)); refine blk_put (cs := #[.string x128000_6, .int .i64 t126, .int .i64 a0_2, .int .i64 a0_3, .int .i64 a0_4, .int .i64 a0_5, .string (⟨#[]⟩ : ByteArray), .slice none 0 0]) ?_ 6 _ rfl; (with_reducible repeat (first | refine blk_drewN ?_ _ | refine blk_drew ?_ | refine blk_alloc ?_ _)); refine blk_put (cs := #[.string x128000_6, .int .i64 t126, .int .i64 a0_2, .int .i64 a0_3, .int .i64 a0_4, .int .i64 0, .string (⟨#[]⟩ : ByteArray), .slice none 0 0]) ?_ 5 _ rfl; (with_reducible repeat (first | refine blk_drewN ?_ _ | refine blk_drew ?_ | refine blk_alloc ?_ _)); refine blk_put (cs := #[.string x128000_6, .int .i64 t126, .int .i64 a0_2, .int .i64 a0_3, .int .i64 0, .int .i64 0, .string (⟨#[]⟩ : ByteArray), .slice none 0 0]) ?_ 4 _ rfl; (with_reducible repeat (first | refine blk_drewN ?_ _ | refine blk_drew ?_ | refine blk_alloc ?_ _)); refine blk_put (cs := #[.string x128000_6, .int .i64 t126, .int .i64 a0_2, .int .i64 0, .int .i64 0, .int .i64 0, .string (⟨#[]⟩ : ByteArray), .slice none 0 0]) ?_ 3 _ rfl; (with_reducible repeat (first | refine blk_drewN ?_ _ | refine blk_drew ?_ | refine blk_alloc ?_ _)); refine blk_put (cs := #[.string x128000_6, .int .i64 t126, .int .i64 0, .int .i64 0, .int .i64 0, .int .i64 0, .string (⟨#[]⟩ : ByteArray), .slice none 0 0]) ?_ 2 _ rfl; (with_reducible repeat (first | refine blk_drewN ?_ _ | refine blk_drew ?_ | refine blk_alloc ?_ _)); refine blk_put (cs := #[.string x128000_6, .int .i64 0, .int .i64 0, .int .i64 0, .int .i64 0, .int .i64 0, .string (⟨#[]⟩ : ByteArray), .slice none 0 0]) ?_ 1 _ rfl; (with_reducible repeat (first | refine blk_drewN ?_ _ | refine blk_drew ?_ | refine blk_alloc ?_ _)); refine blk_put (cs := #[.string (⟨#[]⟩ : ByteArray), .int .i64 0, .int .i64 0, .int .i64 0, .int .i64 0, .int .i64 0, .string (⟨#[]⟩ : ByteArray), .slice none 0 0]) ?_ 0 _ rfl; (with_reducible repeat (first | refine blk_drewN ?_ _ | refine blk_drew ?_ | refine blk_alloc ?_ _)); exact BK124.out) Tryz.underlying38 rfl (by kernel_rfl)) rfl ?_
         exact ⟨_, by first | rfl | (simp [errW_none, errW_some] <;> rfl) | (simp [*, errW_none, errW_some] <;> rfl), by first | exact Kd.R_nil _ _ _ _ _ | exact Kd.N_nil _ _ _ _ _ | exact Kd.V_nil _ _ _ _ _ | exact Kd.Q_nil _ _ _ _ _ | exact Kd.S_nil _ _ _ _ _, by repeat (first | (with_reducible first | exact HB.out | apply below_alloc | apply pw_below_drewN | apply below_drew1 | refine below_set ?_ GE123.out | refine below_set ?_ GE124.out | refine below_set ?_ GE127.out) | exact HB.out)⟩
        ·rw [if_neg c66] at H
         have c66b0 : (t132 == 0) = false := beq_eq_false_iff_ne.mpr c66
         have c66b1 : (t132 != 0) = true := bne_iff_ne.mpr c66
         simp only [Option.some.injEq, Prod.mk.injEq] at H
         obtain ⟨rfl, rfl, rfl, rfl, rfl, rfl, rfl, rfl, rfl⟩ := H
         have hnb74 := NB127_123.out
         have hnc74 := NB123_127.out
         have hnb75 := NB127_124.out
         have hnc75 := NB124_127.out
         obtain ⟨hcz76_0, hcz76_1, hcz76_2, hcz76_3, hcz76_4, hcz76_5, hcz76_6, hcz76_7, hfz76_0, hfz76_1, hfz76_2, hfz76_3, hfz76_4, hfz76_5, hfz76_6, hfz76_7⟩ := blk_all8 BK127.out
         go_wp2_with (first | ((with_reducible refine gate_callee (f := 24) rfl ?_); refine goesL_ (some 54) rfl rfl Tryz.func24 (by kernel_rfl) rfl #[.agg #[.string x128000_6, .int .i64 t126, .int .i64 a0_2, .int .i64 a0_3, .int .i64 a0_4, .int .i64 a0_5, .string (⟨#[]⟩ : ByteArray), .slice none 0 0]] rfl (by (try simp only [List.map_toArray, List.map_cons, List.map_nil]); first | done | rfl | (simp only [List.length_drop, List.length_take]; rfl)) ?_; (refine (memb_May.calls x128000_6 t126 a0_2 a0_3 a0_4 a0_5 (⟨#[]⟩ : ByteArray) _ _ ([] : List Int) t132 _ ?side1 ?side2 A65.out).mono ?_); (case side1 => exact Kd.C_nil _ _); (case side2 => exact Nat.le_refl _); rintro e w77 ⟨rfl, hb⟩; refine ⟨_, rfl, ?_⟩; have n0_ := Aside0.mk (blk_below (g := gb123) (o := .cells #[.string a0_0, .string a0_1, .int .i64 a0_2, .int .i64 a0_3, .int .i64 a0_4, .int .i64 a0_5, .int .i64 a0_6, .int .u8 a0_7, .string a0_8] 43 (0, 0)) (by (with_reducible repeat (first | refine blk_drewN ?_ _ | refine blk_drew ?_ | refine blk_alloc ?_ _)); refine blk_far ?_ NB123_127.out _; (with_reducible repeat (first | refine blk_drewN ?_ _ | refine blk_drew ?_ | refine blk_alloc ?_ _)); exact BK123.out) hb); have n1_ := Aside0.mk (blk_below (g := gb124) (o := .cells #[.string (⟨#[]⟩ : ByteArray), .int .i64 0, .int .i64 0, .int .i64 0, .int .i64 0, .int .i64 0, .string (⟨#[]⟩ : ByteArray), .slice none 0 0] 38 (0, 0)) (by (with_reducible repeat (first | refine blk_drewN ?_ _ | refine blk_drew ?_ | refine blk_alloc ?_ _)); refine blk_far ?_ NB124_127.out _; (with_reducible repeat (first | refine blk_drewN ?_ _ | refine blk_drew ?_ | refine blk_alloc ?_ _)); exact BK124.out) hb); have n2_ := Aside0.mk (blk_below (g := gb127) (o := .cells #[.string x128000_6, .int .i64 t126, .int .i64 a0_2, .int .i64 a0_3, .int .i64 a0_4, .int .i64 a0_5, .string (⟨#[]⟩ : ByteArray), .slice none 0 0] 38 (0, 0)) (by (with_reducible repeat (first | refine blk_drewN ?_ _ | refine blk_drew ?_ | refine blk_alloc ?_ _)); refine blk_put (cs := #[.string x128000_6, .int .i64 t126, .int .i64 a0_2, .int .i64 a0_3, .int .i64 a0_4, .int .i64 a0_5, .string x128006_28, .slice none 0 0]) ?_ 6 _ rfl; (with_reducible repeat (first | refine blk_drewN ?_ _ | refine blk_drew ?_ | refine blk_alloc ?_ _)); exact BK127.out) hb); have n3_ := Aside0.mk (bstep_ hb); clear BK123; clear BK124; clear BK127; clear HB; have BK123 := n0_; have BK124 := n1_; have BK127 := n2_; have HB := n3_; clear n0_ n1_ n2_ n3_; (try clear hb); (try clear hb2); (try clear hk); (try clear hi); have hnb78 := NB124_123.out; have hnc78 := NB123_124.out; obtain ⟨hcz79_0, hcz79_1, hcz79_2, hcz79_3, hcz79_4, hcz79_5, hcz79_6, hcz79_7, hfz79_0, hfz79_1, hfz79_2, hfz79_3, hfz79_4, hfz79_5, hfz79_6, hfz79_7⟩ := blk_all8 BK124.out))
         refine bodyPost_ret (results_ct rfl _ _ gb124 38 #[.string (⟨#[]⟩ : ByteArray), .int .i64 0, .int .i64 0, .int .i64 0, .int .i64 0, .int .i64 0, .string (⟨#[]⟩ : ByteArray), .slice none 0 0] (0, 0) _ rfl (by (with_reducible repeat (first | refine blk_drewN ?_ _ | refine blk_drew ?_ | refine blk_alloc ?_ _)); refine blk_put (cs := #[.string (⟨#[]⟩ : ByteArray), .int .i64 0, .int .i64 0, .int .i64 0, .int .i64 0, .int .i64 0, .string (⟨#[]⟩ : ByteArray), .slice none 0 0]) ?_ 7 _ rfl; (with_reducible repeat (first | refine blk_drewN ?_ _ | refine blk_drew ?_ | refine blk_alloc ?_ _)); refine blk_put (cs := #[.string (⟨#[]⟩ : ByteArray), .int .i64 0, .int .i64 0, .int .i64 0, .int .i64 0, .int .i64 0, .string (⟨#[]⟩ : ByteArray), .slice none 0 0]) ?_ 6 _ rfl; (with_reducible repeat (first | refine blk_drewN ?_ _ | refine blk_drew ?_ | refine blk_alloc ?_ _)); refine blk_put (cs := #[.string (⟨#[]⟩ : ByteArray), .int .i64 0, .int .i64 0, .int .i64 0, .int .i64 0, .int .i64 0, .string (⟨#[]⟩ : ByteArray), .slice none 0 0]) ?_ 5 _ rfl; (with_reducible repeat (first | refine blk_drewN ?_ _ | refine blk_drew ?_ | refine blk_alloc ?_ _)); refine blk_put (cs := #[.string (⟨#[]⟩ : ByteArray), .int .i64 0, .int .i64 0, .int .i64 0, .int .i64 0, .int .i64 0, .string (⟨#[]⟩ : ByteArray), .slice none 0 0]) ?_ 4 _ rfl; (with_reducible repeat (first | refine blk_drewN ?_ _ | refine blk_drew ?_ | refine blk_alloc ?_ _)); refine blk_put (cs := #[.string (⟨#[]⟩ : ByteArray), .int .i64 0, .int .i64 0, .int .i64 0, .int .i64 0, .int .i64 0, .string (⟨#[]⟩ : ByteArray), .slice none 0 0]) ?_ 3 _ rfl; (with_reducible repeat (first | refine blk_drewN ?_ _ | refine blk_drew ?_ | refine blk_alloc ?_ _)); refine blk_put (cs := #[.string (⟨#[]⟩ : ByteArray), .int .i64 0, .int .i64 0, .int .i64 0, .int .i64 0, .int .i64 0, .string (⟨#[]⟩ : ByteArray), .slice none 0 0]) ?_ 2 _ rfl; (with_reducible repeat (first | refine blk_drewN ?_ _ | refine blk_drew ?_ | refine blk_alloc ?_ _)); refine blk_put (cs := #[.string (⟨#[]⟩ : ByteArray), .int .i64 0, .int .i64 0, .int .i64 0, .int .i64 0, .int .i64 0, .string (⟨#[]⟩ : ByteArray), .slice none 0 0]) ?_ 1 _ rfl; (with_reducible repeat (first | refine blk_drewN ?_ _ | refine blk_drew ?_ | refine blk_alloc ?_ _)); refine blk_put (cs := #[.string (⟨#[]⟩ : ByteArray), .int .i64 0, .int .i64 0, .int .i64 0, .int .i64 0, .int .i64 0, .string (⟨#[]⟩ : ByteArray), .slice none 0 0]) ?_ 0 _ rfl; (with_reducible repeat (first | refine blk_drewN ?_ _ | refine blk_drew ?_ | refine blk_alloc ?_ _)); exact BK124.out) Tryz.underlying38 rfl (by kernel_rfl)) rfl ?_
         exact ⟨_, by first | rfl | (simp [errW_none, errW_some] <;> rfl) | (simp [*, errW_none, errW_some] <;> rfl), by first | exact Kd.R_nil _ _ _ _ _ | exact Kd.N_nil _ _ _ _ _ | exact Kd.V_nil _ _ _ _ _ | exact Kd.Q_nil _ _ _ _ _ | exact Kd.S_nil _ _ _ _ _, by repeat (first | (with_reducible first | exact HB.out | apply below_alloc | apply pw_below_drewN | apply below_drew1 | refine below_set ?_ GE123.out | refine below_set ?_ GE124.out | refine below_set ?_ GE127.out) | exact HB.out)⟩
       ·rw [if_neg c64] at H
        have c64b0 : (t126 == 4) = false := beq_eq_false_iff_ne.mpr c64
        have c64b1 : (t126 != 4) = true := bne_iff_ne.mpr c64
        replace H := Option.bind_eq_some_iff.mp H
        obtain ⟨t133, A800, H⟩ := H
        try dsimp only at H
        have A80 := Aside0.mk A800
        clear A800
        by_cases c81 : t133 = 0
        ·rw [if_pos c81] at H
         have c81b0 : (t133 == 0) = true := beq_iff_eq.mpr c81
         have c81b1 : (t133 != 0) = false := bne_eq_false_iff_eq.mpr c81
         clear c81
         simp only [Option.some.injEq, Prod.mk.injEq] at H
         obtain ⟨rfl, rfl, rfl, rfl, rfl, rfl, rfl, rfl, rfl⟩ := H
         have hnb82 := NB127_123.out
         have hnc82 := NB123_127.out
         have hnb83 := NB127_124.out
         have hnc83 := NB124_127.out
         obtain ⟨hcz84_0, hcz84_1, hcz84_2, hcz84_3, hcz84_4, hcz84_5, hcz84_6, hcz84_7, hfz84_0, hfz84_1, hfz84_2, hfz84_3, hfz84_4, hfz84_5, hfz84_6, hfz84_7⟩ := blk_all8 BK127.out
         go_wp2_with (first | ((with_reducible refine gate_callee (f := 24) rfl ?_); refine goesA_ (some 54) Tryz.func24 #[.agg #[.string x128000_6, .int .i64 t126, .int .i64 a0_2, .int .i64 a0_3, .int .i64 a0_4, .int .i64 a0_5, .string x128006_28, .slice none 0 0]] ?_; (refine (memb_May.calls x128000_6 t126 a0_2 a0_3 a0_4 a0_5 x128006_28 _ _ ([] : List Int) t133 _ ?side1 ?side2 A80.out).mono ?_); (case side1 => exact Kd.C_nil _ _); (case side2 => exact Nat.le_refl _); rintro e w85 ⟨rfl, hb⟩; refine ⟨_, rfl, ?_⟩; have n0_ := Aside0.mk (blkB_ BK123.out hb); have n1_ := Aside0.mk (blkB_ BK124.out hb); have n2_ := Aside0.mk (blkB_ BK127.out hb); have n3_ := Aside0.mk (bstep_ hb); clear BK123; clear BK124; clear BK127; clear HB; have BK123 := n0_; have BK124 := n1_; have BK127 := n2_; have HB := n3_; clear n0_ n1_ n2_ n3_; (try clear hb); (try clear hb2); (try clear hk); (try clear hi); obtain ⟨hcz86_0, hcz86_1, hcz86_2, hcz86_3, hcz86_4, hcz86_5, hcz86_6, hcz86_7, hfz86_0, hfz86_1, hfz86_2, hfz86_3, hfz86_4, hfz86_5, hfz86_6, hfz86_7⟩ := blk_all8 BK127.out; have hnb87 := NB124_123.out; have hnc87 := NB123_124.out; obtain ⟨hcz88_0, hcz88_1, hcz88_2, hcz88_3, hcz88_4, hcz88_5, hcz88_6, hcz88_7, hfz88_0, hfz88_1, hfz88_2, hfz88_3, hfz88_4, hfz88_5, hfz88_6, hfz88_7⟩ := blk_all8 BK124.out))
         refine bodyPost_ret (results_ct rfl _ _ gb124 38 #[.string x128000_6, .int .i64 t126, .int .i64 a0_2, .int .i64 a0_3, .int .i64 a0_4, .int .i64 a0_5, .string x128006_28, .slice none 0 0] (0, 0) _ rfl (by (with_reducible repeat (first | refine blk_drewN ?_ _ | refine blk_drew ?_ | refine blk_alloc ?_ _)); refine blk_put (cs := #[.string x128000_6, .int .i64 t126, .int .i64 a0_2, .int .i64 a0_3, .int .i64 a0_4, .int .i64 a0_5, .string x128006_28, .slice none 0 0]) ?_ 7 _ rfl; (with_reducible repeat (first | refine blk_drewN ?_ _ | refine blk_drew ?_ | refine blk_alloc ?_ _)); refine blk_put (cs := #[.string x128000_6, .int .i64 t126, .int .i64 a0_2, .int .i64 a0_3, .int .i64 a0_4, .int .i64 a0_5, .string (⟨#[]⟩ : ByteArray), .slice none 0 0]) ?_ 6 _ rfl; (with_reducible repeat (first | refine blk_drewN ?_ _ | refine blk_drew ?_ | refine blk_alloc ?_ _)); refine blk_put (cs := #[.string x128000_6, .int .i64 t126, .int .i64 a0_2, .int .i64 a0_3, .int .i64 a0_4, .int .i64 0, .string (⟨#[]⟩ : ByteArray), .slice none 0 0]) ?_ 5 _ rfl; (with_reducible repeat (first | refine blk_drewN ?_ _ | refine blk_drew ?_ | refine blk_alloc ?_ _)); refine blk_put (cs := #[.string x128000_6, .int .i64 t126, .int .i64 a0_2, .int .i64 a0_3, .int .i64 0, .int .i64 0, .string (⟨#[]⟩ : ByteArray), .slice none 0 0]) ?_ 4 _ rfl; (with_reducible repeat (first | refine blk_drewN ?_ _ | refine blk_drew ?_ | refine blk_alloc ?_ _)); refine blk_put (cs := #[.string x128000_6, .int .i64 t126, .int .i64 a0_2, .int .i64 0, .int .i64 0, .int .i64 0, .string (⟨#[]⟩ : ByteArray), .slice none 0 0]) ?_ 3 _ rfl; (with_reducible repeat (first | refine blk_drewN ?_ _ | refine blk_drew ?_ | refine blk_alloc ?_ _)); refine blk_put (cs := #[.string x128000_6, .int .i64 t126, .int .i64 0, .int .i64 0, .int .i64 0, .int .i64 0, .string (⟨#[]⟩ : ByteArray), .slice none 0 0]) ?_ 2 _ rfl; (with_reducible repeat (first | refine blk_drewN ?_ _ | refine blk_drew ?_ | refine blk_alloc ?_ _)); refine blk_put (cs := #[.string x128000_6, .int .i64 0, .int .i64 0, .int .i64 0, .int .i64 0, .int .i64 0, .string (⟨#[]⟩ : ByteArray), .slice none 0 0]) ?_ 1 _ rfl; (with_reducible repeat (first | refine blk_drewN ?_ _ | refine blk_drew ?_ | refine blk_alloc ?_ _)); refine blk_put (cs := #[.string (⟨#[]⟩ : ByteArray), .int .i64 0, .int .i64 0, .int .i64 0, .int .i64 0, .int .i64 0, .string (⟨#[]⟩ : ByteArray), .slice none 0 0]) ?_ 0 _ rfl; (with_reducible repeat (first | refine blk_drewN ?_ _ | refine blk_drew ?_ | refine blk_alloc ?_ _)); exact BK124.out) Tryz.underlying38 rfl (by kernel_rfl)) rfl ?_
         exact ⟨_, by first | rfl | (simp [errW_none, errW_some] <;> rfl) | (simp [*, errW_none, errW_some] <;> rfl), by first | exact Kd.R_nil _ _ _ _ _ | exact Kd.N_nil _ _ _ _ _ | exact Kd.V_nil _ _ _ _ _ | exact Kd.Q_nil _ _ _ _ _ | exact Kd.S_nil _ _ _ _ _, by repeat (first | (with_reducible first | exact HB.out | apply below_alloc | apply pw_below_drewN | apply below_drew1 | refine below_set ?_ GE123.out | refine below_set ?_ GE124.out | refine below_set ?_ GE127.out) | exact HB.out)⟩
        ·rw [if_neg c81] at H
         have c81b0 : (t133 == 0) = false := beq_eq_false_iff_ne.mpr c81
         have c81b1 : (t133 != 0) = true := bne_iff_ne.mpr c81
         simp only [Option.some.injEq, Prod.mk.injEq] at H
         obtain ⟨rfl, rfl, rfl, rfl, rfl, rfl, rfl, rfl, rfl⟩ := H
         have hnb89 := NB127_123.out
         have hnc89 := NB123_127.out
         have hnb90 := NB127_124.out
         have hnc90 := NB124_127.out
         obtain ⟨hcz91_0, hcz91_1, hcz91_2, hcz91_3, hcz91_4, hcz91_5, hcz91_6, hcz91_7, hfz91_0, hfz91_1, hfz91_2, hfz91_3, hfz91_4, hfz91_5, hfz91_6, hfz91_7⟩ := blk_all8 BK127.out
         go_wp2_with (first | ((with_reducible refine gate_callee (f := 24) rfl ?_); refine goesA_ (some 54) Tryz.func24 #[.agg #[.string x128000_6, .int .i64 t126, .int .i64 a0_2, .int .i64 a0_3, .int .i64 a0_4, .int .i64 a0_5, .string x128006_28, .slice none 0 0]] ?_; (refine (memb_May.calls x128000_6 t126 a0_2 a0_3 a0_4 a0_5 x128006_28 _ _ ([] : List Int) t133 _ ?side1 ?side2 A80.out).mono ?_); (case side1 => exact Kd.C_nil _ _); (case side2 => exact Nat.le_refl _); rintro e w92 ⟨rfl, hb⟩; refine ⟨_, rfl, ?_⟩; have n0_ := Aside0.mk (blkB_ BK123.out hb); have n1_ := Aside0.mk (blkB_ BK124.out hb); have n2_ := Aside0.mk (blkB_ BK127.out hb); have n3_ := Aside0.mk (bstep_ hb); clear BK123; clear BK124; clear BK127; clear HB; have BK123 := n0_; have BK124 := n1_; have BK127 := n2_; have HB := n3_; clear n0_ n1_ n2_ n3_; (try clear hb); (try clear hb2); (try clear hk); (try clear hi); have hnb93 := NB124_123.out; have hnc93 := NB123_124.out; obtain ⟨hcz94_0, hcz94_1, hcz94_2, hcz94_3, hcz94_4, hcz94_5, hcz94_6, hcz94_7, hfz94_0, hfz94_1, hfz94_2, hfz94_3, hfz94_4, hfz94_5, hfz94_6, hfz94_7⟩ := blk_all8 BK124.out))
         refine bodyPost_ret (results_ct rfl _ _ gb124 38 #[.string (⟨#[]⟩ : ByteArray), .int .i64 0, .int .i64 0, .int .i64 0, .int .i64 0, .int .i64 0, .string (⟨#[]⟩ : ByteArray), .slice none 0 0] (0, 0) _ rfl (by (with_reducible repeat (first | refine blk_drewN ?_ _ | refine blk_drew ?_ | refine blk_alloc ?_ _)); refine blk_put (cs := #[.string (⟨#[]⟩ : ByteArray), .int .i64 0, .int .i64 0, .int .i64 0, .int .i64 0, .int .i64 0, .string (⟨#[]⟩ : ByteArray), .slice none 0 0]) ?_ 7 _ rfl; (with_reducible repeat (first | refine blk_drewN ?_ _ | refine blk_drew ?_ | refine blk_alloc ?_ _)); refine blk_put (cs := #[.string (⟨#[]⟩ : ByteArray), .int .i64 0, .int .i64 0, .int .i64 0, .int .i64 0, .int .i64 0, .string (⟨#[]⟩ : ByteArray), .slice none 0 0]) ?_ 6 _ rfl; (with_reducible repeat (first | refine blk_drewN ?_ _ | refine blk_drew ?_ | refine blk_alloc ?_ _)); refine blk_put (cs := #[.string (⟨#[]⟩ : ByteArray), .int .i64 0, .int .i64 0, .int .i64 0, .int .i64 0, .int .i64 0, .string (⟨#[]⟩ : ByteArray), .slice none 0 0]) ?_ 5 _ rfl; (with_reducible repeat (first | refine blk_drewN ?_ _ | refine blk_drew ?_ | refine blk_alloc ?_ _)); refine blk_put (cs := #[.string (⟨#[]⟩ : ByteArray), .int .i64 0, .int .i64 0, .int .i64 0, .int .i64 0, .int .i64 0, .string (⟨#[]⟩ : ByteArray), .slice none 0 0]) ?_ 4 _ rfl; (with_reducible repeat (first | refine blk_drewN ?_ _ | refine blk_drew ?_ | refine blk_alloc ?_ _)); refine blk_put (cs := #[.string (⟨#[]⟩ : ByteArray), .int .i64 0, .int .i64 0, .int .i64 0, .int .i64 0, .int .i64 0, .string (⟨#[]⟩ : ByteArray), .slice none 0 0]) ?_ 3 _ rfl; (with_reducible repeat (first | refine blk_drewN ?_ _ | refine blk_drew ?_ | refine blk_alloc ?_ _)); refine blk_put (cs := #[.string (⟨#[]⟩ : ByteArray), .int .i64 0, .int .i64 0, .int .i64 0, .int .i64 0, .int .i64 0, .string (⟨#[]⟩ : ByteArray), .slice none 0 0]) ?_ 2 _ rfl; (with_reducible repeat (first | refine blk_drewN ?_ _ | refine blk_drew ?_ | refine blk_alloc ?_ _)); refine blk_put (cs := #[.string (⟨#[]⟩ : ByteArray), .int .i64 0, .int .i64 0, .int .i64 0, .int .i64 0, .int .i64 0, .string (⟨#[]⟩ : ByteArray), .slice none 0 0]) ?_ 1 _ rfl; (with_reducible repeat (first | refine blk_drewN ?_ _ | refine blk_drew ?_ | refine blk_alloc ?_ _)); refine blk_put (cs := #[.string (⟨#[]⟩ : ByteArray), .int .i64 0, .int .i64 0, .int .i64 0, .int .i64 0, .int .i64 0, .string (⟨#[]⟩ : ByteArray), .slice none 0 0]) ?_ 0 _ rfl; (with_reducible repeat (first | refine blk_drewN ?_ _ | refine blk_drew ?_ | refine blk_alloc ?_ _)); exact BK124.out) Tryz.underlying38 rfl (by kernel_rfl)) rfl ?_
         exact ⟨_, by first | rfl | (simp [errW_none, errW_some] <;> rfl) | (simp [*, errW_none, errW_some] <;> rfl), by first | exact Kd.R_nil _ _ _ _ _ | exact Kd.N_nil _ _ _ _ _ | exact Kd.V_nil _ _ _ _ _ | exact Kd.Q_nil _ _ _ _ _ | exact Kd.S_nil _ _ _ _ _, by repeat (first | (with_reducible first | exact HB.out | apply below_alloc | apply pw_below_drewN | apply below_drew1 | refine below_set ?_ GE123.out | refine below_set ?_ GE124.out | refine below_set ?_ GE127.out) | exact HB.out)⟩


/-! ### bytes_Equal: function 28 -/
def bytes_Equal.f (l0 : List Int) (l1 : List Int) : Option (Bool) := some ((strOfNums l0).toList == (strOfNums l1).toList)
set_option maxHeartbeats 8000000 in
set_option maxRecDepth 100000 in
theorem bytes_Equal.calls (A0 : Option Addr) (c0 : Nat) (l0 : List Int) (A1 : Option Addr) (c1 : Nat) (l1 : List Int) (r : Bool) (w : World) (hr0 : Kd.C (Kd.int .u8) w A0 l0.length l0) (hc0 : l0.length ≤ c0) (hr1 : Kd.C (Kd.int .u8) w A1 l1.length l1) (hc1 : l1.length ≤ c1) (h : bytes_Equal.f l0 l1 = some r) :
  Calls Tryz.prog 28 #[.slice A0 l0.length c0, .slice A1 l1.length c1] w fun e w' => e = .returned (.bool r) ∧ Drawn0 w w' := by
 have HR0 := Aside0.mk hr0
 have HC0 := Aside0.mk hc0
 clear hr0 hc0
 have HR1 := Aside0.mk hr1
 have HC1 := Aside0.mk hc1
 clear hr1 hc1
 have H : (some ((strOfNums l0).toList == (strOfNums l1).toList)) = some r := h
 clear h
 obtain rfl := Option.some.inj H
 have hcv3 := Kd.C_string (P := Tryz.prog) (A := A0) (c := c0) Tryz.underlying31 Tryz.underlying5 Tryz.underlying9 HR0.out
 have hcv4 := Kd.C_string (P := Tryz.prog) (A := A1) (c := c1) Tryz.underlying31 Tryz.underlying5 Tryz.underlying9 HR1.out
 go_enter Tryz.func28, Tryz.ntmps28
 go_wp2
 go_ret
 exact ⟨by first | rfl | (simp; done) | (simp [*]; done), by repeat (first | exact Drawn0.refl _ | apply Drawn0.step)⟩

end Go.Proofs.YtjidenkhgeoaiaaGreatDoor.P

-- Written by xprint.py (a program of this session's, over the kit's printer) out of the translation. Not trusted: Lean checks it.
namespace Go.Proofs.YtjidenkhgeoaiaaGreatDoor.P
open Go.RowKit Go.Proofs.YtjidenkhgeoaiaaGreatDoorW.PrintWords Go.Proofs.YtjidenkhgeoaiaaGreatDoorW.PrintLast Go.Proofs.YtjidenkhgeoaiaaGreatDoorW.PrintMore Go.Proofs.YtjidenkhgeoaiaaGreatDoor.Hand
attribute [local go_sem] max2_int min2_int max_two min_two max_three min_three max_four min_four   -- for this text's walks alone
set_option linter.unusedVariables false
set_option linter.unusedSimpArgs false

theorem eqA36 (d : Nat) (w : World) (x0 y0 : Int) (x1 y1 : Int) (x2 y2 : Int) (x3 y3 : Int) :
    (Op.equalIn (d + 2) 36 (.agg #[.int .i64 x0, .int .i64 x1, .int .i64 x2, .int .i64 x3]) (.agg #[.int .i64 y0, .int .i64 y1, .int .i64 y2, .int .i64 y3])).run Tryz.prog w = .ok (x0 == y0 && (x1 == y1 && (x2 == y2 && (x3 == y3)))) w := by
  refine eqA_of Tryz.underlying36 (by kernel_rfl) ?_
  refine eqf_cons (by rfl) (by go_simp; rfl) (by go_simp; rfl) (by go_simp) ?_
  refine eqf_cons (by rfl) (by go_simp; rfl) (by go_simp; rfl) (by go_simp) ?_
  refine eqf_cons (by rfl) (by go_simp; rfl) (by go_simp; rfl) (by go_simp) ?_
  exact eqf_last (by rfl) (by go_simp; rfl) (by go_simp; rfl) (by go_simp)
end Go.Proofs.YtjidenkhgeoaiaaGreatDoor.P

namespace Go.Proofs.YtjidenkhgeoaiaaGreatDoor.P
open Go.RowKit Go.Proofs.YtjidenkhgeoaiaaGreatDoorW.PrintWords Go.Proofs.YtjidenkhgeoaiaaGreatDoorW.PrintLast Go.Proofs.YtjidenkhgeoaiaaGreatDoorW.PrintMore Go.Proofs.YtjidenkhgeoaiaaGreatDoor.Hand
attribute [local go_sem] max2_int min2_int max_two min_two max_three min_three max_four min_four   -- for this text's walks alone
set_option linter.unusedVariables false
set_option linter.unusedSimpArgs false

attribute [local go_sem high] eqA36
/-! ### memb_Same: function 14 -/
def memb_Same.f (a0_0 : ByteArray) (a0_1 : Int) (a0_2 : Int) (a0_3 : Int) (a0_4 : Int) (a0_5 : Int) (a0_6 : ByteArray) (l0_7 : List Int) (a1_0 : ByteArray) (a1_1 : Int) (a1_2 : Int) (a1_3 : Int) (a1_4 : Int) (a1_5 : Int) (a1_6 : ByteArray) (l1_7 : List Int) : Option (Bool) := if a0_0.toList = a1_0.toList then (if a0_1 = a1_1 then (if (a0_2 == a1_2 && (a0_3 == a1_3 && (a0_4 == a1_4 && (a0_5 == a1_5)))) = true then (if a0_6.toList = a1_6.toList then ((bytes_Equal.f l0_7 l1_7).bind fun t140 => (some t140)) else (some false)) else (some false)) else (some false)) else (some false)
set_option maxHeartbeats 8000000 in
set_option maxRecDepth 100000 in
theorem memb_Same.calls (a0_0 : ByteArray) (a0_1 : Int) (a0_2 : Int) (a0_3 : Int) (a0_4 : Int) (a0_5 : Int) (a0_6 : ByteArray) (A0_7 : Option Addr) (c0_7 : Nat) (l0_7 : List Int) (a1_0 : ByteArray) (a1_1 : Int) (a1_2 : Int) (a1_3 : Int) (a1_4 : Int) (a1_5 : Int) (a1_6 : ByteArray) (A1_7 : Option Addr) (c1_7 : Nat) (l1_7 : List Int) (r : Bool) (w : World) (hr0_7 : Kd.C (Kd.int .u8) w A0_7 l0_7.length l0_7) (hc0_7 : l0_7.length ≤ c0_7) (hr1_7 : Kd.C (Kd.int .u8) w A1_7 l1_7.length l1_7) (hc1_7 : l1_7.length ≤ c1_7) (h : memb_Same.f a0_0 a0_1 a0_2 a0_3 a0_4 a0_5 a0_6 l0_7 a1_0 a1_1 a1_2 a1_3 a1_4 a1_5 a1_6 l1_7 = some r) :
  Calls Tryz.prog 14 #[.agg #[.string a0_0, .int .i64 a0_1, .int .i64 a0_2, .int .i64 a0_3, .int .i64 a0_4, .int .i64 a0_5, .string a0_6, .slice A0_7 l0_7.length c0_7], .agg #[.string a1_0, .int .i64 a1_1, .int .i64 a1_2, .int .i64 a1_3, .int .i64 a1_4, .int .i64 a1_5, .string a1_6, .slice A1_7 l1_7.length c1_7]] w fun e w' => e = .returned (.bool r) ∧ Below w.heap.size w w' := by
 have hu38 := Tryz.underlying38
 have hu36 := Tryz.underlying36
 have HR0_7 := Aside0.mk hr0_7
 have HC0_7 := Aside0.mk hc0_7
 clear hr0_7 hc0_7
 have HR1_7 := Aside0.mk hr1_7
 have HC1_7 := Aside0.mk hc1_7
 clear hr1_7 hc1_7
 have HB := Aside0.mk (Below.refl w.heap.size w)
 have H : (if a0_0.toList = a1_0.toList then (if a0_1 = a1_1 then (if (a0_2 == a1_2 && (a0_3 == a1_3 && (a0_4 == a1_4 && (a0_5 == a1_5)))) = true then (if a0_6.toList = a1_6.toList then ((bytes_Equal.f l0_7 l1_7).bind fun t140 => (some t140)) else (some false)) else (some false)) else (some false)) else (some false)) = some r := h
 clear h
 by_cases c3 : a0_0.toList = a1_0.toList
 ·rw [if_pos c3] at H
  have c3b0 : (a0_0.toList == a1_0.toList) = true := beq_iff_eq.mpr c3
  have c3b1 : (a0_0.toList != a1_0.toList) = false := bne_eq_false_iff_eq.mpr c3
  clear c3
  by_cases c4 : a0_1 = a1_1
  ·rw [if_pos c4] at H
   have c4b0 : (a0_1 == a1_1) = true := beq_iff_eq.mpr c4
   have c4b1 : (a0_1 != a1_1) = false := bne_eq_false_iff_eq.mpr c4
   clear c4
   by_cases c5 : (a0_2 == a1_2 && (a0_3 == a1_3 && (a0_4 == a1_4 && (a0_5 == a1_5)))) = true
   ·rw [if_pos c5] at H
    have c5b0 : (a0_2 == a1_2 && (a0_3 == a1_3 && (a0_4 == a1_4 && (a0_5 == a1_5)))) = true := c5
    (try (have c5b1 : decide (a0_2 = a1_2 && (a0_3 == a1_3 && (a0_4 == a1_4 && (a0_5 == a1_5)))) = true := by simpa using c5))
    (try (have c5b2 : (a0_2 == a1_2 && (a0_3 == a1_3 && (a0_4 == a1_4 && (a0_5 == a1_5)))) = true := by simpa using c5))
    clear c5
    by_cases c6 : a0_6.toList = a1_6.toList
    ·rw [if_pos c6] at H
     have c6b0 : (a0_6.toList == a1_6.toList) = true := beq_iff_eq.mpr c6
     have c6b1 : (a0_6.toList != a1_6.toList) = false := bne_eq_false_iff_eq.mpr c6
     clear c6
     replace H := Option.bind_eq_some_iff.mp H
     obtain ⟨t140, A70, H⟩ := H
     try dsimp only at H
     have A7 := Aside0.mk A70
     clear A70
     obtain rfl := Option.some.inj H
     go_enter Tryz.func14, Tryz.ntmps14
     go_wp2_with (first | ((with_reducible refine gate_dst (N := 2) rfl ?_); refine boxA_ 2 38 #[.string a0_0, .int .i64 a0_1, .int .i64 a0_2, .int .i64 a0_3, .int .i64 a0_4, .int .i64 a0_5, .string a0_6, .slice A0_7 l0_7.length c0_7] ?_; intro gb138 hg w8 hbox hb; have n0_ := Aside0.mk (bstep_ hb); have n1_ := Aside0.mk (hbox); have n2_ := Aside0.mk ((by rw [hg]; exact bsize_ : w.heap.size ≤ gb138)); have n3_ := Aside0.mk ((by rw [hg]; exact bsize_ : w.heap.size ≤ gb138)); clear HB; have HB := n0_; have BK138 := n1_; have GW138 := n2_; have GE138 := n3_; clear n0_ n1_ n2_ n3_; clear hb hbox hg) | ((with_reducible refine gate_dst (N := 3) rfl ?_); refine boxA_ 3 38 #[.string a1_0, .int .i64 a1_1, .int .i64 a1_2, .int .i64 a1_3, .int .i64 a1_4, .int .i64 a1_5, .string a1_6, .slice A1_7 l1_7.length c1_7] ?_; intro gb139 hg w9 hbox hb; have n0_ := Aside0.mk (blkB_ BK138.out hb); have n1_ := Aside0.mk (bstep_ hb); have n2_ := Aside0.mk (hbox); have n3_ := Aside0.mk ((by rw [hg]; exact bsize_ : w.heap.size ≤ gb139)); have n4_ := Aside0.mk ((by rw [hg]; exact bsize_ : w.heap.size ≤ gb139)); have n5_ := Aside0.mk ((by rw [hg]; exact Nat.ne_of_lt (blkL_ BK138.out) : gb138 ≠ gb139)); have n6_ := Aside0.mk ((by rw [hg]; exact Nat.ne_of_gt (blkL_ BK138.out) : gb139 ≠ gb138)); clear BK138; clear HB; have BK138 := n0_; have HB := n1_; have BK139 := n2_; have GW139 := n3_; have GE139 := n4_; have NB138_139 := n5_; have NB139_138 := n6_; clear n0_ n1_ n2_ n3_ n4_ n5_ n6_; clear hb hbox hg; have hnb10 := NB138_139.out; have hnc10 := NB139_138.out; obtain ⟨hcz11_0, hcz11_1, hcz11_2, hcz11_3, hcz11_4, hcz11_5, hcz11_6, hcz11_7, hfz11_0, hfz11_1, hfz11_2, hfz11_3, hfz11_4, hfz11_5, hfz11_6, hfz11_7⟩ := blk_all8 BK138.out; obtain ⟨hcz12_0, hcz12_1, hcz12_2, hcz12_3, hcz12_4, hcz12_5, hcz12_6, hcz12_7, hfz12_0, hfz12_1, hfz12_2, hfz12_3, hfz12_4, hfz12_5, hfz12_6, hfz12_7⟩ := blk_all8 BK139.out) | (go_at_call 28; (with_reducible refine (bytes_Equal.calls _ _ l0_7 _ _ l1_7 t140 _ ?side1 ?side2 ?side3 ?side4 A7.out).mono ?_); (case side1 => repeat (first | exact (Kd.C_below HR0_7.out HB.out) | (with_reducible refine Kd.C_alloc ?_ _) | (with_reducible refine Kd.C_drewN ?_ _) | (with_reducible refine Kd.C_drew ?_))); (case side2 => exact HC0_7.out); (case side3 => repeat (first | exact (Kd.C_below HR1_7.out HB.out) | (with_reducible refine Kd.C_alloc ?_ _) | (with_reducible refine Kd.C_drewN ?_ _) | (with_reducible refine Kd.C_drew ?_))); (case side4 => exact HC1_7.out); rintro e w' ⟨rfl, ⟨nd, rfl⟩⟩))
     go_ret
     exact finA_
    ·rw [if_neg c6] at H
     have c6b0 : (a0_6.toList == a1_6.toList) = false := beq_eq_false_iff_ne.mpr c6
     have c6b1 : (a0_6.toList != a1_6.toList) = true := bne_iff_ne.mpr c6
     obtain rfl := Option.some.inj H
     go_enter Tryz.func14, Tryz.ntmps14
     go_wp2_with (first | ((with_reducible refine gate_dst (N := 2) rfl ?_); refine boxA_ 2 38 #[.string a0_0, .int .i64 a0_1, .int .i64 a0_2, .int .i64 a0_3, .int .i64 a0_4, .int .i64 a0_5, .string a0_6, .slice A0_7 l0_7.length c0_7] ?_; intro gb138 hg w13 hbox hb; have n0_ := Aside0.mk (bstep_ hb); have n1_ := Aside0.mk (hbox); have n2_ := Aside0.mk ((by rw [hg]; exact bsize_ : w.heap.size ≤ gb138)); have n3_ := Aside0.mk ((by rw [hg]; exact bsize_ : w.heap.size ≤ gb138)); clear HB; have HB := n0_; have BK138 := n1_; have GW138 := n2_; have GE138 := n3_; clear n0_ n1_ n2_ n3_; clear hb hbox hg) | ((with_reducible refine gate_dst (N := 3) rfl ?_); refine boxA_ 3 38 #[.string a1_0, .int .i64 a1_1, .int .i64 a1_2, .int .i64 a1_3, .int .i64 a1_4, .int .i64 a1_5, .string a1_6, .slice A1_7 l1_7.length c1_7] ?_; intro gb139 hg w14 hbox hb; have n0_ := Aside0.mk (blkB_ BK138.out hb); have n1_ := Aside0.mk (bstep_ hb); have n2_ := Aside0.mk (hbox); have n3_ := Aside0.mk ((by rw [hg]; exact bsize_ : w.heap.size ≤ gb139)); have n4_ := Aside0.mk ((by rw [hg]; exact bsize_ : w.heap.size ≤ gb139)); have n5_ := Aside0.mk ((by rw [hg]; exact Nat.ne_of_lt (blkL_ BK138.out) : gb138 ≠ gb139)); have n6_ := Aside0.mk ((by rw [hg]; exact Nat.ne_of_gt (blkL_ BK138.out) : gb139 ≠ gb138)); clear BK138; clear HB; have BK138 := n0_; have HB := n1_; have BK139 := n2_; have GW139 := n3_; have GE139 := n4_; have NB138_139 := n5_; have NB139_138 := n6_; clear n0_ n1_ n2_ n3_ n4_ n5_ n6_; clear hb hbox hg; have hnb15 := NB138_139.out; have hnc15 := NB139_138.out; obtain ⟨hcz16_0, hcz16_1, hcz16_2, hcz16_3, hcz16_4, hcz16_5, hcz16_6, hcz16_7, hfz16_0, hfz16_1, hfz16_2, hfz16_3, hfz16_4, hfz16_5, hfz16_6, hfz16_7⟩ := blk_all8 BK138.out; obtain ⟨hcz17_0, hcz17_1, hcz17_2, hcz17_3, hcz17_4, hcz17_5, hcz17_6, hcz17_7, hfz17_0, hfz17_1, hfz17_2, hfz17_3, hfz17_4, hfz17_5, hfz17_6, hfz17_7⟩ := blk_all8 BK139.out))
     go_ret
     exact finA_
   ·rw [if_neg c5] at H
    have c5b0 : (a0_2 == a1_2 && (a0_3 == a1_3 && (a0_4 == a1_4 && (a0_5 == a1_5)))) = false := by simpa using c5
    (try (have c5b1 : decide (a0_2 = a1_2 && (a0_3 == a1_3 && (a0_4 == a1_4 && (a0_5 == a1_5)))) = false := by simpa using c5))
    (try (have c5b2 : (a0_2 == a1_2 && (a0_3 == a1_3 && (a0_4 == a1_4 && (a0_5 == a1_5)))) = false := by simpa using c5))
    (try (have c5b3 : ¬ (a0_2 = a1_2 && (a0_3 == a1_3 && (a0_4 == a1_4 && (a0_5 == a1_5)))) := by simpa using c5))
    clear c5
    obtain rfl := Option.some.inj H
    go_enter Tryz.func14, Tryz.ntmps14
    go_wp2_with (first | ((with_reducible refine gate_dst (N := 2) rfl ?_); refine boxA_ 2 38 #[.string a0_0, .int .i64 a0_1, .int .i64 a0_2, .int .i64 a0_3, .int .i64 a0_4, .int .i64 a0_5, .string a0_6, .slice A0_7 l0_7.length c0_7] ?_; intro gb138 hg w18 hbox hb; have n0_ := Aside0.mk (bstep_ hb); have n1_ := Aside0.mk (hbox); have n2_ := Aside0.mk ((by rw [hg]; exact bsize_ : w.heap.size ≤ gb138)); have n3_ := Aside0.mk ((by rw [hg]; exact bsize_ : w.heap.size ≤ gb138)); clear HB; have HB := n0_; have BK138 := n1_; have GW138 := n2_; have GE138 := n3_; clear n0_ n1_ n2_ n3_; clear hb hbox hg) | ((with_reducible refine gate_dst (N := 3) rfl ?_); refine boxA_ 3 38 #[.string a1_0, .int .i64 a1_1, .int .i64 a1_2, .int .i64 a1_3, .int .i64 a1_4, .int .i64 a1_5, .string a1_6, .slice A1_7 l1_7.length c1_7] ?_; intro gb139 hg w19 hbox hb; have n0_ := Aside0.mk (blkB_ BK138.out hb); have n1_ := Aside0.mk (bstep_ hb); have n2_ := Aside0.mk (hbox); have n3_ := Aside0.mk ((by rw [hg]; exact bsize_ : w.heap.size ≤ gb139)); have n4_ := Aside0.mk ((by rw [hg]; exact bsize_ : w.heap.size ≤ gb139)); have n5_ := Aside0.mk ((by rw [hg]; exact Nat.ne_of_lt (blkL_ BK138.out) : gb138 ≠ gb139)); have n6_ := Aside0.mk ((by rw [hg]; exact Nat.ne_of_gt (blkL_ BK138.out) : gb139 ≠ gb138)); clear BK138; clear HB; have BK138 := n0_; have HB := n1_; have BK139 := n2_; have GW139 := n3_; have GE139 := n4_; have NB138_139 := n5_; have NB139_138 := n6_; clear n0_ n1_ n2_ n3_ n4_ n5_ n6_; clear hb hbox hg; have hnb20 := NB138_139.out; have hnc20 := NB139_138.out; obtain ⟨hcz21_0, hcz21_1, hcz21_2, hcz21_3, hcz21_4, hcz21_5, hcz21_6, hcz21_7, hfz21_0, hfz21_1, hfz21_2, hfz21_3, hfz21_4, hfz21_5, hfz21_6, hfz21_7⟩ := blk_all8 BK138.out; obtain ⟨hcz22_0, hcz22_1, hcz22_2, hcz22_3, hcz22_4, hcz22_5, hcz22_6, hcz22_7, hfz22_0, hfz22_1, hfz22_2, hfz22_3, hfz22_4, hfz22_5, hfz22_6, hfz22_7⟩ := blk_all8 BK139.out))
    go_ret
    exact finA_
  ·rw [if_neg c4] at H
   have c4b0 : (a0_1 == a1_1) = false := beq_eq_false_iff_ne.mpr c4
   have c4b1 : (a0_1 != a1_1) = true := bne_iff_ne.mpr c4
   obtain rfl := Option.some.inj H
   go_enter Tryz.func14, Tryz.ntmps14
   go_wp2_with (first | ((with_reducible refine gate_dst (N := 2) rfl ?_); refine boxA_ 2 38 #[.string a0_0, .int .i64 a0_1, .int .i64 a0_2, .int .i64 a0_3, .int .i64 a0_4, .int .i64 a0_5, .string a0_6, .slice A0_7 l0_7.length c0_7] ?_; intro gb138 hg w23 hbox hb; have n0_ := Aside0.mk (bstep_ hb); have n1_ := Aside0.mk (hbox); have n2_ := Aside0.mk ((by rw [hg]; exact bsize_ : w.heap.size ≤ gb138)); have n3_ := Aside0.mk ((by rw [hg]; exact bsize_ : w.heap.size ≤ gb138)); clear HB; have HB := n0_; have BK138 := n1_; have GW138 := n2_; have GE138 := n3_; clear n0_ n1_ n2_ n3_; clear hb hbox hg) | ((with_reducible refine gate_dst (N := 3) rfl ?_); refine boxA_ 3 38 #[.string a1_0, .int .i64 a1_1, .int .i64 a1_2, .int .i64 a1_3, .int .i64 a1_4, .int .i64 a1_5, .string a1_6, .slice A1_7 l1_7.length c1_7] ?_; intro gb139 hg w24 hbox hb; have n0_ := Aside0.mk (blkB_ BK138.out hb); have n1_ := Aside0.mk (bstep_ hb); have n2_ := Aside0.mk (hbox); have n3_ := Aside0.mk ((by rw [hg]; exact bsize_ : w.heap.size ≤ gb139)); have n4_ := Aside0.mk ((by rw [hg]; exact bsize_ : w.heap.size ≤ gb139)); have n5_ := Aside0.mk ((by rw [hg]; exact Nat.ne_of_lt (blkL_ BK138.out) : gb138 ≠ gb139)); have n6_ := Aside0.mk ((by rw [hg]; exact Nat.ne_of_gt (blkL_ BK138.out) : gb139 ≠ gb138)); clear BK138; clear HB; have BK138 := n0_; have HB := n1_; have BK139 := n2_; have GW139 := n3_; have GE139 := n4_; have NB138_139 := n5_; have NB139_138 := n6_; clear n0_ n1_ n2_ n3_ n4_ n5_ n6_; clear hb hbox hg; have hnb25 := NB138_139.out; have hnc25 := NB139_138.out; obtain ⟨hcz26_0, hcz26_1, hcz26_2, hcz26_3, hcz26_4, hcz26_5, hcz26_6, hcz26_7, hfz26_0, hfz26_1, hfz26_2, hfz26_3, hfz26_4, hfz26_5, hfz26_6, hfz26_7⟩ := blk_all8 BK138.out; obtain ⟨hcz27_0, hcz27_1, hcz27_2, hcz27_3, hcz27_4, hcz27_5, hcz27_6, hcz27_7, hfz27_0, hfz27_1, hfz27_2, hfz27_3, hfz27_4, hfz27_5, hfz27_6, hfz27_7⟩ := blk_all8 BK139.out))
   go_ret
   exact finA_
 ·rw [if_neg c3] at H
  have c3b0 : (a0_0.toList == a1_0.toList) = false := beq_eq_false_iff_ne.mpr c3
  have c3b1 : (a0_0.toList != a1_0.toList) = true := bne_iff_ne.mpr c3
  obtain rfl := Option.some.inj H
  go_enter Tryz.func14, Tryz.ntmps14
  go_wp2_with (first | ((with_reducible refine gate_dst (N := 2) rfl ?_); refine boxA_ 2 38 #[.string a0_0, .int .i64 a0_1, .int .i64 a0_2, .int .i64 a0_3, .int .i64 a0_4, .int .i64 a0_5, .string a0_6, .slice A0_7 l0_7.length c0_7] ?_; intro gb138 hg w28 hbox hb; have n0_ := Aside0.mk (bstep_ hb); have n1_ := Aside0.mk (hbox); have n2_ := Aside0.mk ((by rw [hg]; exact bsize_ : w.heap.size ≤ gb138)); have n3_ := Aside0.mk ((by rw [hg]; exact bsize_ : w.heap.size ≤ gb138)); clear HB; have HB := n0_; have BK138 := n1_; have GW138 := n2_; have GE138 := n3_; clear n0_ n1_ n2_ n3_; clear hb hbox hg) | ((with_reducible refine gate_dst (N := 3) rfl ?_); refine boxA_ 3 38 #[.string a1_0, .int .i64 a1_1, .int .i64 a1_2, .int .i64 a1_3, .int .i64 a1_4, .int .i64 a1_5, .string a1_6, .slice A1_7 l1_7.length c1_7] ?_; intro gb139 hg w29 hbox hb; have n0_ := Aside0.mk (blkB_ BK138.out hb); have n1_ := Aside0.mk (bstep_ hb); have n2_ := Aside0.mk (hbox); have n3_ := Aside0.mk ((by rw [hg]; exact bsize_ : w.heap.size ≤ gb139)); have n4_ := Aside0.mk ((by rw [hg]; exact bsize_ : w.heap.size ≤ gb139)); have n5_ := Aside0.mk ((by rw [hg]; exact Nat.ne_of_lt (blkL_ BK138.out) : gb138 ≠ gb139)); have n6_ := Aside0.mk ((by rw [hg]; exact Nat.ne_of_gt (blkL_ BK138.out) : gb139 ≠ gb138)); clear BK138; clear HB; have BK138 := n0_; have HB := n1_; have BK139 := n2_; have GW139 := n3_; have GE139 := n4_; have NB138_139 := n5_; have NB139_138 := n6_; clear n0_ n1_ n2_ n3_ n4_ n5_ n6_; clear hb hbox hg; have hnb30 := NB138_139.out; have hnc30 := NB139_138.out; obtain ⟨hcz31_0, hcz31_1, hcz31_2, hcz31_3, hcz31_4, hcz31_5, hcz31_6, hcz31_7, hfz31_0, hfz31_1, hfz31_2, hfz31_3, hfz31_4, hfz31_5, hfz31_6, hfz31_7⟩ := blk_all8 BK138.out; obtain ⟨hcz32_0, hcz32_1, hcz32_2, hcz32_3, hcz32_4, hcz32_5, hcz32_6, hcz32_7, hfz32_0, hfz32_1, hfz32_2, hfz32_3, hfz32_4, hfz32_5, hfz32_6, hfz32_7⟩ := blk_all8 BK139.out))
  go_ret
  exact finA_

end Go.Proofs.YtjidenkhgeoaiaaGreatDoor.P

/- The contract, by hand, of strf.Split, in the printer's form. -/
namespace Go.Proofs.YtjidenkhgeoaiaaGreatDoor.Hand
open Go.RowKit Go.Proofs.YtjidenkhgeoaiaaGreatDoorW.PrintWords Go.Proofs.YtjidenkhgeoaiaaGreatDoorW.PrintLast Go.Proofs.YtjidenkhgeoaiaaGreatDoorW.PrintMore
set_option linter.unusedVariables false
set_option linter.unusedSimpArgs false

/-- The cut of a path, from a place on. -/
def splitLoop : Nat → ByteArray → Nat → Option (ByteArray × ByteArray × Bool)
  | 0, _, _ => none
  | k + 1, p, j =>
    if Lib.indexByte (p.extract j p.size).data.toList 47 < 0 then some (⟨#[]⟩, ⟨#[]⟩, false)
    else if 155 < (p.extract 0 (j + (Lib.indexByte (p.extract j p.size).data.toList 47).toNat)).size ∨ (p.extract (j + (Lib.indexByte (p.extract j p.size).data.toList 47).toNat + 1) p.size).toList = [] then some (⟨#[]⟩, ⟨#[]⟩, false)
    else if (p.extract 0 (j + (Lib.indexByte (p.extract j p.size).data.toList 47).toNat)).toList ≠ [] ∧ (p.extract (j + (Lib.indexByte (p.extract j p.size).data.toList 47).toNat + 1) p.size).size ≤ 100 then
      some (p.extract 0 (j + (Lib.indexByte (p.extract j p.size).data.toList 47).toNat), p.extract (j + (Lib.indexByte (p.extract j p.size).data.toList 47).toNat + 1) p.size, true)
    else splitLoop k p (j + (Lib.indexByte (p.extract j p.size).data.toList 47).toNat + 1)
def strf_Split.f (a0 : ByteArray) : Option (ByteArray × ByteArray × Bool) := if a0.toList ≠ [] ∧ a0.size ≤ 100 then some (⟨#[]⟩, a0, true) else if a0.size ≤ 4611686018427387904 then splitLoop (a0.size + 2) a0 0 else none

set_option maxHeartbeats 4000000 in
set_option maxRecDepth 100000 in
theorem strf_Split.calls0 (a0 r1 r2 : ByteArray) (r3 : Bool) (w : World) (h : strf_Split.f a0 = some (r1, r2, r3)) :
    Calls Tryz.prog 53 #[.string a0] w fun e w' => e = .returned (.tuple #[.string r1, .string r2, .bool r3]) ∧ Drawn0 w w' := by
  unfold strf_Split.f at h
  by_cases c : a0.toList ≠ [] ∧ a0.size ≤ 100
  · rw [if_pos c] at h
    obtain ⟨c1, c2⟩ := c
    simp only [Option.some.injEq, Prod.mk.injEq] at h
    obtain ⟨rfl, rfl, rfl⟩ := h
    have b1 : a0.toList.isEmpty = false := by simpa using c1
    have b2 : (!a0.toList.isEmpty) = true := by simpa using c1
    have b3 : decide ((a0.size : Int) ≤ 100) = true := decide_eq_true (by omega)
    go_enter Tryz.func53, Tryz.ntmps53
    go_wp2
    go_step3
    go_wp2
    rw [Exit.noGoto_ret]
    go_ret3
    exact ⟨rfl, Drawn0.refl _⟩
  · rw [if_neg c] at h
    by_cases hsm : a0.size ≤ 4611686018427387904
    case neg => rw [if_neg hsm] at h; cases h
    rw [if_pos hsm] at h
    have H := Aside0.mk h
    clear h
    have hcase : (a0.toList.isEmpty = true ∧ (!a0.toList.isEmpty) = false ∧ True) ∨ (a0.toList.isEmpty = false ∧ (!a0.toList.isEmpty) = true ∧ decide ((a0.size : Int) ≤ 100) = false) := by
      by_cases e : a0.toList = []
      · exact .inl ⟨by simp [e], by simp [e], trivial⟩
      · exact .inr ⟨by simpa using e, by simpa using e, decide_eq_false (fun h => c ⟨e, by omega⟩)⟩
    clear c
    rcases hcase with ⟨b1, b2, b3⟩ | ⟨b1, b2, b3⟩
    all_goals
      go_enter Tryz.func53, Tryz.ntmps53
      go_wp2
      go_step3
      go_wp2
      go_step3
      go_wp2
      go_loopg [5] (a0.size + 2) (fun kq v5 w' => ∃ j : Nat, v5 = .int .i64 j ∧ Aside0 (j ≤ a0.size) ∧ Aside0 (splitLoop kq a0 j = some (r1, r2, r3)) ∧ Aside0 (Drawn0 w w'))
      case atStart => exact ⟨0, rfl, ⟨Nat.zero_le _⟩, H, ⟨Drawn0.refl _⟩⟩
      case round =>
        clear H
        obtain ⟨j, rfl, hj, hs, hw⟩ := hrel
        cases gk with
        | zero => exact absurd hs.out (by simp [splitLoop])
        | succ k2 =>
          have hs1 := hs.out
          simp only [splitLoop] at hs1
          have hlt := indexByte_lt (a0.extract j a0.size).data.toList 47
          have hge := Lib.indexByte_ge (a0.extract j a0.size).data.toList 47
          have hj1 := hj.out
          have hsz : (a0.extract j a0.size).data.toList.length = a0.size - j := by
            rw [← Lib.size_eq, ByteArray.size_extract]; omega
          rw [hsz] at hlt
          have hidx := Aside0.mk (Tryz.strings_Index_one (a0.extract j a0.size) 47 wr)
          generalize Lib.indexByte (a0.extract j a0.size).data.toList 47 = i at *
          clear hsz
          by_cases h0 : i < 0
          · rw [if_pos h0] at hs1
            simp only [Option.some.injEq, Prod.mk.injEq] at hs1
            obtain ⟨rfl, rfl, rfl⟩ := hs1
            have d1 : decide (i < 0) = true := decide_eq_true h0
            go_wp2_with (go_at_call 73; (with_reducible refine (hidx.out).mono ?_); rintro e w2 ⟨rfl, rfl⟩)
            rw [Exit.noGoto_ret]
            go_ret3
            exact ⟨rfl, hw.out⟩
          · rw [if_neg h0] at hs1
            have d1 : decide (i < 0) = false := decide_eq_false h0
            obtain ⟨m, rfl⟩ := Int.eq_ofNat_of_zero_le (show 0 ≤ i by omega)
            rw [Int.toNat_natCast] at hs1
            have hw1 : IntKind.i64.wrap ((j : Int) + (m : Int)) = (j : Int) + (m : Int) := IntWalk.i64_in _ (by omega)
            go_wp2_with (go_at_call 73; (with_reducible refine (hidx.out).mono ?_); rintro e w2 ⟨rfl, rfl⟩)
            have p1 : (0 : Int) ≤ (j : Int) + (m : Int) := by omega
            have p2 : (j : Int) + (m : Int) ≤ (a0.size : Int) := by omega
            have p3 : (j : Int) + (m : Int) + 1 ≤ (a0.size : Int) := by omega
            have hw2 : IntKind.i64.wrap ((j : Int) + (m : Int) + 1) = (j : Int) + (m : Int) + 1 := IntWalk.i64_in _ (by omega)
            have t1 : ((j : Int) + (m : Int)).toNat = j + m := by omega
            have t2 : ((j : Int) + (m : Int) + 1).toNat = j + m + 1 := by omega
            go_quiet (fail)
            generalize a0.extract 0 (j + m) = pre at hs1 ⊢
            generalize a0.extract (j + m + 1) a0.size = nm at hs1 ⊢
            have hwd : Aside0 (Drawn0 w (w2.drewN nq)) := ⟨Drawn0.step hw.out _⟩
            clear hw t1 t2 hw1 hw2 p1 p2 hidx
            generalize w2.drewN nq = w3 at hwd ⊢
            by_cases e1 : 155 < pre.size
            · rw [if_pos (.inl e1)] at hs1
              simp only [Option.some.injEq, Prod.mk.injEq] at hs1
              obtain ⟨rfl, rfl, rfl⟩ := hs1
              have f1 : decide ((155 : Int) < (pre.size : Int)) = true := decide_eq_true (by omega)
              go_wp2
              rw [Exit.noGoto_ret]
              go_ret3
              exact ⟨rfl, hwd.out⟩
            have f1 : decide ((155 : Int) < (pre.size : Int)) = false := decide_eq_false (by omega)
            by_cases e2 : nm.toList = []
            · rw [if_pos (.inr e2)] at hs1
              simp only [Option.some.injEq, Prod.mk.injEq] at hs1
              obtain ⟨rfl, rfl, rfl⟩ := hs1
              have f2 : nm.toList.isEmpty = true := by simp [e2]
              go_wp2
              rw [Exit.noGoto_ret]
              go_ret3
              exact ⟨rfl, hwd.out⟩
            rw [if_neg (fun h => h.elim e1 e2)] at hs1
            have f2 : nm.toList.isEmpty = false := by simpa using e2
            have f3 : (!nm.toList.isEmpty) = true := by simp [f2]
            by_cases e3 : pre.toList = []
            · rw [if_neg (fun h => h.1 e3)] at hs1
              have hs2 := Aside0.mk hs1
              have f4 : pre.toList.isEmpty = true := by simp [e3]
              clear hs1 e2
              have hj2 : Aside0 (j + m + 1 ≤ a0.size) := ⟨by omega⟩
              go_wp2
              go_roundg k2
              case rel => exact ⟨j + m + 1, by push_cast; go_num, hj2, hs2, hwd⟩
              case measure => omega
            · have f4 : pre.toList.isEmpty = false := by simpa using e3
              have f5 : (!pre.toList.isEmpty) = true := by simp [f4]
              by_cases e4 : nm.size ≤ 100
              · rw [if_pos ⟨e3, e4⟩] at hs1
                simp only [Option.some.injEq, Prod.mk.injEq] at hs1
                obtain ⟨rfl, rfl, rfl⟩ := hs1
                have f6 : decide ((nm.size : Int) ≤ 100) = true := decide_eq_true (by omega)
                go_wp2
                rw [Exit.noGoto_ret]
                go_ret3
                exact ⟨rfl, hwd.out⟩
              · rw [if_neg (fun h => e4 h.2)] at hs1
                have hs2 := Aside0.mk hs1
                have f6 : decide ((nm.size : Int) ≤ 100) = false := decide_eq_false (by omega)
                clear hs1 e2
                have hj2 : Aside0 (j + m + 1 ≤ a0.size) := ⟨by omega⟩
                go_wp2
                go_roundg k2
                case rel => exact ⟨j + m + 1, by push_cast; go_num, hj2, hs2, hwd⟩
                case measure => omega
theorem strf_Split.calls (a0 r1 r2 : ByteArray) (r3 : Bool) (w : World) (h : strf_Split.f a0 = some (r1, r2, r3)) :
    Calls Tryz.prog 53 #[.string a0] w fun e w' => e = .returned (.tuple #[.string r1, .string r2, .bool r3]) ∧ Below w.heap.size w w' :=
  (strf_Split.calls0 a0 r1 r2 r3 w h).mono fun _ _ ⟨h1, h2⟩ => ⟨h1, h2.below⟩
end Go.Proofs.YtjidenkhgeoaiaaGreatDoor.Hand

namespace Go.Proofs.YtjidenkhgeoaiaaGreatDoor.P
open Go.RowKit Go.Proofs.YtjidenkhgeoaiaaGreatDoorW.PrintWords Go.Proofs.YtjidenkhgeoaiaaGreatDoorW.PrintLast Go.Proofs.YtjidenkhgeoaiaaGreatDoorW.PrintMore Go.Proofs.YtjidenkhgeoaiaaGreatDoor.Hand
attribute [local go_sem] max2_int min2_int max_two min_two max_three min_three max_four min_four   -- for this text's walks alone
set_option linter.unusedVariables false
set_option linter.unusedSimpArgs false

/-! ### strf_Fits: function 33 -/
def strf_Fits.f (a0 : ByteArray) : Option (Bool) := (strf_Split.f a0).bind fun bt141 => (some bt141.2.2)
set_option maxHeartbeats 8000000 in
set_option maxRecDepth 100000 in
theorem strf_Fits.calls (a0 : ByteArray) (r : Bool) (w : World) (h : strf_Fits.f a0 = some r) :
  Calls Tryz.prog 33 #[.string a0] w fun e w' => e = .returned (.bool r) ∧ Below w.heap.size w w' := by
 have HB := Aside0.mk (Below.refl w.heap.size w)
 have H : ((strf_Split.f a0).bind fun bt141 => (some bt141.2.2)) = some r := h
 clear h
 replace H := Option.bind_eq_some_iff.mp H
 obtain ⟨⟨t141, t142, t143⟩, A20, H⟩ := H
 try dsimp only at H
 have A2 := Aside0.mk A20
 clear A20
 obtain rfl := Option.some.inj H
 go_enter Tryz.func33, Tryz.ntmps33
 go_wp2_with (first | ((with_reducible refine gate_callee (f := 53) rfl ?_); refine goesA_ (some 8) Tryz.func53 #[.string a0] ?_; (with_reducible refine (strf_Split.calls a0 t141 t142 t143 _ A2.out).mono ?_); rintro e w3 ⟨rfl, hb⟩; refine ⟨_, rfl, ?_⟩; have n0_ := Aside0.mk (bstep_ hb); clear HB; have HB := n0_; clear n0_; (try clear hb); (try clear hb2); (try clear hk); (try clear hi)))
 go_ret
 exact finA_

/-- THE ONE PURE STATEMENT of strf_Fits: yours. -/
def strf_Fits.Pure : Prop := ∀ (a0 : ByteArray), a0.size ≤ 140737488351232 → strf_Fits.f a0 = some true
theorem strf_Fits.walk (P : strf_Fits.Pure) (a0 : ByteArray) (w : World) (w0 : a0.size ≤ 140737488351232) :
  Calls Tryz.prog 33 #[.string a0] w fun e w' => e = .returned (.bool true) ∧ Below w.heap.size w w' := by
 have h := P a0 w0
 refine (strf_Fits.calls a0 true w h).mono ?_
 rintro e w' ⟨rfl, hd⟩
 exact ⟨rfl, hd⟩


/-! ### memb_Recs: function 17 -/
def memb_Recs.f (a0_0 : ByteArray) (a0_1 : Int) (a0_2 : Int) (a0_3 : Int) (a0_4 : Int) (a0_5 : Int) (a0_6 : ByteArray) (l0_7 : List Int) : Option ((List (S35))) := (strf_Fits.f a0_0).bind fun t145 => (if t145 = true then (if (a0_6.size : Int) > 100 then (if ([] : List (S35)).length < 4398046511104 then (some (([] : List (S35)) ++ [(⟨(⟨#[108, 105, 110, 107, 112, 97, 116, 104]⟩ : ByteArray), a0_6⟩ : S35)])) else (none)) else (some ([] : List (S35)))) else (if ([] : List (S35)).length < 4398046511104 then ((some (([] : List (S35)) ++ [(⟨(⟨#[112, 97, 116, 104]⟩ : ByteArray), a0_0⟩ : S35)] : List (S35))).bind fun y149 => (if (a0_6.size : Int) > 100 then (if y149.length < 4398046511104 then (some (y149 ++ [(⟨(⟨#[108, 105, 110, 107, 112, 97, 116, 104]⟩ : ByteArray), a0_6⟩ : S35)])) else (none)) else (some y149))) else (none)))
set_option maxHeartbeats 8000000 in
set_option maxRecDepth 100000 in
theorem memb_Recs.calls (a0_0 : ByteArray) (a0_1 : Int) (a0_2 : Int) (a0_3 : Int) (a0_4 : Int) (a0_5 : Int) (a0_6 : ByteArray) (A0_7 : Option Addr) (c0_7 : Nat) (l0_7 : List Int) (r : List (S35)) (w : World) (hr0_7 : Kd.C (Kd.int .u8) w A0_7 l0_7.length l0_7) (hc0_7 : l0_7.length ≤ c0_7) (h : memb_Recs.f a0_0 a0_1 a0_2 a0_3 a0_4 a0_5 a0_6 l0_7 = some r) :
  Calls Tryz.prog 17 #[.agg #[.string a0_0, .int .i64 a0_1, .int .i64 a0_2, .int .i64 a0_3, .int .i64 a0_4, .int .i64 a0_5, .string a0_6, .slice A0_7 l0_7.length c0_7]] w fun e w' => ∃ v0_ : Value, e = .returned (v0_) ∧ Kd.R k35 35 w' w.heap.size (fun _ => True) v0_ r ∧ Below w.heap.size w w' := by
 have hu38 := Tryz.underlying38
 have hu35 := Tryz.underlying35
 have HR0_7 := Aside0.mk hr0_7
 have HC0_7 := Aside0.mk hc0_7
 clear hr0_7 hc0_7
 have HB := Aside0.mk (Below.refl w.heap.size w)
 have H : ((strf_Fits.f a0_0).bind fun t145 => (if t145 = true then (if (a0_6.size : Int) > 100 then (if ([] : List (S35)).length < 4398046511104 then (some (([] : List (S35)) ++ [(⟨(⟨#[108, 105, 110, 107, 112, 97, 116, 104]⟩ : ByteArray), a0_6⟩ : S35)])) else (none)) else (some ([] : List (S35)))) else (if ([] : List (S35)).length < 4398046511104 then ((some (([] : List (S35)) ++ [(⟨(⟨#[112, 97, 116, 104]⟩ : ByteArray), a0_0⟩ : S35)] : List (S35))).bind fun y149 => (if (a0_6.size : Int) > 100 then (if y149.length < 4398046511104 then (some (y149 ++ [(⟨(⟨#[108, 105, 110, 107, 112, 97, 116, 104]⟩ : ByteArray), a0_6⟩ : S35)])) else (none)) else (some y149))) else (none)))) = some r := h
 clear h
 replace H := Option.bind_eq_some_iff.mp H
 obtain ⟨t145, A20, H⟩ := H
 try dsimp only at H
 have A2 := Aside0.mk A20
 clear A20
 by_cases c3 : t145 = true
 ·subst c3
  have H1 := H; rw [if_pos rfl] at H1
  clear H
  have H := H1
  clear H1
  by_cases c4 : (a0_6.size : Int) > 100
  ·rw [if_pos c4] at H
   have c4b0 : decide (100 < (a0_6.size : Int)) = true := decide_eq_true c4
   have c4b1 : decide (100 < a0_6.size) = true := decide_eq_true (by omega)
   clear c4
   by_cases c5 : ([] : List (S35)).length < 4398046511104
   ·rw [if_pos c5] at H
    have LMc5 := Aside0.mk c5
    clear c5
    obtain ⟨y146, hy146⟩ : ∃ y_ : List (S35), y_ = (([] : List (S35)) ++ [(⟨(⟨#[108, 105, 110, 107, 112, 97, 116, 104]⟩ : ByteArray), a0_6⟩ : S35)]) := ⟨_, rfl⟩
    replace H : (some y146) = some r := by first | (rw [hy146]; with_reducible exact H) | (have H2_ := (Option.bind_some _ _).symm.trans H; rw [hy146]; with_reducible exact H2_) | (have H2_ := (Option.bind_some _ _).symm.trans H; with_reducible exact H2_) | with_reducible exact H | (rw [hy146]; exact H) | exact H
    have Ny146 := Aside0.mk hy146
    clear hy146
    obtain rfl := Option.some.inj H
    go_enter Tryz.func17, Tryz.ntmps17
    go_wp2_with (first | ((with_reducible refine gate_dst (N := 1) rfl ?_); refine boxA_ 1 38 #[.string a0_0, .int .i64 a0_1, .int .i64 a0_2, .int .i64 a0_3, .int .i64 a0_4, .int .i64 a0_5, .string a0_6, .slice A0_7 l0_7.length c0_7] ?_; intro gb144 hg w6 hbox hb; have n0_ := Aside0.mk (bstep_ hb); have n1_ := Aside0.mk (hbox); have n2_ := Aside0.mk ((by rw [hg]; exact bsize_ : w.heap.size ≤ gb144)); have n3_ := Aside0.mk ((by rw [hg]; exact bsize_ : w.heap.size ≤ gb144)); clear HB; have HB := n0_; have BK144 := n1_; have GW144 := n2_; have GE144 := n3_; clear n0_ n1_ n2_ n3_; clear hb hbox hg; obtain ⟨hcz7_0, hcz7_1, hcz7_2, hcz7_3, hcz7_4, hcz7_5, hcz7_6, hcz7_7, hfz7_0, hfz7_1, hfz7_2, hfz7_3, hfz7_4, hfz7_5, hfz7_6, hfz7_7⟩ := blk_all8 BK144.out) | ((with_reducible refine gate_callee (f := 33) rfl ?_); refine goesA_ (some 6) Tryz.func33 #[.string a0_0] ?_; (with_reducible refine (strf_Fits.calls a0_0 true _ A2.out).mono ?_); rintro e w8 ⟨rfl, hb⟩; refine ⟨_, rfl, ?_⟩; have n0_ := Aside0.mk (blkB_ BK144.out hb); have n1_ := Aside0.mk (bstep_ hb); clear BK144; clear HB; have BK144 := n0_; have HB := n1_; clear n0_ n1_; (try clear hb); (try clear hb2); (try clear hk); (try clear hi); obtain ⟨hcz9_0, hcz9_1, hcz9_2, hcz9_3, hcz9_4, hcz9_5, hcz9_6, hcz9_7, hfz9_0, hfz9_1, hfz9_2, hfz9_3, hfz9_4, hfz9_5, hfz9_6, hfz9_7⟩ := blk_all8 BK144.out) | ((with_reducible refine gate_builtin (b := .append) (xs := #[.tmp 18, .tmp 22]) rfl ?_); at_builtin; refine Kd.R_append k35 (w0 := w) w.heap.size rfl (.tmp 18) (.tmp 22) 32 35 (.agg #[(.string ⟨#[]⟩), (.string ⟨#[]⟩)]) 32 rfl Tryz.underlying32 info35 rfl (by decide) (by omega) (.slice none 0 0) ([] : List (S35)) (⟨(⟨#[108, 105, 110, 107, 112, 97, 116, 104]⟩ : ByteArray), a0_6⟩ : S35) [.string (⟨#[108, 105, 110, 107, 112, 97, 116, 104]⟩ : ByteArray), .string a0_6] (fun _ => True) (fun _ => False) rfl rfl ?aP (fun _ hk => hk.elim) ?aF ?aO ?aB ?aS ?aL ?_; (case aP => exact k35_mkM _ _ _ (⟨(⟨#[108, 105, 110, 107, 112, 97, 116, 104]⟩ : ByteArray), a0_6⟩ : S35)); (case aB => exact belA_); (case aF => exact (fun _ _ => trivial)); (case aO => exact ((Kd.R_nil _ _ _ _ (fun _ => True)))); (case aS => exact bsize_); (case aL => have := LMc5.out; omega); intro v147 w10 ho hb hg hat; rw [← Ny146.out] at ho; have n0_ := Aside0.mk (blk_grown (g := gb144) (o := .cells #[.string a0_0, .int .i64 a0_1, .int .i64 a0_2, .int .i64 a0_3, .int .i64 a0_4, .int .i64 a0_5, .string a0_6, .slice A0_7 l0_7.length c0_7] 38 (0, 0)) (by (with_reducible repeat (first | refine blk_drewN ?_ _ | refine blk_drew ?_ | refine blk_alloc ?_ _)); exact BK144.out) hg (by simp [Value.ownBlock])); have n1_ := Aside0.mk (hb); have n2_ := Aside0.mk (ho); clear BK144; clear HB; have BK144 := n0_; have HB := n1_; have HO148 := n2_; clear n0_ n1_ n2_; clear ho hb hg hat))
    go_ret
    exact ⟨_, by first | rfl | (simp [errW_none, errW_some] <;> rfl) | (simp [*, errW_none, errW_some] <;> rfl), by (with_reducible repeat (first | apply Kd.R_alloc | apply Kd.R_drewN | apply Kd.R_drew)); exact HO148.out, by repeat (first | (with_reducible first | exact HB.out | apply below_alloc | apply pw_below_drewN | apply below_drew1 | refine below_set ?_ GE144.out) | exact HB.out)⟩
   ·rw [if_neg c5] at H
    exact absurd H (by simp)
  ·rw [if_neg c4] at H
   have c4b0 : decide (100 < (a0_6.size : Int)) = false := decide_eq_false c4
   have c4b1 : decide (100 < a0_6.size) = false := decide_eq_false (by omega)
   clear c4
   obtain rfl := Option.some.inj H
   go_enter Tryz.func17, Tryz.ntmps17
   go_wp2_with (first | ((with_reducible refine gate_dst (N := 1) rfl ?_); refine boxA_ 1 38 #[.string a0_0, .int .i64 a0_1, .int .i64 a0_2, .int .i64 a0_3, .int .i64 a0_4, .int .i64 a0_5, .string a0_6, .slice A0_7 l0_7.length c0_7] ?_; intro gb144 hg w11 hbox hb; have n0_ := Aside0.mk (bstep_ hb); have n1_ := Aside0.mk (hbox); have n2_ := Aside0.mk ((by rw [hg]; exact bsize_ : w.heap.size ≤ gb144)); have n3_ := Aside0.mk ((by rw [hg]; exact bsize_ : w.heap.size ≤ gb144)); clear HB; have HB := n0_; have BK144 := n1_; have GW144 := n2_; have GE144 := n3_; clear n0_ n1_ n2_ n3_; clear hb hbox hg; obtain ⟨hcz12_0, hcz12_1, hcz12_2, hcz12_3, hcz12_4, hcz12_5, hcz12_6, hcz12_7, hfz12_0, hfz12_1, hfz12_2, hfz12_3, hfz12_4, hfz12_5, hfz12_6, hfz12_7⟩ := blk_all8 BK144.out) | ((with_reducible refine gate_callee (f := 33) rfl ?_); refine goesA_ (some 6) Tryz.func33 #[.string a0_0] ?_; (with_reducible refine (strf_Fits.calls a0_0 true _ A2.out).mono ?_); rintro e w13 ⟨rfl, hb⟩; refine ⟨_, rfl, ?_⟩; have n0_ := Aside0.mk (blkB_ BK144.out hb); have n1_ := Aside0.mk (bstep_ hb); clear BK144; clear HB; have BK144 := n0_; have HB := n1_; clear n0_ n1_; (try clear hb); (try clear hb2); (try clear hk); (try clear hi); obtain ⟨hcz14_0, hcz14_1, hcz14_2, hcz14_3, hcz14_4, hcz14_5, hcz14_6, hcz14_7, hfz14_0, hfz14_1, hfz14_2, hfz14_3, hfz14_4, hfz14_5, hfz14_6, hfz14_7⟩ := blk_all8 BK144.out))
   go_ret
   exact ⟨_, by first | rfl | (simp [errW_none, errW_some] <;> rfl) | (simp [*, errW_none, errW_some] <;> rfl), by first | exact Kd.R_nil _ _ _ _ _ | exact Kd.N_nil _ _ _ _ _ | exact Kd.V_nil _ _ _ _ _ | exact Kd.Q_nil _ _ _ _ _ | exact Kd.S_nil _ _ _ _ _, by repeat (first | (with_reducible first | exact HB.out | apply below_alloc | apply pw_below_drewN | apply below_drew1 | refine below_set ?_ GE144.out) | exact HB.out)⟩
 ·replace c3 := Bool.eq_false_iff.mpr c3
  subst c3
  have H1 := H; rw [if_neg (show ¬ (false = true) by decide)] at H1
  clear H
  have H := H1
  clear H1
  by_cases c15 : ([] : List (S35)).length < 4398046511104
  ·rw [if_pos c15] at H
   have LMc15 := Aside0.mk c15
   clear c15
   obtain ⟨y149, hy149⟩ : ∃ y_ : List (S35), y_ = (([] : List (S35)) ++ [(⟨(⟨#[112, 97, 116, 104]⟩ : ByteArray), a0_0⟩ : S35)]) := ⟨_, rfl⟩
   replace H : (if (a0_6.size : Int) > 100 then (if y149.length < 4398046511104 then (some (y149 ++ [(⟨(⟨#[108, 105, 110, 107, 112, 97, 116, 104]⟩ : ByteArray), a0_6⟩ : S35)])) else (none)) else (some y149)) = some r := by first | (rw [hy149]; with_reducible exact H) | (have H2_ := (Option.bind_some _ _).symm.trans H; rw [hy149]; with_reducible exact H2_) | (have H2_ := (Option.bind_some _ _).symm.trans H; with_reducible exact H2_) | with_reducible exact H | (rw [hy149]; exact H) | exact H
   have Ny149 := Aside0.mk hy149
   clear hy149
   by_cases c16 : (a0_6.size : Int) > 100
   ·rw [if_pos c16] at H
    have c16b0 : decide (100 < (a0_6.size : Int)) = true := decide_eq_true c16
    have c16b1 : decide (100 < a0_6.size) = true := decide_eq_true (by omega)
    clear c16
    by_cases c17 : y149.length < 4398046511104
    ·rw [if_pos c17] at H
     have LMc17 := Aside0.mk c17
     clear c17
     obtain ⟨y152, hy152⟩ : ∃ y_ : List (S35), y_ = (y149 ++ [(⟨(⟨#[108, 105, 110, 107, 112, 97, 116, 104]⟩ : ByteArray), a0_6⟩ : S35)]) := ⟨_, rfl⟩
     replace H : (some y152) = some r := by first | (rw [hy152]; with_reducible exact H) | (have H2_ := (Option.bind_some _ _).symm.trans H; rw [hy152]; with_reducible exact H2_) | (have H2_ := (Option.bind_some _ _).symm.trans H; with_reducible exact H2_) | with_reducible exact H | (rw [hy152]; exact H) | exact H
     have Ny152 := Aside0.mk hy152
     clear hy152
     obtain rfl := Option.some.inj H
     go_enter Tryz.func17, Tryz.ntmps17
     go_wp2_with (first | ((with_reducible refine gate_dst (N := 1) rfl ?_); refine boxA_ 1 38 #[.string a0_0, .int .i64 a0_1, .int .i64 a0_2, .int .i64 a0_3, .int .i64 a0_4, .int .i64 a0_5, .string a0_6, .slice A0_7 l0_7.length c0_7] ?_; intro gb144 hg w18 hbox hb; have n0_ := Aside0.mk (bstep_ hb); have n1_ := Aside0.mk (hbox); have n2_ := Aside0.mk ((by rw [hg]; exact bsize_ : w.heap.size ≤ gb144)); have n3_ := Aside0.mk ((by rw [hg]; exact bsize_ : w.heap.size ≤ gb144)); clear HB; have HB := n0_; have BK144 := n1_; have GW144 := n2_; have GE144 := n3_; clear n0_ n1_ n2_ n3_; clear hb hbox hg; obtain ⟨hcz19_0, hcz19_1, hcz19_2, hcz19_3, hcz19_4, hcz19_5, hcz19_6, hcz19_7, hfz19_0, hfz19_1, hfz19_2, hfz19_3, hfz19_4, hfz19_5, hfz19_6, hfz19_7⟩ := blk_all8 BK144.out) | ((with_reducible refine gate_callee (f := 33) rfl ?_); refine goesA_ (some 6) Tryz.func33 #[.string a0_0] ?_; (with_reducible refine (strf_Fits.calls a0_0 false _ A2.out).mono ?_); rintro e w20 ⟨rfl, hb⟩; refine ⟨_, rfl, ?_⟩; have n0_ := Aside0.mk (blkB_ BK144.out hb); have n1_ := Aside0.mk (bstep_ hb); clear BK144; clear HB; have BK144 := n0_; have HB := n1_; clear n0_ n1_; (try clear hb); (try clear hb2); (try clear hk); (try clear hi); obtain ⟨hcz21_0, hcz21_1, hcz21_2, hcz21_3, hcz21_4, hcz21_5, hcz21_6, hcz21_7, hfz21_0, hfz21_1, hfz21_2, hfz21_3, hfz21_4, hfz21_5, hfz21_6, hfz21_7⟩ := blk_all8 BK144.out) | ((with_reducible refine gate_builtin (b := .append) (xs := #[.tmp 8, .tmp 12]) rfl ?_); at_builtin; refine Kd.R_append k35 (w0 := w) w.heap.size rfl (.tmp 8) (.tmp 12) 32 35 (.agg #[(.string ⟨#[]⟩), (.string ⟨#[]⟩)]) 32 rfl Tryz.underlying32 info35 rfl (by decide) (by omega) (.slice none 0 0) ([] : List (S35)) (⟨(⟨#[112, 97, 116, 104]⟩ : ByteArray), a0_0⟩ : S35) [.string (⟨#[112, 97, 116, 104]⟩ : ByteArray), .string a0_0] (fun _ => True) (fun _ => False) rfl rfl ?aP (fun _ hk => hk.elim) ?aF ?aO ?aB ?aS ?aL ?_; (case aP => exact k35_mkM _ _ _ (⟨(⟨#[112, 97, 116, 104]⟩ : ByteArray), a0_0⟩ : S35)); (case aB => exact belA_); (case aF => exact (fun _ _ => trivial)); (case aO => exact ((Kd.R_nil _ _ _ _ (fun _ => True)))); (case aS => exact bsize_); (case aL => have := LMc15.out; omega); intro v150 w22 ho hb hg hat; rw [← Ny149.out] at ho; have n0_ := Aside0.mk (blk_grown (g := gb144) (o := .cells #[.string a0_0, .int .i64 a0_1, .int .i64 a0_2, .int .i64 a0_3, .int .i64 a0_4, .int .i64 a0_5, .string a0_6, .slice A0_7 l0_7.length c0_7] 38 (0, 0)) (by (with_reducible repeat (first | refine blk_drewN ?_ _ | refine blk_drew ?_ | refine blk_alloc ?_ _)); exact BK144.out) hg (by simp [Value.ownBlock])); have n1_ := Aside0.mk (hb); have n2_ := Aside0.mk (ho); clear BK144; clear HB; have BK144 := n0_; have HB := n1_; have HO151 := n2_; clear n0_ n1_ n2_; clear ho hb hg hat; obtain ⟨hcz23_0, hcz23_1, hcz23_2, hcz23_3, hcz23_4, hcz23_5, hcz23_6, hcz23_7, hfz23_0, hfz23_1, hfz23_2, hfz23_3, hfz23_4, hfz23_5, hfz23_6, hfz23_7⟩ := blk_all8 BK144.out) | ((with_reducible refine gate_builtin (b := .append) (xs := #[.tmp 18, .tmp 22]) rfl ?_); at_builtin; refine Kd.R_append k35 (w0 := w) w.heap.size rfl (.tmp 18) (.tmp 22) 32 35 (.agg #[(.string ⟨#[]⟩), (.string ⟨#[]⟩)]) 32 rfl Tryz.underlying32 info35 rfl (by decide) (by omega) v150 y149 (⟨(⟨#[108, 105, 110, 107, 112, 97, 116, 104]⟩ : ByteArray), a0_6⟩ : S35) [.string (⟨#[108, 105, 110, 107, 112, 97, 116, 104]⟩ : ByteArray), .string a0_6] (fun _ => True) (fun _ => False) rfl rfl ?aP (fun _ hk => hk.elim) ?aF ?aO ?aB ?aS ?aL ?_; (case aP => exact k35_mkM _ _ _ (⟨(⟨#[108, 105, 110, 107, 112, 97, 116, 104]⟩ : ByteArray), a0_6⟩ : S35)); (case aB => exact belA_); (case aF => exact (fun _ _ => trivial)); (case aO => exact (by (with_reducible repeat (first | apply Kd.R_alloc | apply Kd.R_drewN | apply Kd.R_drew)); exact HO151.out)); (case aS => exact bsize_); (case aL => have := LMc17.out; omega); intro v153 w24 ho hb hg hat; rw [← Ny152.out] at ho; have n0_ := Aside0.mk (blk_grown (g := gb144) (o := .cells #[.string a0_0, .int .i64 a0_1, .int .i64 a0_2, .int .i64 a0_3, .int .i64 a0_4, .int .i64 a0_5, .string a0_6, .slice A0_7 l0_7.length c0_7] 38 (0, 0)) (by (with_reducible repeat (first | refine blk_drewN ?_ _ | refine blk_drew ?_ | refine blk_alloc ?_ _)); exact BK144.out) hg (Kd.R_ne HO151.out BK144.out (by decide))); have n1_ := Aside0.mk (hb); have n2_ := Aside0.mk (ho); clear BK144; clear HB; clear HO151; have BK144 := n0_; have HB := n1_; have HO154 := n2_; clear n0_ n1_ n2_; clear ho hb hg hat))
     go_ret
     exact ⟨_, by first | rfl | (simp [errW_none, errW_some] <;> rfl) | (simp [*, errW_none, errW_some] <;> rfl), by (with_reducible repeat (first | apply Kd.R_alloc | apply Kd.R_drewN | apply Kd.R_drew)); exact HO154.out, by repeat (first | (with_reducible first | exact HB.out | apply below_alloc | apply pw_below_drewN | apply below_drew1 | refine below_set ?_ GE144.out) | exact HB.out)⟩
    ·rw [if_neg c17] at H
     exact absurd H (by simp)
   ·rw [if_neg c16] at H
    have c16b0 : decide (100 < (a0_6.size : Int)) = false := decide_eq_false c16
    have c16b1 : decide (100 < a0_6.size) = false := decide_eq_false (by omega)
    clear c16
    obtain rfl := Option.some.inj H
    go_enter Tryz.func17, Tryz.ntmps17
    go_wp2_with (first | ((with_reducible refine gate_dst (N := 1) rfl ?_); refine boxA_ 1 38 #[.string a0_0, .int .i64 a0_1, .int .i64 a0_2, .int .i64 a0_3, .int .i64 a0_4, .int .i64 a0_5, .string a0_6, .slice A0_7 l0_7.length c0_7] ?_; intro gb144 hg w25 hbox hb; have n0_ := Aside0.mk (bstep_ hb); have n1_ := Aside0.mk (hbox); have n2_ := Aside0.mk ((by rw [hg]; exact bsize_ : w.heap.size ≤ gb144)); have n3_ := Aside0.mk ((by rw [hg]; exact bsize_ : w.heap.size ≤ gb144)); clear HB; have HB := n0_; have BK144 := n1_; have GW144 := n2_; have GE144 := n3_; clear n0_ n1_ n2_ n3_; clear hb hbox hg; obtain ⟨hcz26_0, hcz26_1, hcz26_2, hcz26_3, hcz26_4, hcz26_5, hcz26_6, hcz26_7, hfz26_0, hfz26_1, hfz26_2, hfz26_3, hfz26_4, hfz26_5, hfz26_6, hfz26_7⟩ := blk_all8 BK144.out) | ((with_reducible refine gate_callee (f := 33) rfl ?_); refine goesA_ (some 6) Tryz.func33 #[.string a0_0] ?_; (with_reducible refine (strf_Fits.calls a0_0 false _ A2.out).mono ?_); rintro e w27 ⟨rfl, hb⟩; refine ⟨_, rfl, ?_⟩; have n0_ := Aside0.mk (blkB_ BK144.out hb); have n1_ := Aside0.mk (bstep_ hb); clear BK144; clear HB; have BK144 := n0_; have HB := n1_; clear n0_ n1_; (try clear hb); (try clear hb2); (try clear hk); (try clear hi); obtain ⟨hcz28_0, hcz28_1, hcz28_2, hcz28_3, hcz28_4, hcz28_5, hcz28_6, hcz28_7, hfz28_0, hfz28_1, hfz28_2, hfz28_3, hfz28_4, hfz28_5, hfz28_6, hfz28_7⟩ := blk_all8 BK144.out) | ((with_reducible refine gate_builtin (b := .append) (xs := #[.tmp 8, .tmp 12]) rfl ?_); at_builtin; refine Kd.R_append k35 (w0 := w) w.heap.size rfl (.tmp 8) (.tmp 12) 32 35 (.agg #[(.string ⟨#[]⟩), (.string ⟨#[]⟩)]) 32 rfl Tryz.underlying32 info35 rfl (by decide) (by omega) (.slice none 0 0) ([] : List (S35)) (⟨(⟨#[112, 97, 116, 104]⟩ : ByteArray), a0_0⟩ : S35) [.string (⟨#[112, 97, 116, 104]⟩ : ByteArray), .string a0_0] (fun _ => True) (fun _ => False) rfl rfl ?aP (fun _ hk => hk.elim) ?aF ?aO ?aB ?aS ?aL ?_; (case aP => exact k35_mkM _ _ _ (⟨(⟨#[112, 97, 116, 104]⟩ : ByteArray), a0_0⟩ : S35)); (case aB => exact belA_); (case aF => exact (fun _ _ => trivial)); (case aO => exact ((Kd.R_nil _ _ _ _ (fun _ => True)))); (case aS => exact bsize_); (case aL => have := LMc15.out; omega); intro v150 w29 ho hb hg hat; rw [← Ny149.out] at ho; have n0_ := Aside0.mk (blk_grown (g := gb144) (o := .cells #[.string a0_0, .int .i64 a0_1, .int .i64 a0_2, .int .i64 a0_3, .int .i64 a0_4, .int .i64 a0_5, .string a0_6, .slice A0_7 l0_7.length c0_7] 38 (0, 0)) (by (with_reducible repeat (first | refine blk_drewN ?_ _ | refine blk_drew ?_ | refine blk_alloc ?_ _)); exact BK144.out) hg (by simp [Value.ownBlock])); have n1_ := Aside0.mk (hb); have n2_ := Aside0.mk (ho); clear BK144; clear HB; have BK144 := n0_; have HB := n1_; have HO151 := n2_; clear n0_ n1_ n2_; clear ho hb hg hat; obtain ⟨hcz30_0, hcz30_1, hcz30_2, hcz30_3, hcz30_4, hcz30_5, hcz30_6, hcz30_7, hfz30_0, hfz30_1, hfz30_2, hfz30_3, hfz30_4, hfz30_5, hfz30_6, hfz30_7⟩ := blk_all8 BK144.out))
    go_ret
    exact ⟨_, by first | rfl | (simp [errW_none, errW_some] <;> rfl) | (simp [*, errW_none, errW_some] <;> rfl), by (with_reducible repeat (first | apply Kd.R_alloc | apply Kd.R_drewN | apply Kd.R_drew)); exact HO151.out, by repeat (first | (with_reducible first | exact HB.out | apply below_alloc | apply pw_below_drewN | apply below_drew1 | refine below_set ?_ GE144.out) | exact HB.out)⟩
  ·rw [if_neg c15] at H
   exact absurd H (by simp)


/-! ### blocks_Pad: function 55 -/
def blocks_Pad.f (a0 : Int) : Option (Int) := if a0 < 1 then (some 0) else (some (Int.tmod (wrap64 (512 - (Int.tmod a0 512))) 512))
set_option maxHeartbeats 8000000 in
set_option maxRecDepth 100000 in
theorem blocks_Pad.calls (a0 : Int) (r : Int) (w : World) (h : blocks_Pad.f a0 = some r) :
  Calls Tryz.prog 55 #[.int .i64 a0] w fun e w' => e = .returned (.int .i64 r) ∧ Drawn0 w w' := by
 have H : (if a0 < 1 then (some 0) else (some (Int.tmod (wrap64 (512 - (Int.tmod a0 512))) 512))) = some r := h
 clear h
 by_cases c2 : a0 < 1
 ·rw [if_pos c2] at H
  have c2b0 : decide (a0 < 1) = true := decide_eq_true c2
  clear c2
  obtain rfl := Option.some.inj H
  go_enter Tryz.func55, Tryz.ntmps55
  go_wp2
  go_ret
  exact ⟨by first | rfl | (simp; done) | (simp [*]; done), by repeat (first | exact Drawn0.refl _ | apply Drawn0.step)⟩
 ·rw [if_neg c2] at H
  have c2b0 : decide (a0 < 1) = false := decide_eq_false c2
  clear c2
  obtain rfl := Option.some.inj H
  go_enter Tryz.func55, Tryz.ntmps55
  go_wp2
  go_ret
  exact ⟨by first | rfl | (simp; done) | (simp [*]; done), by repeat (first | exact Drawn0.refl _ | apply Drawn0.step)⟩


/-! ### blocks_Fill: function 32 -/
def blocks_Fill.f (l0 : List Int) : Option (List Int) := (bytes_Clone.f l0).bind fun t155 => ((blocks_Pad.f (l0.length : Int)).bind fun t158 => (if 0 ≤ t158 then (if t155.length + (t158 : Int).toNat < 140737488355328 then (some (t155 ++ List.replicate (t158 : Int).toNat 0)) else (none)) else (none)))
set_option maxHeartbeats 8000000 in
set_option maxRecDepth 100000 in
theorem blocks_Fill.calls (A0 : Option Addr) (c0 : Nat) (l0 : List Int) (r : List Int) (w : World) (hr0 : Kd.C (Kd.int .u8) w A0 l0.length l0) (hc0 : l0.length ≤ c0) (h : blocks_Fill.f l0 = some r) :
  Calls Tryz.prog 32 #[.slice A0 l0.length c0] w fun e w' => ∃ v0_ : Value, e = .returned (v0_) ∧ Kd.R (Kd.int .u8) 5 w' w.heap.size (fun _ => True) v0_ r ∧ Below w.heap.size w w' := by
 have HR0 := Aside0.mk hr0
 have HC0 := Aside0.mk hc0
 clear hr0 hc0
 have HB := Aside0.mk (Below.refl w.heap.size w)
 have H : ((bytes_Clone.f l0).bind fun t155 => ((blocks_Pad.f (l0.length : Int)).bind fun t158 => (if 0 ≤ t158 then (if t155.length + (t158 : Int).toNat < 140737488355328 then (some (t155 ++ List.replicate (t158 : Int).toNat 0)) else (none)) else (none)))) = some r := h
 clear h
 replace H := Option.bind_eq_some_iff.mp H
 obtain ⟨t155, A20, H⟩ := H
 try dsimp only at H
 have A2 := Aside0.mk A20
 clear A20
 replace H := Option.bind_eq_some_iff.mp H
 obtain ⟨t158, A30, H⟩ := H
 try dsimp only at H
 have A3 := Aside0.mk A30
 clear A30
 by_cases c4 : 0 ≤ t158
 ·rw [if_pos c4] at H
  have c4b0 := eq_true c4
  have c4b1 : decide (0 ≤ t158) = true := decide_eq_true c4
  clear c4
  by_cases c5 : t155.length + (t158 : Int).toNat < 140737488355328
  ·rw [if_pos c5] at H
   have LMc5 := Aside0.mk c5
   clear c5
   obtain ⟨y159, hy159⟩ : ∃ y_ : List Int, y_ = (t155 ++ List.replicate (t158 : Int).toNat 0) := ⟨_, rfl⟩
   replace H : (some y159) = some r := by first | (rw [hy159]; with_reducible exact H) | (have H2_ := (Option.bind_some _ _).symm.trans H; rw [hy159]; with_reducible exact H2_) | (have H2_ := (Option.bind_some _ _).symm.trans H; with_reducible exact H2_) | with_reducible exact H | (rw [hy159]; exact H) | exact H
   have Ny159 := Aside0.mk hy159
   clear hy159
   obtain rfl := Option.some.inj H
   go_enter Tryz.func32, Tryz.ntmps32
   go_wp2_with (first | ((with_reducible refine gate_callee (f := 23) rfl ?_); refine goesA_ (some 4) Tryz.func23 #[.slice A0 l0.length c0] ?_; (with_reducible refine (bytes_Clone.calls _ _ l0 t155 _ ?side1 ?side2 A2.out).mono ?_); (case side1 => repeat (first | exact HR0.out | (with_reducible refine Kd.C_alloc ?_ _) | (with_reducible refine Kd.C_drewN ?_ _) | (with_reducible refine Kd.C_drew ?_))); (case side2 => exact HC0.out); rintro e w6 ⟨v156, rfl, ho0, hb⟩; refine ⟨_, rfl, ?_⟩; have n0_ := Aside0.mk (Kd.R_lower ho0 bsize_); have n1_ := Aside0.mk (bstep_ hb); clear HB; have HO157 := n0_; have HB := n1_; clear n0_ n1_; (try clear hb); (try clear hb2); (try clear hk); (try clear hi); (try clear ho0)) | ((with_reducible refine gate_callee (f := 55) rfl ?_); refine goesA_ (some 7) Tryz.func55 #[.int .i64 (l0.length : Int)] ?_; (with_reducible refine (blocks_Pad.calls (l0.length : Int) t158 _ A3.out).mono ?_); rintro e w' ⟨rfl, ⟨nd, rfl⟩⟩; refine ⟨_, rfl, ?_⟩) | (at_builtin; refine Kd.R_append_zeros (Kd.int .u8) (w0 := w) w.heap.size rfl (.tmp 4) (.tmp 7) 31 3 5 (.int .u8 0) 1 rfl Tryz.underlying31 Tryz.underlying3 info5 rfl (by decide) (by omega) v156 t155 0 (t158 : Int) (fun _ => True) rfl rfl rfl ?aF ?aO (of_decide_eq_true (by first | (with_reducible assumption) | assumption)) ?aB ?aS ?aL ?_; (case aB => exact belA_); (case aF => exact (fun _ _ => trivial)); (case aO => exact (by (with_reducible repeat (first | apply Kd.R_alloc | apply Kd.R_drewN | apply Kd.R_drew)); exact HO157.out)); (case aS => exact bsize_); (case aL => have := LMc5.out; omega); intro v160 w7 ho hb hg hat; rw [← Ny159.out] at ho; have n0_ := Aside0.mk (hb); have n1_ := Aside0.mk (ho); clear HB; clear HO157; have HB := n0_; have HO161 := n1_; clear n0_ n1_; clear ho hb hg hat))
   go_ret
   exact ⟨_, by first | rfl | (simp [errW_none, errW_some] <;> rfl) | (simp [*, errW_none, errW_some] <;> rfl), by (with_reducible repeat (first | apply Kd.R_alloc | apply Kd.R_drewN | apply Kd.R_drew)); exact HO161.out, by repeat (first | (with_reducible first | exact HB.out | apply below_alloc | apply pw_below_drewN | apply below_drew1) | exact HB.out)⟩
  ·rw [if_neg c5] at H
   exact absurd H (by simp)
 ·rw [if_neg c4] at H
  exact absurd H (by simp)

end Go.Proofs.YtjidenkhgeoaiaaGreatDoor.P

/- The library's table of tens, as contracts of our own ask for it: it stands, and it stays. -/
namespace Go.Proofs.YtjidenkhgeoaiaaGreatDoor.Hand
open Go.RowKit Go.Proofs.YtjidenkhgeoaiaaGreatDoorW.PrintWords Go.Proofs.YtjidenkhgeoaiaaGreatDoorW.PrintLast
abbrev TabOk (w : World) : Prop := Lib.TabIs Tryz.prog w "internal/strconv.uint64pow10" .u64 Lib.pow10Tab
theorem TabOk.below {w w' : World} (h : TabOk w) (hb : Below w.heap.size w w') : TabOk w' := Lib.tabBelow_of_tabIs h w' hb
theorem TabOk.alloc {w : World} (h : TabOk w) (o : Obj) : TabOk (w.alloc o) := h.below ((Below.refl w.heap.size w).alloc (Nat.le_refl _) o)
theorem TabOk.drewN {w : World} (h : TabOk w) (n : Nat) : TabOk (w.drewN n) := h.below (pw_below_drewN (Below.refl w.heap.size w) n)
theorem TabOk.drew {w : World} (h : TabOk w) : TabOk w.drew := h.below (below_drew1 (Below.refl w.heap.size w))
set_option maxRecDepth 100000 in
/-- What the row says of the table is what is asked here. -/
theorem tab_of_laid {W : World} {l : List (String × DataW Unit)} (h : laidMetH Tryz.prog l W) (hf : l.filter (fun x => x.1 == "internal/strconv.uint64pow10") = [("internal/strconv.uint64pow10", Lib.tabData .u64 Lib.pow10Tab)]) : TabOk W := by
  have h2 := h.filter (fun x => x.1 == "internal/strconv.uint64pow10")
  rw [hf] at h2
  rw [MakeChecks.laidMetH_plain _ _ _ (by kernel_rfl)] at h2
  exact Lib.tabIs_of_head (g := 3) (t := 171) (by kernel_rfl) (by kernel_rfl) Tryz.underlying171 Tryz.underlying147 (by kernel_rfl) (by kernel_rfl) h2
end Go.Proofs.YtjidenkhgeoaiaaGreatDoor.Hand

namespace Go.Proofs.YtjidenkhgeoaiaaGreatDoor.P
open Go.RowKit Go.Proofs.YtjidenkhgeoaiaaGreatDoorW.PrintWords Go.Proofs.YtjidenkhgeoaiaaGreatDoorW.PrintLast Go.Proofs.YtjidenkhgeoaiaaGreatDoorW.PrintMore Go.Proofs.YtjidenkhgeoaiaaGreatDoor.Hand
attribute [local go_sem] max2_int min2_int max_two min_two max_three min_three max_four min_four   -- for this text's walks alone
set_option linter.unusedVariables false
set_option linter.unusedSimpArgs false

/-! ### recs_May: function 83 -/
def recs_May.j0 : Nat → Bool → ByteArray → ByteArray → Option (Int)
 | 0, _, _, _ => none
 | k + 1, x3, x455000, x455001 => if x3 = true then (some 3) else (if (x455001.size : Int) > 2000 then (some 10) else (some 0))
def recs_May.f (k : Nat) (a0_0 : ByteArray) (a0_1 : ByteArray) : Option (Int) := if a0_0.toList = ([] : List UInt8) then (recs_May.j0 k true a0_0 a0_1) else (if (a0_0.size : Int) > 60 then (recs_May.j0 k true a0_0 a0_1) else ((strings_ContainsAny.f a0_0 (⟨#[61, 10, 0]⟩ : ByteArray)).bind fun t455 => (recs_May.j0 k t455 a0_0 a0_1)))
theorem recs_May.mono_l : ∀ k, (∀ y0 y1 y2, LeO (recs_May.j0 k y0 y1 y2) (recs_May.j0 (k + 1) y0 y1 y2))
 | 0 => fun _ _ _ r h => by simp [recs_May.j0] at h
 | k + 1 => by
  have ih0 := recs_May.mono_l k
  ·intro y0 y1 y2
   unfold recs_May.j0
   repeat' first
   | (with_reducible exact ih0 _ _ _)
   | (with_reducible exact LeO.refl _)
   | (with_reducible exact LeO.none _)
   | (with_reducible refine LeO.ite ?_ ?_)
   | (with_reducible refine LeO.bind ?_ (fun _ => ?_))
   | exact ih0 _ _ _
   | exact LeO.none _
   | refine LeO.ite ?_ ?_
   | refine LeO.bind ?_ (fun _ => ?_)
theorem recs_May.mono : ∀ a0 a1 k, LeO (recs_May.f k a0 a1) (recs_May.f (k + 1) a0 a1) := by
 intro a0 a1 k
 have ih0 := recs_May.mono_l k
 unfold recs_May.f
 repeat' first
   | (with_reducible exact ih0 _ _ _)
   | (with_reducible exact LeO.refl _)
   | (with_reducible exact LeO.none _)
   | (with_reducible refine LeO.ite ?_ ?_)
   | (with_reducible refine LeO.bind ?_ (fun _ => ?_))
   | exact ih0 _ _ _
   | exact LeO.none _
   | refine LeO.ite ?_ ?_
   | refine LeO.bind ?_ (fun _ => ?_)
set_option maxHeartbeats 8000000 in
set_option maxRecDepth 100000 in
theorem recs_May.calls (k : Nat) (a0_0 : ByteArray) (a0_1 : ByteArray) (r : Int) (w : World) (h : recs_May.f k a0_0 a0_1 = some r) :
  Calls Tryz.prog 83 #[.agg #[.string a0_0, .string a0_1]] w fun e w' => e = .returned (.int .i64 r) ∧ Below w.heap.size w w' := by
 have hu35 := Tryz.underlying35
 have HB := Aside0.mk (Below.refl w.heap.size w)
 have H : (if a0_0.toList = ([] : List UInt8) then (recs_May.j0 k true a0_0 a0_1) else (if (a0_0.size : Int) > 60 then (recs_May.j0 k true a0_0 a0_1) else ((strings_ContainsAny.f a0_0 (⟨#[61, 10, 0]⟩ : ByteArray)).bind fun t455 => (recs_May.j0 k t455 a0_0 a0_1)))) = some r := h
 clear h
 have HC2 := Aside0.mk H
 clear H
 go_enter Tryz.func83, Tryz.ntmps83
 go_upto_region 1 with (first | ((with_reducible refine gate_dst (N := 1) rfl ?_); (try (refine gate_guard (by rfl) ?_; dsimp only)); refine boxA_ 1 35 #[.string a0_0, .string a0_1] ?_; intro gb454 hg w3 hbox hb; have n0_ := Aside0.mk (bstep_ hb); have n1_ := Aside0.mk (hbox); have n2_ := Aside0.mk ((by rw [hg]; exact bsize_ : w.heap.size ≤ gb454)); have n3_ := Aside0.mk ((by rw [hg]; exact bsize_ : w.heap.size ≤ gb454)); clear HB; have HB := n0_; have BK454 := n1_; have GW454 := n2_; have GE454 := n3_; clear n0_ n1_ n2_ n3_; clear hb hbox hg))
 (try simp only [Act.put, List.setIfInBounds_toArray, List.set_cons_zero, List.set_cons_succ])
 go_cut [3] (fun v3 wc => ∃ (kq : Nat) (x3_1 : Bool), v3 = .bool x3_1 ∧ Aside0 (recs_May.j0 kq x3_1 a0_0 a0_1 = some r) ∧ Aside0 (kq ≤ k) ∧ Aside0 (wc.heap[gb454]? = some (.cells #[.string a0_0, .string a0_1] 35 (0, 0))) ∧ Aside0 (Below w.heap.size w wc))
 case first =>
  have H := HC2.out
  clear HC2
  by_cases c4 : a0_0.toList = ([] : List UInt8)
  ·rw [if_pos c4] at H
   have c4b0 : (a0_0.toList == ([] : List UInt8)) = true := beq_iff_eq.mpr c4
   have c4b1 : (a0_0.toList != ([] : List UInt8)) = false := bne_eq_false_iff_eq.mpr c4
   clear c4
   (first | rw [c4b0] | (simp only [i64_w, i32_w]; rw [c4b0]) | skip)
   have H' := Aside0.mk H
   clear H
   obtain ⟨hcz5_0, hcz5_1, hfz5_0, hfz5_1⟩ := blk_all2 BK454.out
   go_wp2
   go_meet
   case rel => exact ⟨_, (true), (by first | rfl | (simp; done) | (simp [*]; done) | (simp only [bytes_ne, bytes_eq] <;> rfl)), H', ⟨by first | omega | exact Nat.le_refl _⟩, ⟨by (with_reducible repeat (first | refine blk_drewN ?_ _ | refine blk_drew ?_ | refine blk_alloc ?_ _)); exact BK454.out⟩, ⟨by repeat (first | (with_reducible first | exact HB.out | apply below_alloc | apply pw_below_drewN | apply below_drew1 | refine below_set ?_ GE454.out) | exact HB.out)⟩⟩
  ·rw [if_neg c4] at H
   have c4b0 : (a0_0.toList == ([] : List UInt8)) = false := beq_eq_false_iff_ne.mpr c4
   have c4b1 : (a0_0.toList != ([] : List UInt8)) = true := bne_iff_ne.mpr c4
   (first | rw [c4b0] | (simp only [i64_w, i32_w]; rw [c4b0]) | skip)
   by_cases c6 : (a0_0.size : Int) > 60
   ·rw [if_pos c6] at H
    have c6b0 : decide (60 < (a0_0.size : Int)) = true := decide_eq_true c6
    have c6b1 : decide (60 < a0_0.size) = true := decide_eq_true (by omega)
    clear c6
    have H' := Aside0.mk H
    clear H
    obtain ⟨hcz7_0, hcz7_1, hfz7_0, hfz7_1⟩ := blk_all2 BK454.out
    go_wp2
    go_meet
    case rel => exact ⟨_, (true), (by first | rfl | (simp; done) | (simp [*]; done) | (simp only [bytes_ne, bytes_eq] <;> rfl)), H', ⟨by first | omega | exact Nat.le_refl _⟩, ⟨by (with_reducible repeat (first | refine blk_drewN ?_ _ | refine blk_drew ?_ | refine blk_alloc ?_ _)); exact BK454.out⟩, ⟨by repeat (first | (with_reducible first | exact HB.out | apply below_alloc | apply pw_below_drewN | apply below_drew1 | refine below_set ?_ GE454.out) | exact HB.out)⟩⟩
   ·rw [if_neg c6] at H
    have c6b0 : decide (60 < (a0_0.size : Int)) = false := decide_eq_false c6
    have c6b1 : decide (60 < a0_0.size) = false := decide_eq_false (by omega)
    clear c6
    replace H := Option.bind_eq_some_iff.mp H
    obtain ⟨t455, A80, H⟩ := H
    try dsimp only at H
    have A8 := Aside0.mk A80
    clear A80
    have H' := Aside0.mk H
    clear H
    obtain ⟨hcz9_0, hcz9_1, hfz9_0, hfz9_1⟩ := blk_all2 BK454.out
    go_wp2_with (first | (go_at_call 100; (with_reducible refine (strings_ContainsAny.calls a0_0 (⟨#[61, 10, 0]⟩ : ByteArray) t455 _ A8.out).mono ?_); rintro e w10 ⟨rfl, hb⟩; have n0_ := Aside0.mk (blkB_ BK454.out hb); have n1_ := Aside0.mk (bstep_ hb); clear BK454; clear HB; have BK454 := n0_; have HB := n1_; clear n0_ n1_; (try clear hb); (try clear hb2); (try clear hk); (try clear hi)))
    go_meet
    case rel => exact ⟨_, (t455), (by first | rfl | (simp; done) | (simp [*]; done) | (simp only [bytes_ne, bytes_eq] <;> rfl)), H', ⟨by first | omega | exact Nat.le_refl _⟩, ⟨by (with_reducible repeat (first | refine blk_drewN ?_ _ | refine blk_drew ?_ | refine blk_alloc ?_ _)); exact BK454.out⟩, ⟨by repeat (first | (with_reducible first | exact HB.out | apply below_alloc | apply pw_below_drewN | apply below_drew1 | refine below_set ?_ GE454.out) | exact HB.out)⟩⟩
 case rest =>
  clear HC2
  try clear p2
  try clear c4
  try clear c4b0
  try clear c4b1
  try clear c6
  try clear c6b0
  try clear c6b1
  try clear c8
  try clear hcz5_0
  try clear hcz5_1
  try clear hcz7_0
  try clear hcz7_1
  try clear hcz9_0
  try clear hcz9_1
  try clear hfz5_0
  try clear hfz5_1
  try clear hfz7_0
  try clear hfz7_1
  try clear hfz9_0
  try clear hfz9_1
  obtain ⟨kq, x3_1, rfl, HA, HJ1, BK454, HB⟩ := hcut
  cases kq with
  | zero => exact absurd HA.out (by simp [recs_May.j0])
  | succ kj1 =>
   have H := HA.out
   clear HA
   simp only [recs_May.j0] at H
   by_cases c11 : x3_1 = true
   ·subst c11
    have H1 := H; rw [if_pos rfl] at H1
    clear H
    have H := H1
    clear H1
    obtain rfl := Option.some.inj H
    go_wp2
    go_ret
    exact ⟨by first | rfl | (simp [errW_none, errW_some] <;> rfl) | (simp [*, errW_none, errW_some] <;> rfl) | (simp only [bytes_ne, bytes_eq] <;> rfl), by repeat (first | (with_reducible first | exact HB.out | apply below_alloc | apply pw_below_drewN | apply below_drew1 | refine below_set ?_ GE454.out) | exact HB.out)⟩
   ·replace c11 := Bool.eq_false_iff.mpr c11
    subst c11
    have H1 := H; rw [if_neg (show ¬ (false = true) by decide)] at H1
    clear H
    have H := H1
    clear H1
    by_cases c12 : (a0_1.size : Int) > 2000
    ·rw [if_pos c12] at H
     have c12b0 : decide (2000 < (a0_1.size : Int)) = true := decide_eq_true c12
     have c12b1 : decide (2000 < a0_1.size) = true := decide_eq_true (by omega)
     clear c12
     obtain rfl := Option.some.inj H
     obtain ⟨hcz13_0, hcz13_1, hfz13_0, hfz13_1⟩ := blk_all2 BK454.out
     go_wp2
     go_ret
     exact ⟨by first | rfl | (simp [errW_none, errW_some] <;> rfl) | (simp [*, errW_none, errW_some] <;> rfl) | (simp only [bytes_ne, bytes_eq] <;> rfl), by repeat (first | (with_reducible first | exact HB.out | apply below_alloc | apply pw_below_drewN | apply below_drew1 | refine below_set ?_ GE454.out) | exact HB.out)⟩
    ·rw [if_neg c12] at H
     have c12b0 : decide (2000 < (a0_1.size : Int)) = false := decide_eq_false c12
     have c12b1 : decide (2000 < a0_1.size) = false := decide_eq_false (by omega)
     clear c12
     obtain rfl := Option.some.inj H
     obtain ⟨hcz14_0, hcz14_1, hfz14_0, hfz14_1⟩ := blk_all2 BK454.out
     go_wp2
     go_ret
     exact ⟨by first | rfl | (simp [errW_none, errW_some] <;> rfl) | (simp [*, errW_none, errW_some] <;> rfl) | (simp only [bytes_ne, bytes_eq] <;> rfl), by repeat (first | (with_reducible first | exact HB.out | apply below_alloc | apply pw_below_drewN | apply below_drew1 | refine below_set ?_ GE454.out) | exact HB.out)⟩


/-! ### recs_text: function 86 -/
def recs_text.f (a0_0 : ByteArray) (a0_1 : ByteArray) : Option (ByteArray) := if 1 + a0_0.size ≤ 9223372036854775807 then (if ((⟨#[32]⟩ : ByteArray) ++ a0_0).size + 1 ≤ 9223372036854775807 then (if (((⟨#[32]⟩ : ByteArray) ++ a0_0) ++ (⟨#[61]⟩ : ByteArray)).size + a0_1.size ≤ 9223372036854775807 then (if ((((⟨#[32]⟩ : ByteArray) ++ a0_0) ++ (⟨#[61]⟩ : ByteArray)) ++ a0_1).size + 1 ≤ 9223372036854775807 then (some (((((⟨#[32]⟩ : ByteArray) ++ a0_0) ++ (⟨#[61]⟩ : ByteArray)) ++ a0_1) ++ (⟨#[10]⟩ : ByteArray))) else (none)) else (none)) else (none)) else (none)
set_option maxHeartbeats 8000000 in
set_option maxRecDepth 100000 in
theorem recs_text.calls (a0_0 : ByteArray) (a0_1 : ByteArray) (r : ByteArray) (w : World) (h : recs_text.f a0_0 a0_1 = some r) :
  Calls Tryz.prog 86 #[.agg #[.string a0_0, .string a0_1]] w fun e w' => e = .returned (.string r) ∧ Below w.heap.size w w' := by
 have hu35 := Tryz.underlying35
 have HB := Aside0.mk (Below.refl w.heap.size w)
 have H : (if 1 + a0_0.size ≤ 9223372036854775807 then (if ((⟨#[32]⟩ : ByteArray) ++ a0_0).size + 1 ≤ 9223372036854775807 then (if (((⟨#[32]⟩ : ByteArray) ++ a0_0) ++ (⟨#[61]⟩ : ByteArray)).size + a0_1.size ≤ 9223372036854775807 then (if ((((⟨#[32]⟩ : ByteArray) ++ a0_0) ++ (⟨#[61]⟩ : ByteArray)) ++ a0_1).size + 1 ≤ 9223372036854775807 then (some (((((⟨#[32]⟩ : ByteArray) ++ a0_0) ++ (⟨#[61]⟩ : ByteArray)) ++ a0_1) ++ (⟨#[10]⟩ : ByteArray))) else (none)) else (none)) else (none)) else (none)) = some r := h
 clear h
 by_cases c2 : 1 + a0_0.size ≤ 9223372036854775807
 ·rw [if_pos c2] at H
  have c2b0 := eq_true c2
  have c2b1 : decide (1 + a0_0.size ≤ 9223372036854775807) = true := decide_eq_true c2
  try have c2b2 : (9223372036854775807 < 1 + a0_0.size) = False := eq_false (Nat.not_lt.2 c2)
  by_cases c3 : ((⟨#[32]⟩ : ByteArray) ++ a0_0).size + 1 ≤ 9223372036854775807
  ·rw [if_pos c3] at H
   have c3b0 := eq_true c3
   have c3b1 : decide (((⟨#[32]⟩ : ByteArray) ++ a0_0).size + 1 ≤ 9223372036854775807) = true := decide_eq_true c3
   try have c3b2 : (9223372036854775807 < ((⟨#[32]⟩ : ByteArray) ++ a0_0).size + 1) = False := eq_false (Nat.not_lt.2 c3)
   try have c3b3 : (9223372036854775807 < 1 + a0_0.size + 1) = False := by have h_ := Nat.not_lt.2 c3; simp only [ByteArray.size_append] at h_; exact eq_false h_
   by_cases c4 : (((⟨#[32]⟩ : ByteArray) ++ a0_0) ++ (⟨#[61]⟩ : ByteArray)).size + a0_1.size ≤ 9223372036854775807
   ·rw [if_pos c4] at H
    have c4b0 := eq_true c4
    have c4b1 : decide ((((⟨#[32]⟩ : ByteArray) ++ a0_0) ++ (⟨#[61]⟩ : ByteArray)).size + a0_1.size ≤ 9223372036854775807) = true := decide_eq_true c4
    try have c4b2 : (9223372036854775807 < (((⟨#[32]⟩ : ByteArray) ++ a0_0) ++ (⟨#[61]⟩ : ByteArray)).size + a0_1.size) = False := eq_false (Nat.not_lt.2 c4)
    try have c4b3 : (9223372036854775807 < 1 + a0_0.size + 1 + a0_1.size) = False := by have h_ := Nat.not_lt.2 c4; simp only [ByteArray.size_append] at h_; exact eq_false h_
    by_cases c5 : ((((⟨#[32]⟩ : ByteArray) ++ a0_0) ++ (⟨#[61]⟩ : ByteArray)) ++ a0_1).size + 1 ≤ 9223372036854775807
    ·rw [if_pos c5] at H
     have c5b0 := eq_true c5
     have c5b1 : decide (((((⟨#[32]⟩ : ByteArray) ++ a0_0) ++ (⟨#[61]⟩ : ByteArray)) ++ a0_1).size + 1 ≤ 9223372036854775807) = true := decide_eq_true c5
     try have c5b2 : (9223372036854775807 < ((((⟨#[32]⟩ : ByteArray) ++ a0_0) ++ (⟨#[61]⟩ : ByteArray)) ++ a0_1).size + 1) = False := eq_false (Nat.not_lt.2 c5)
     try have c5b3 : (9223372036854775807 < 1 + a0_0.size + 1 + a0_1.size + 1) = False := by have h_ := Nat.not_lt.2 c5; simp only [ByteArray.size_append] at h_; exact eq_false h_
     obtain rfl := Option.some.inj H
     go_enter Tryz.func86, Tryz.ntmps86
     go_wp2_with (first | ((with_reducible refine gate_dst (N := 1) rfl ?_); refine boxA_ 1 35 #[.string a0_0, .string a0_1] ?_; intro gb483 hg w6 hbox hb; have n0_ := Aside0.mk (bstep_ hb); have n1_ := Aside0.mk (hbox); have n2_ := Aside0.mk ((by rw [hg]; exact bsize_ : w.heap.size ≤ gb483)); have n3_ := Aside0.mk ((by rw [hg]; exact bsize_ : w.heap.size ≤ gb483)); clear HB; have HB := n0_; have BK483 := n1_; have GW483 := n2_; have GE483 := n3_; clear n0_ n1_ n2_ n3_; clear hb hbox hg; obtain ⟨hcz7_0, hcz7_1, hfz7_0, hfz7_1⟩ := blk_all2 BK483.out))
     go_ret
     exact finA_
    ·rw [if_neg c5] at H
     exact absurd H (by simp)
   ·rw [if_neg c4] at H
    exact absurd H (by simp)
  ·rw [if_neg c3] at H
   exact absurd H (by simp)
 ·rw [if_neg c2] at H
  exact absurd H (by simp)

end Go.Proofs.YtjidenkhgeoaiaaGreatDoor.P

/- Contract, by hand, of recs.Len (a loop by goto): the least length that tells itself. -/
namespace Go.Proofs.YtjidenkhgeoaiaaGreatDoor.Hand
open Go.RowKit Go.Shelf Go.Proofs.YtjidenkhgeoaiaaGreatDoor.P Go.Proofs.YtjidenkhgeoaiaaGreatDoorW Go.Proofs.YtjidenkhgeoaiaaGreatDoorW.PrintWords Go.Proofs.YtjidenkhgeoaiaaGreatDoorW.PrintLast Go.Proofs.YtjidenkhgeoaiaaGreatDoorW.PrintMore
attribute [local go_sem] Oper.semAt_some
set_option linter.unusedVariables false
set_option linter.unusedSimpArgs false

/-- A scope with one label that is jumped back to, by a number that each pass lowers. -/
theorem wp_scope_ghost {P : Program} {Q : Exit → Act → World → Prop} {a : Act} {w : World} {c rest : Code} (l : Nat) (I : Nat → Act → World → Prop) (hf : findLabel c l = some (Code.skip.seq rest))
    (pass : ∀ n a w, I n a w → rest.wp P (Exit.jump l (fun a' w' => ∃ n', n' < n ∧ I n' a' w') Q) a w)
    (first : (∀ n a w, I n a w → rest.wp P (Exit.jump l (fun a w => ∃ n, I n a w) Q) a w) → c.wp P (Exit.jump l (fun a w => ∃ n, I n a w) Q) a w) : (Code.scope c).wp P Q a w := by
  have up : ∀ (X Y : Act → World → Prop), (∀ a w, X a w → Y a w) → ∀ e a w, Exit.jump l X Q e a w → Exit.jump l Y Q e a w := by
    intro X Y h e a w hq
    cases e with
    | goto l' => exact ⟨hq.1, h _ _ hq.2⟩
    | normal => exact hq
    | exit id => exact hq
    | ret => exact hq
    | panic ch => exact hq
    | outgrown => exact hq
  refine wp_scope_jumps l (fun a w => ∃ n, I n a w) (fun a w => leastOf (fun n => I n a w)) hf (first fun n a w h => wp_mono (pass n a w h) (up _ _ fun a w => fun ⟨n', _, h'⟩ => ⟨n', h'⟩)) ?_
  intro a w hI
  exact wp_mono (wp_seq (wp_skip (pass _ a w (leastOf_spec hI).1))) (up _ _ fun a' w' => fun ⟨n', hlt, hI'⟩ => ⟨⟨n', hI'⟩, Nat.lt_of_le_of_lt ((leastOf_spec ⟨n', hI'⟩).2 n' hI') hlt⟩)

theorem alloc_new (w : World) (o : Obj) : (w.alloc o).heap[w.heap.size]? = some o := by
  show (w.heap.push o)[w.heap.size]? = some o
  simp
/-- How many bytes a number's digits have. -/
def digs (n : Int) : Int := ((⟨(Lib.itoa n).toArray⟩ : ByteArray).size : Int)
def lenLoop : Nat → Int → Int → Option Int
  | 0, _, _ => none
  | k + 1, rest, m => if wrap64 (rest + digs m) = m then some m else lenLoop k rest (wrap64 (rest + digs m))
def recs_Len.f (a0 a1 : ByteArray) : Option Int :=
  (recs_May.f 20 a0 a1).bind fun e => if e = 0 then (recs_text.f a0 a1).bind fun t => (if t.size ≤ 9223372036854775807 then lenLoop 20 (t.size : Int) (t.size : Int) else none) else some 0

def lenInv (a0 a1 : ByteArray) (rest r : Int) (w : World) (n : Nat) (a' : Act) (w' : World) : Prop :=
  ∃ (gb : Nat) (u5 u6 u7 u8 u9 u10 u11 u12 u13 u14 u15 u16 u17 u18 u19 u20 u21 u22 : Value) (m : Int), (Aside0 (-9223372036854775808 ≤ m ∧ m ≤ 9223372036854775807) ∧ Aside0 (lenLoop n rest m = some r) ∧ Aside0 (Below w.heap.size w w')) ∧
    a' = { tmps := #[.agg #[.string a0, .string a1], .pointer (some ⟨gb, 0, none⟩), .int .i64 0, .int .i64 rest, .int .i64 m, u5, u6, u7, u8, u9, u10, u11, u12, u13, u14, u15, u16, u17, u18, u19, u20, u21, u22], defers := [] }

set_option maxHeartbeats 8000000 in
set_option maxRecDepth 1000000 in
theorem recs_Len.calls (a0 a1 : ByteArray) (r : Int) (w : World) (HTB : Aside0 (TabOk w)) (h : recs_Len.f a0 a1 = some r) :
    Calls Tryz.prog 85 #[.agg #[.string a0, .string a1]] w fun e w' => e = .returned (.int .i64 r) ∧ Below w.heap.size w w' := by
  have hu45 := Tryz.underlying35
  have HB := Aside0.mk (Below.refl w.heap.size w)
  obtain ⟨ec, hM, h⟩ := Option.bind_eq_some_iff.1 h
  have HM := Aside0.mk hM
  clear hM
  by_cases c1 : ¬ ec = 0
  · rw [if_neg c1] at h
    obtain rfl := Option.some.inj h
    have b1 : (ec != 0) = true := bne_iff_ne.2 c1
    clear c1
    go_enter Tryz.func85, Tryz.ntmps85
    go_wp2
    refine wp_scope_ghost 0 (fun _ _ _ => False) rfl (fun _ _ _ hf => hf.elim) (fun _ => ?_)
    go_wp2_with ((go_at_call 83; (with_reducible refine (recs_May.calls 20 a0 a1 ec _ HM.out).mono ?_); rintro e w7 ⟨rfl, hb⟩; have n0_ := Aside0.mk (((Below.refl w.heap.size w).alloc (Nat.le_refl _) (.cells #[.string a0, .string a1] 35)).trans (hb.mono (by simp))); have BK := Aside0.mk ((hb.block w.heap.size (by simp)).trans (alloc_new w _)); clear HB hb; have HB := n0_; clear n0_; have hcz0 : w7.cell? ⟨w.heap.size, 0, none⟩ = some (.string a0) := (blk_cell BK.out 0).trans rfl; have hcz1 : w7.cell? ⟨w.heap.size, 1, none⟩ = some (.string a1) := (blk_cell BK.out 1).trans rfl; have hfz0 := blk_frozen BK.out 0; have hfz1 := blk_frozen BK.out 1))
    simp only [Exit.jump]
    go_ret
    exact ⟨rfl, HB.out⟩
  · have c2 := Decidable.of_not_not c1
    subst c2
    clear c1
    rw [if_pos rfl] at h
    obtain ⟨tx, hT, h⟩ := Option.bind_eq_some_iff.1 h
    split at h
    case isFalse => cases h
    rename_i hsz
    have HT := Aside0.mk hT
    have HL := Aside0.mk h
    have HZ := Aside0.mk hsz
    clear hT h hsz
    go_enter Tryz.func85, Tryz.ntmps85
    go_wp2
    refine wp_scope_ghost 0 (lenInv a0 a1 (tx.size : Int) r w) rfl ?_ ?_
    · clear HB HL
      rintro n a' w' ⟨gb, u5, u6, u7, u8, u9, u10, u11, u12, u13, u14, u15, u16, u17, u18, u19, u20, u21, u22, m, ⟨hm, hA, HB⟩, rfl⟩
      cases n with
      | zero => cases hA.out
      | succ k =>
      have H := hA.out
      clear hA
      rw [lenLoop] at H
      unfold digs at H
      obtain ⟨s, hs⟩ : ∃ s : ByteArray, (⟨(Lib.itoa m).toArray⟩ : ByteArray) = s := ⟨_, rfl⟩
      rw [hs] at H
      have HS := Aside0.mk hs
      clear hs
      obtain ⟨x, hx⟩ : ∃ x : Int, wrap64 ((tx.size : Int) + (s.size : Int)) = x := ⟨_, rfl⟩
      rw [hx] at H
      have hxr : -9223372036854775808 ≤ x ∧ x ≤ 9223372036854775807 := by rw [← hx]; unfold wrap64; omega
      have hw : IntKind.i64.wrap ((tx.size : Int) + (s.size : Int)) = x := by rw [← hx]; exact i64_w _
      have HXR := Aside0.mk hxr
      have HX := Aside0.mk hx
      clear hxr hx
      by_cases c : x = m
      · rw [if_pos c] at H
        obtain rfl := Option.some.inj H
        have d : (x != m) = false := bne_eq_false_iff_eq.2 c
        clear H c
        go_wp2_with (go_at_call 103; (with_reducible refine (Tryz.strconv_Itoa m hm.out.1 hm.out.2 _ (HTB.out.below HB.out)).mono ?_); rintro e w9 ⟨rfl, kk, os, rfl⟩; rw [HS.out]; have n0_ := Aside0.mk (below_step HB.out (Lib.below_grow _ _ (Nat.le_refl _) kk os)); clear HB; have HB := n0_; clear n0_)
        simp only [Exit.jump]
        go_ret
        exact ⟨rfl, HB.out⟩
      · rw [if_neg c] at H
        have HL := Aside0.mk H
        have d : (x != m) = true := bne_iff_ne.2 c
        clear H c
        go_wp2_with (go_at_call 103; (with_reducible refine (Tryz.strconv_Itoa m hm.out.1 hm.out.2 _ (HTB.out.below HB.out)).mono ?_); rintro e w9 ⟨rfl, kk, os, rfl⟩; rw [HS.out]; have n0_ := Aside0.mk (below_step HB.out (Lib.below_grow _ _ (Nat.le_refl _) kk os)); clear HB; have HB := n0_; clear n0_)
        go_step3
        exact ⟨rfl, k, Nat.lt_succ_self k, gb, _, _, _, _, _, _, _, _, _, _, _, _, _, _, _, _, _, _, x, ⟨HXR, HL, HB⟩, rfl⟩
    · intro hp
      go_wp2_with (first | (go_at_call 83; (with_reducible refine (recs_May.calls 20 a0 a1 0 _ HM.out).mono ?_); rintro e w7 ⟨rfl, hb⟩; have n0_ := Aside0.mk (((Below.refl w.heap.size w).alloc (Nat.le_refl _) (.cells #[.string a0, .string a1] 35)).trans (hb.mono (by simp))); have BK := Aside0.mk ((hb.block w.heap.size (by simp)).trans (alloc_new w _)); clear HB hb; have HB := n0_; clear n0_; have hcz0 : w7.cell? ⟨w.heap.size, 0, none⟩ = some (.string a0) := (blk_cell BK.out 0).trans rfl; have hcz1 : w7.cell? ⟨w.heap.size, 1, none⟩ = some (.string a1) := (blk_cell BK.out 1).trans rfl; have hfz0 := blk_frozen BK.out 0; have hfz1 := blk_frozen BK.out 1) | (go_at_call 86; (with_reducible refine (recs_text.calls a0 a1 tx _ HT.out).mono ?_); rintro e w8 ⟨rfl, hb⟩; have n0_ := Aside0.mk (below_step HB.out hb); clear HB; have HB := n0_; clear n0_ hb))
      go_step3
      rename_i hk
      apply hk
      refine hp 20 _ _ ?_
      exact ⟨w.heap.size, _, _, _, _, _, _, _, _, _, _, _, _, _, _, _, _, _, _, (tx.size : Int), ⟨⟨by have := HZ.out; omega⟩, HL, HB⟩, rfl⟩
end Go.Proofs.YtjidenkhgeoaiaaGreatDoor.Hand

/- Contract, by hand, of recs.One: a record's bytes, its length ahead. -/
namespace Go.Proofs.YtjidenkhgeoaiaaGreatDoor.Hand
open Go.RowKit Go.Shelf Go.Proofs.YtjidenkhgeoaiaaGreatDoor.P Go.Proofs.YtjidenkhgeoaiaaGreatDoorW Go.Proofs.YtjidenkhgeoaiaaGreatDoorW.PrintWords Go.Proofs.YtjidenkhgeoaiaaGreatDoorW.PrintLast Go.Proofs.YtjidenkhgeoaiaaGreatDoorW.PrintMore
attribute [local go_sem] Oper.semAt_some
set_option linter.unusedVariables false
set_option linter.unusedSimpArgs false

theorem step_append_str {P : Program} {ops : Array Oper} {o : Oper} {a : Act} {w : World} {K : Act → World → Prop} {Q : Exit → Act → World → Prop} {E : Prop} (hgd : o.guard = none) (sl x : Operand) (t u : TypeId)
    (ho : o.op = .call { callee := .builtin .append, args := #[sl, x], argTypes := #[t, u] })
    (base : Nat) (e : TypeId) (i : TypeInfo) (ht : P.underlying t = some (.slice e)) (hu : P.underlying u = some .string) (hi : P.info? e = some i) (hz : i.zero = some (.int .u8 0))
    (hsize : i.size = 1) (hby : i.bytes = 1)
    (v : Value) (n : Nat) (xs : List Value) (hs : a.eval sl = v) (hown : w.ownsRow base e 1 v n xs) (s : ByteArray) (hx : a.eval x = .string s)
    (h63 : n + s.size ≤ maxLen) (hbytes : n + s.size ≤ 140737488355328) (hbase : base ≤ w.heap.size)
    (h : ∀ v' w', w'.ownsRow base e 1 v' (n + s.size) (xs ++ Lib.strCells s) → w.grownBy w' v.ownBlock → K (a.put o.dst v') w') :
    if Region.wanted o (yielded ops a.tmps) = true then Oper.wp P o a w K Q else E := by
  have hw : Region.wanted o (yielded ops a.tmps) = true := by simp [Region.wanted, hgd]
  rw [if_pos hw]
  obtain ⟨v', w', hr, h2, h3, h4⟩ := Lib.run_append_own_string (P := P) w base t u o.type e i ht hu hi hz hsize hby v n xs hown s h63 hbytes hbase
  unfold Oper.wp execOp
  simp only [ho, resolve, invoke, builtin, Sem.run_bind, Sem.run_pure, Result.andThen_ok, List.map_toArray, List.map_cons, List.map_nil, hs, hx, hr]
  exact h v' w' h2 h3

theorem info5' : (Tryz.prog.info? 5).map (fun i => (i.zero, i.size, i.bytes)) = some (some (.int .u8 0), 1, 1) := by kernel_rfl
theorem own_below' {W W' : World} {base n : Nat} {e : TypeId} {v : Value} {xs : List Value} (h : W.ownsRow base e 1 v n xs) (hb : Below W.heap.size W W') : W'.ownsRow base e 1 v n xs := by
  refine ⟨h.1, ?_⟩
  rcases h.2 with h2 | ⟨g, cap, cur, h1, h2, h3, h4⟩
  · exact .inl h2
  · exact .inr ⟨g, cap, cur, h1, h2, (hb.block g (Array.getElem?_eq_some_iff.1 h3).1).trans h3, h4⟩
theorem own_base' {W : World} {base n : Nat} {e : TypeId} {v : Value} {xs : List Value} (h : W.ownsRow base e 1 v n xs) (i : Nat) (hi : v.ownBlock = some i) : base ≤ i := by
  rcases h.2 with ⟨rfl, _⟩ | ⟨g, cap, cur, rfl, hb, _⟩
  · cases hi
  · have : g = i := by simpa [Value.ownBlock] using hi
    omega
theorem own_ne {W : World} {base n g t : Nat} {e : TypeId} {v : Value} {xs : List Value} {cells : Array Value} (h : W.ownsRow base e 1 v n xs) (hb : W.heap[g]? = some (.cells cells t (0, 0))) (ht : e ≠ t) : some g ≠ v.ownBlock := by
  intro hi
  rcases h.2 with ⟨rfl, _⟩ | ⟨g1, cap, cur, rfl, _, hg, _⟩
  · cases hi
  · have : g = g1 := by simpa [Value.ownBlock] using hi
    subst this
    rw [hg] at hb
    simp only [Option.some.injEq, Obj.cells.injEq] at hb
    exact ht hb.2.1

/-- A number's digits, as numbers. -/
def digL (n : Int) : List Int := (Lib.itoa n).map fun b => (b.toNat : Int)
def recs_One.f (a0 a1 : ByteArray) : Option (List Int × Int) :=
  (recs_May.f 20 a0 a1).bind fun e => if e = 0 then (recs_Len.f a0 a1).bind fun n => (recs_text.f a0 a1).bind fun t =>
    (if -9223372036854775808 ≤ n ∧ n ≤ 9223372036854775807 ∧ t.size ≤ 100000 ∧ (Lib.itoa n).length ≤ 100 then some (digL n ++ bytesOf t, 0) else none) else some ([], e)

set_option maxHeartbeats 8000000 in
set_option maxRecDepth 1000000 in
theorem recs_One.calls (a0 a1 : ByteArray) (r1 : List Int) (r2 : Int) (w : World) (HTB : Aside0 (TabOk w)) (h : recs_One.f a0 a1 = some (r1, r2)) :
    Calls Tryz.prog 68 #[.agg #[.string a0, .string a1]] w fun e w' => ∃ v0_ : Value, e = .returned (.tuple #[v0_, .int .i64 r2]) ∧ Kd.R (Kd.int .u8) 5 w' w.heap.size (fun _ => True) v0_ r1 ∧ Below w.heap.size w w' := by
  have hu45 := Tryz.underlying35
  obtain ⟨ec, hM, h⟩ := Option.bind_eq_some_iff.1 h
  have HM := Aside0.mk hM
  clear hM
  by_cases c1 : ¬ ec = 0
  · rw [if_neg c1] at h
    obtain ⟨rfl, rfl⟩ := Prod.mk.inj (Option.some.inj h)
    have b1 : (ec != 0) = true := bne_iff_ne.2 c1
    clear c1 h
    go_enter Tryz.func68, Tryz.ntmps68
    go_wp2_with (go_at_call 83; (with_reducible refine (recs_May.calls 20 a0 a1 ec _ HM.out).mono ?_); rintro e w7 ⟨rfl, hb⟩; have HB := Aside0.mk (((Below.refl w.heap.size w).alloc (Nat.le_refl _) (.cells #[.string a0, .string a1] 35)).trans (hb.mono (by simp))))
    go_ret2
    exact ⟨_, rfl, Kd.R_nil _ _ _ _ _, HB.out⟩
  · have c2 := Decidable.of_not_not c1
    subst c2
    clear c1
    rw [if_pos rfl] at h
    obtain ⟨n, hL, h⟩ := Option.bind_eq_some_iff.1 h
    obtain ⟨tx, hT, h⟩ := Option.bind_eq_some_iff.1 h
    split at h
    case isFalse => cases h
    rename_i hsz
    obtain ⟨hr1, rfl⟩ := Prod.mk.inj (Option.some.inj h)
    have HT := Aside0.mk hT
    have HL := Aside0.mk hL
    have HZ := Aside0.mk hsz
    have HR1 := Aside0.mk hr1
    clear hT hL h hsz hr1
    go_enter Tryz.func68, Tryz.ntmps68
    go_wp2_with (go_at_call 83; (with_reducible refine (recs_May.calls 20 a0 a1 0 _ HM.out).mono ?_); rintro e w7 ⟨rfl, hb⟩; have HB := Aside0.mk (((Below.refl w.heap.size w).alloc (Nat.le_refl _) (.cells #[.string a0, .string a1] 35)).trans (hb.mono (by simp))); have BK := Aside0.mk ((hb.block w.heap.size (by simp)).trans (alloc_new w _)); clear hb)
    have n0_ := Aside0.mk (below_drew1 HB.out)
    have n1_ := Aside0.mk (blk_drew BK.out)
    clear HB BK
    have HB := n0_
    have BK := n1_
    clear n0_ n1_
    refine start_ (n := 8) (S := fun w' => w'.cell? ⟨w.heap.size, 0, none⟩ = some (.string a0) ∧ w'.cell? ⟨w.heap.size, 1, none⟩ = some (.string a1)) (ds := []) #[false, false, false, false, false, false, false, false] (by kernel_rfl) rfl rfl ⟨(blk_cell BK.out 0).trans rfl, (blk_cell BK.out 1).trans rfl⟩ (fun hHeld => ?_)
    generalize w7.drew = w8 at HB BK hHeld ⊢
    refine take_ (i := 0) (N := some 10) (v := ?_) (a' := ?_) #[true, false, false, false, false, false, false, false] rfl rfl (by kernel_rfl) (fun _ _ _ h => h) (Or.inl ⟨by rfl, ?_⟩) hHeld ?_ ?_
    rotate_left
    · rintro w' ⟨s0, s1⟩
      go_simp
      with_reducible rfl
    rotate_left
    · simp only [Act.put, List.setIfInBounds_toArray, List.set_cons_zero, List.set_cons_succ, i64_w, i32_w]
      rfl
    refine take_ (i := 3) (N := some 13) (v := ?_) (a' := ?_) #[true, false, false, true, false, false, false, false] rfl rfl (by kernel_rfl) (fun _ _ _ h => h) (Or.inl ⟨by rfl, ?_⟩) hHeld ?_ ?_
    rotate_left
    · rintro w' ⟨s0, s1⟩
      go_simp
      with_reducible rfl
    rotate_left
    · simp only [Act.put, List.setIfInBounds_toArray, List.set_cons_zero, List.set_cons_succ, i64_w, i32_w]
      rfl
    refine one_ (i := 1) (N := some 11) #[true, true, false, true, false, false, false, false] rfl rfl (by kernel_rfl) (by decide) (fun K hK => ?_)
    refine goes_ Tryz.func85 (by kernel_rfl) rfl #[.agg #[.string a0, .string a1]] (by rfl) rfl rfl (by (try simp only [List.map_toArray, List.map_cons, List.map_nil]); first | done | rfl) ?_
    with_reducible refine (recs_Len.calls a0 a1 n _ ⟨HTB.out.below HB.out⟩ HL.out).mono ?_
    rintro e w9 ⟨rfl, hb⟩
    refine ⟨_, rfl, ?_⟩
    have n0_ := Aside0.mk (below_step HB.out hb)
    have n1_ := Aside0.mk (blk_below (g := w.heap.size) (o := .cells #[.string a0, .string a1] 35 (0, 0)) BK.out hb)
    clear HB BK hb
    have HB := n0_
    have BK := n1_
    clear n0_ n1_
    refine hK.out _ _ ⟨(blk_cell BK.out 0).trans rfl, (blk_cell BK.out 1).trans rfl⟩ (fun hHeld => ?_)
    clear hK K
    refine norm_ (a' := ?_) ?_ ?_
    rotate_left
    · show Act.put _ (some 11) _ = _
      simp only [Act.put, List.setIfInBounds_toArray, List.set_cons_zero, List.set_cons_succ, i64_w, i32_w]
      rfl
    refine one_ (i := 2) (N := some 12) #[true, true, true, true, false, false, false, false] rfl rfl (by kernel_rfl) (by decide) (fun K hK => ?_)
    refine goes_ Tryz.func84 (by kernel_rfl) rfl #[.slice none 0 0, .int .i64 n, .int .i64 10] (by rfl) rfl rfl (by (try simp only [List.map_toArray, List.map_cons, List.map_nil]); first | done | rfl) ?_
    with_reducible refine (Tryz.strconv_AppendInt_10 w.heap.size 0 n HZ.out.1 HZ.out.2.1 (.slice none 0 0) [] _ (World.ownsRow_nil _ _ _ _) (below_size HB.out) (by omega) ((Lib.tabBelow_of_tabIs HTB.out).on HB.out)).mono ?_
    rintro e w10 ⟨v12, rfl, hown, hb, hok⟩
    refine ⟨_, rfl, ?_⟩
    have n0_ := Aside0.mk (HB.out.trans hb)
    have n1_ := Aside0.mk (hok w.heap.size _ BK.out (by simp) (by intro c fz h; simp at h))
    have HW := Aside0.mk hown
    clear HB BK hb hok hown
    have HB := n0_
    have BK := n1_
    clear n0_ n1_
    refine hK.out _ _ ⟨(blk_cell BK.out 0).trans rfl, (blk_cell BK.out 1).trans rfl⟩ (fun hHeld => ?_)
    clear hK K
    refine norm_ (a' := ?_) ?_ ?_
    rotate_left
    · show Act.put _ (some 12) _ = _
      simp only [Act.put, List.setIfInBounds_toArray, List.set_cons_zero, List.set_cons_succ, i64_w, i32_w]
      rfl
    refine one_ (i := 4) (N := some 14) #[true, true, true, true, true, false, false, false] rfl rfl (by kernel_rfl) (by decide) (fun K hK => ?_)
    refine goes_ Tryz.func86 (by kernel_rfl) rfl #[.agg #[.string a0, .string a1]] (by rfl) rfl rfl (by (try simp only [List.map_toArray, List.map_cons, List.map_nil]); first | done | rfl) ?_
    with_reducible refine (recs_text.calls a0 a1 tx _ HT.out).mono ?_
    rintro e w11 ⟨rfl, hb⟩
    refine ⟨_, rfl, ?_⟩
    have n0_ := Aside0.mk (below_step HB.out hb)
    have n1_ := Aside0.mk (blk_below (g := w.heap.size) (o := .cells #[.string a0, .string a1] 35 (0, 0)) BK.out hb)
    have n2_ := Aside0.mk (own_below' HW.out hb)
    clear HB BK hb HW
    have HB := n0_
    have BK := n1_
    have HW := n2_
    clear n0_ n1_ n2_
    refine hK.out _ _ ⟨(blk_cell BK.out 0).trans rfl, (blk_cell BK.out 1).trans rfl⟩ (fun hHeld => ?_)
    clear hK K
    refine norm_ (a' := ?_) ?_ ?_
    rotate_left
    · show Act.put _ (some 14) _ = _
      simp only [Act.put, List.setIfInBounds_toArray, List.set_cons_zero, List.set_cons_succ, i64_w, i32_w]
      rfl
    refine one_ (i := 5) (N := some 15) #[true, true, true, true, true, true, false, false] rfl rfl (by kernel_rfl) (by decide) (fun K hK => ?_)
    obtain ⟨i0, hi0, hz0, hz1, hz2⟩ := info_parts info5'
    refine step_append_str rfl (.tmp 12) (.tmp 14) 31 9 rfl w.heap.size 5 i0 Tryz.underlying31 Tryz.underlying9 hi0 hz0 hz1 hz2 v12 (0 + (Lib.itoa n).length) _ (by rfl) HW.out tx (by rfl) (by have := HZ.out; simp only [maxLen]; omega) (by have := HZ.out; omega) (below_size HB.out) ?_
    intro v15 w12 hown hg
    have n0_ := Aside0.mk (HB.out.grown hg (below_size HB.out) (fun i e => own_base' HW.out i e))
    have n1_ := Aside0.mk (blk_grown (g := w.heap.size) (o := .cells #[.string a0, .string a1] 35 (0, 0)) BK.out hg (own_ne HW.out BK.out (by decide)))
    have n2_ := Aside0.mk hown
    clear HB BK hg HW hown
    have HB := n0_
    have BK := n1_
    have HW := n2_
    clear n0_ n1_ n2_
    refine hK.out _ _ ⟨(blk_cell BK.out 0).trans rfl, (blk_cell BK.out 1).trans rfl⟩ (fun hHeld => ?_)
    clear hK K
    refine norm_ (a' := ?_) ?_ ?_
    rotate_left
    · show Act.put _ (some 15) _ = _
      simp only [Act.put, List.setIfInBounds_toArray, List.set_cons_zero, List.set_cons_succ, i64_w, i32_w]
      rfl
    refine pure_ (i := 6) (N := some 2) (v := ?_) (a' := ?_) #[true, true, true, true, true, true, true, false] rfl rfl (by kernel_rfl) (fun _ _ _ h => h) (Or.inl ⟨by rfl, ?_⟩) ?_ ?_
    rotate_left
    · intro w'
      go_simp
      with_reducible rfl
    rotate_left
    · simp only [Act.put, List.setIfInBounds_toArray, List.set_cons_zero, List.set_cons_succ, i64_w, i32_w]
      rfl
    refine pure_ (i := 7) (N := some 3) (v := ?_) (a' := ?_) #[true, true, true, true, true, true, true, true] rfl rfl (by kernel_rfl) (fun _ _ _ h => h) (Or.inl ⟨by rfl, ?_⟩) ?_ ?_
    rotate_left
    · intro w'
      go_simp
      with_reducible rfl
    rotate_left
    · simp only [Act.put, List.setIfInBounds_toArray, List.set_cons_zero, List.set_cons_succ, i64_w, i32_w]
      rfl
    refine done_ (by kernel_rfl) ?_
    go_wp2
    go_ret2
    refine ⟨_, rfl, ?_, HB.out⟩
    have hl : r1.length = 0 + (Lib.itoa n).length + tx.size := by rw [← HR1.out, List.length_append, bytesOf_length, digL, List.length_map]; omega
    refine Kd.R_of_own (enc := Value.int .u8) (h1 := fun _ => rfl) ?_ (fun _ _ => trivial)
    rw [hl, ← HR1.out]
    have := HW.out
    rw [show ([] ++ Lib.byteCells (Lib.itoa n) ++ Lib.strCells tx : List Value) = encs (Value.int .u8) (digL n ++ bytesOf tx) by simp [Lib.byteCells, Lib.strCells, encs, digL, bytesOf, Function.comp_def]] at this
    exact this
end Go.Proofs.YtjidenkhgeoaiaaGreatDoor.Hand

namespace Go.Proofs.YtjidenkhgeoaiaaGreatDoor.P
open Go.RowKit Go.Proofs.YtjidenkhgeoaiaaGreatDoorW.PrintWords Go.Proofs.YtjidenkhgeoaiaaGreatDoorW.PrintLast Go.Proofs.YtjidenkhgeoaiaaGreatDoorW.PrintMore Go.Proofs.YtjidenkhgeoaiaaGreatDoor.Hand
attribute [local go_sem] max2_int min2_int max_two min_two max_three min_three max_four min_four   -- for this text's walks alone
set_option linter.unusedVariables false
set_option linter.unusedSimpArgs false

/-! ### recs_Lay: function 49 -/
def recs_Lay.l0 : Nat → List Int → List (S35) → Int → Int → Option (List Int × Int)
 | 0, _, _, _, _ => none
 | k + 1, x4, x9, x10, x11 => if x11 < x10 then (if 0 ≤ x11 then (if x11 < (x9.length : Int) then ((recs_One.f ((rd_T35 x9 x11).f0) ((rd_T35 x9 x11).f1)).bind fun bt164 => (if bt164.2 = 0 then (if x4.length + bt164.1.length < 140737488355328 then (recs_Lay.l0 k (x4 ++ bt164.1) x9 x10 (wrap64 (x11 + 1))) else (none)) else (some (([] : List Int), bt164.2)))) else (none)) else (none)) else (some (x4, 0))
def recs_Lay.f (k : Nat) (l0 : List (S35)) : Option (List Int × Int) := recs_Lay.l0 k ([] : List Int) l0 (l0.length : Int) 0
theorem recs_Lay.mono_l : ∀ k, (∀ y0 y1 y2 y3, LeO (recs_Lay.l0 k y0 y1 y2 y3) (recs_Lay.l0 (k + 1) y0 y1 y2 y3))
 | 0 => fun _ _ _ _ r h => by simp [recs_Lay.l0] at h
 | k + 1 => by
  have ih0 := recs_Lay.mono_l k
  ·intro y0 y1 y2 y3
   unfold recs_Lay.l0
   repeat' first
   | (with_reducible exact ih0 _ _ _ _)
   | (with_reducible exact LeO.refl _)
   | (with_reducible exact LeO.none _)
   | (with_reducible refine LeO.ite ?_ ?_)
   | (with_reducible refine LeO.bind ?_ (fun _ => ?_))
   | exact ih0 _ _ _ _
   | exact LeO.none _
   | refine LeO.ite ?_ ?_
   | refine LeO.bind ?_ (fun _ => ?_)
theorem recs_Lay.mono : ∀ a0 k, LeO (recs_Lay.f k a0) (recs_Lay.f (k + 1) a0) := by
 intro a0 k
 have ih0 := recs_Lay.mono_l k
 unfold recs_Lay.f
 repeat' first
   | (with_reducible exact ih0 _ _ _ _)
   | (with_reducible exact LeO.refl _)
   | (with_reducible exact LeO.none _)
   | (with_reducible refine LeO.ite ?_ ?_)
   | (with_reducible refine LeO.bind ?_ (fun _ => ?_))
   | exact ih0 _ _ _ _
   | exact LeO.none _
   | refine LeO.ite ?_ ?_
   | refine LeO.bind ?_ (fun _ => ?_)
set_option maxHeartbeats 8000000 in
set_option maxRecDepth 100000 in
theorem recs_Lay.calls (k : Nat) (A0 : Option Addr) (c0 : Nat) (l0 : List (S35)) (r1 : List Int) (r2 : Int) (w : World) (HTB : Aside0 (TabOk w)) (hr0 : Kd.C k35 w A0 l0.length l0) (hc0 : l0.length ≤ c0) (h : recs_Lay.f k l0 = some (r1, r2)) :
  Calls Tryz.prog 49 #[.slice A0 l0.length c0] w fun e w' => ∃ v0_ : Value, e = .returned (.tuple #[v0_, .int .i64 r2]) ∧ Kd.R (Kd.int .u8) 5 w' w.heap.size (fun _ => True) v0_ r1 ∧ Below w.heap.size w w' := by
 have hu35 := Tryz.underlying35
 have HR0 := Aside0.mk hr0
 have HC0 := Aside0.mk hc0
 clear hr0 hc0
 have HB := Aside0.mk (Below.refl w.heap.size w)
 have H : (recs_Lay.l0 k ([] : List Int) l0 (l0.length : Int) 0) = some (r1, r2) := h
 clear h
 have H' := Aside0.mk H
 clear H
 go_enter Tryz.func49, Tryz.ntmps49
 go_wp2
 go_loopg [4, 11] k (fun kq v4 v11 w' => ∃ (x4_1 : List Int) (x11_1 : Int), v11 = .int .i64 x11_1 ∧ Aside0 (recs_Lay.l0 kq x4_1 l0 (l0.length : Int) x11_1 = some (r1, r2)) ∧ Aside0 (kq ≤ k) ∧ Aside0 (Kd.R (Kd.int .u8) 5 w' w.heap.size (fun _ => True) v4 x4_1) ∧ Aside0 (Below w.heap.size w w'))
 case atStart => exact ⟨(([] : List Int)), (0), (by first | rfl | (simp; done) | (simp [*]; done)), H', ⟨Nat.le_refl _⟩, ⟨by first | exact Kd.R_nil _ _ _ _ _ | exact Kd.N_nil _ _ _ _ _ | exact Kd.V_nil _ _ _ _ _ | exact Kd.Q_nil _ _ _ _ _ | exact Kd.S_nil _ _ _ _ _⟩, ⟨by repeat (first | (with_reducible first | exact HB.out | apply below_alloc | apply pw_below_drewN | apply below_drew1) | exact HB.out)⟩⟩
 case round =>
  clear H'
  obtain ⟨x4_1, x11_1, rfl, HA, HK1, HO_4, HB⟩ := hrel
  cases gk with
  | zero => exact absurd HA.out (by simp [recs_Lay.l0])
  | succ k1 =>
   have H := HA.out
   clear HA
   simp only [recs_Lay.l0] at H
   by_cases c2 : x11_1 < (l0.length : Int)
   ·rw [if_pos c2] at H
    have c2b0 : decide (x11_1 < (l0.length : Int)) = true := decide_eq_true c2
    clear c2
    by_cases c3 : 0 ≤ x11_1
    ·rw [if_pos c3] at H
     have c3b0 : decide (0 ≤ x11_1) = true := decide_eq_true c3
     clear c3
     by_cases c4 : x11_1 < (l0.length : Int)
     ·rw [if_pos c4] at H
      have c4b0 : decide (x11_1 < (l0.length : Int)) = true := decide_eq_true c4
      clear c4
      replace H := Option.bind_eq_some_iff.mp H
      obtain ⟨⟨t164, t167⟩, A50, H⟩ := H
      try dsimp only at H
      have A5 := Aside0.mk A50
      clear A50
      by_cases c6 : t167 = 0
      ·rw [if_pos c6] at H
       have c6b0 : (t167 == 0) = true := beq_iff_eq.mpr c6
       have c6b1 : (t167 != 0) = false := bne_eq_false_iff_eq.mpr c6
       clear c6
       by_cases c7 : x4_1.length + t164.length < 140737488355328
       ·rw [if_pos c7] at H
        have LMc7 := Aside0.mk c7
        clear c7
        obtain ⟨y168, hy168⟩ : ∃ y_ : List Int, y_ = (x4_1 ++ t164) := ⟨_, rfl⟩
        replace H : (recs_Lay.l0 k1 y168 l0 (l0.length : Int) (wrap64 (x11_1 + 1))) = some (r1, r2) := by first | (rw [hy168]; with_reducible exact H) | (have H2_ := (Option.bind_some _ _).symm.trans H; rw [hy168]; with_reducible exact H2_) | (have H2_ := (Option.bind_some _ _).symm.trans H; with_reducible exact H2_) | with_reducible exact H | (rw [hy168]; exact H) | exact H
        have Ny168 := Aside0.mk hy168
        clear hy168
        have H' := Aside0.mk H
        clear H
        have p162 : 0 ≤ (x11_1 : Int) := of_decide_eq_true (by first | (with_reducible assumption) | assumption)
        have q162 : x11_1 < (l0.length : Int) := of_decide_eq_true (by first | (with_reducible assumption) | assumption)
        obtain ⟨ad162, e162, hx162_0, hx162_1⟩ := at_T35 HR0.out x11_1 p162 q162
        cases e162
        replace hx162_0 := (HB.out.cell (World.block_lt_of_cell? w _ hx162_0)).trans hx162_0
        replace hx162_1 := (HB.out.cell (World.block_lt_of_cell? w _ hx162_1)).trans hx162_1
        replace p162 := eq_true p162
        replace q162 := eq_true q162
        go_wp2_with (first | ((with_reducible refine gate_dst (N := 6) rfl ?_); refine boxA_ 6 35 #[.string (⟨#[]⟩ : ByteArray), .string (⟨#[]⟩ : ByteArray)] ?_; intro gb163 hg w8 hbox hb; have n0_ := Aside0.mk (Kd.R_below (by (with_reducible repeat (first | apply Kd.R_alloc | apply Kd.R_drewN | apply Kd.R_drew)); exact HO_4.out) hb); have n1_ := Aside0.mk (bstep_ hb); have n2_ := Aside0.mk (hbox); have n3_ := Aside0.mk ((by rw [hg]; exact bsize_ : w.heap.size ≤ gb163)); have n4_ := Aside0.mk ((by rw [hg]; exact bsize_ : w.heap.size ≤ gb163)); clear HO_4; clear HB; have HO_4 := n0_; have HB := n1_; have BK163 := n2_; have GW163 := n3_; have GE163 := n4_; clear n0_ n1_ n2_ n3_ n4_; clear hb hbox hg; obtain ⟨hcz9_0, hcz9_1, hfz9_0, hfz9_1⟩ := blk_all2 BK163.out) | ((with_reducible refine gate_callee (f := 68) rfl ?_); refine goesA_ (some 17) Tryz.func68 #[.agg #[.string ((rd_T35 l0 x11_1).f0), .string ((rd_T35 l0 x11_1).f1)]] ?_; (with_reducible refine (recs_One.calls ((rd_T35 l0 x11_1).f0) ((rd_T35 l0 x11_1).f1) t164 t167 _ ⟨HTB.out.below belA_⟩ A5.out).mono ?_); rintro e w10 ⟨v165, rfl, ho0, hb⟩; refine ⟨_, rfl, ?_⟩; have n0_ := Aside0.mk (Kd.R_elder' (by (with_reducible repeat (first | apply Kd.R_alloc | apply Kd.R_drewN | apply Kd.R_drew)); exact (Kd.R_mono (Kd.R_far (p := ⟨gb163, 1, none⟩) (Kd.R_far (p := ⟨gb163, 0, none⟩) (Kd.R_types HO_4.out BK163.out (by decide)) (fun _ hk => hk.2) (.string ((rd_T35 l0 x11_1).f0))) (fun _ hk => hk.2) (.string ((rd_T35 l0 x11_1).f1))) (fun _ h_ => h_.1))) (Kd.R_base ho0) hb); have n1_ := Aside0.mk (Kd.R_lower (Kd.R_new' ho0 (Kd.R_lt (by (with_reducible repeat (first | apply Kd.R_alloc | apply Kd.R_drewN | apply Kd.R_drew)); exact (Kd.R_mono (Kd.R_far (p := ⟨gb163, 1, none⟩) (Kd.R_far (p := ⟨gb163, 0, none⟩) (Kd.R_types HO_4.out BK163.out (by decide)) (fun _ hk => hk.2) (.string ((rd_T35 l0 x11_1).f0))) (fun _ hk => hk.2) (.string ((rd_T35 l0 x11_1).f1))) (fun _ h_ => h_.1))))) bsize_); have n2_ := Aside0.mk (blk_below (g := gb163) (o := .cells #[.string ((rd_T35 l0 x11_1).f0), .string ((rd_T35 l0 x11_1).f1)] 35 (0, 0)) (by (with_reducible repeat (first | refine blk_drewN ?_ _ | refine blk_drew ?_ | refine blk_alloc ?_ _)); refine blk_put (cs := #[.string ((rd_T35 l0 x11_1).f0), .string (⟨#[]⟩ : ByteArray)]) ?_ 1 _ rfl; (with_reducible repeat (first | refine blk_drewN ?_ _ | refine blk_drew ?_ | refine blk_alloc ?_ _)); refine blk_put (cs := #[.string (⟨#[]⟩ : ByteArray), .string (⟨#[]⟩ : ByteArray)]) ?_ 0 _ rfl; (with_reducible repeat (first | refine blk_drewN ?_ _ | refine blk_drew ?_ | refine blk_alloc ?_ _)); exact BK163.out) hb); have n3_ := Aside0.mk (bstep_ hb); clear HO_4; clear BK163; clear HB; have HO_4 := n0_; have HO166 := n1_; have BK163 := n2_; have HB := n3_; clear n0_ n1_ n2_ n3_; (try clear hb); (try clear hb2); (try clear hk); (try clear hi); (try clear ho0); obtain ⟨Ao12, co12, eo12⟩ := Kd.R_slice HO166.out; subst eo12) | ((with_reducible refine gate_builtin (b := .append) (xs := #[.tmp 23, .tmp 24]) rfl ?_); at_builtin; refine Kd.R_append_rows (Kd.int .u8) (w0 := w) w.heap.size rfl (.tmp 23) (.tmp 24) 31 5 (.int .u8 0) 1 rfl Tryz.underlying31 info5 rfl (by decide) (by omega) u4 x4_1 t164 _ _ _ (fun k_ => some k_ ≠ (.slice Ao12 t164.length co12 : Value).ownBlock) (fun _ => False) rfl rfl ?aO ?aR (fun _ _ h => h) (fun _ h => h.elim) ?aF ?aB ?aS ?aL ?_; (case aR => repeat (first | exact (Kd.R_reads' HO166.out).2.2 | (with_reducible refine Kd.C_alloc ?_ _) | (with_reducible refine Kd.C_drewN ?_ _) | (with_reducible refine Kd.C_drew ?_))); (case aB => exact belA_); (case aF => exact (fun k_ hk => Kd.fresh' (Kd.R_lt (by (with_reducible repeat (first | apply Kd.R_alloc | apply Kd.R_drewN | apply Kd.R_drew)); exact HO166.out)) k_ hk)); (case aO => exact (by (with_reducible repeat (first | apply Kd.R_alloc | apply Kd.R_drewN | apply Kd.R_drew)); exact Kd.R_mono HO_4.out (fun _ hk => hk.2))); (case aS => exact bsize_); (case aL => have := LMc7.out; omega); intro v169 w11 ho hb hg hat; rw [← Ny168.out] at ho; have n0_ := Aside0.mk (blk_grown (g := gb163) (o := .cells #[.string ((rd_T35 l0 x11_1).f0), .string ((rd_T35 l0 x11_1).f1)] 35 (0, 0)) (by (with_reducible repeat (first | refine blk_drewN ?_ _ | refine blk_drew ?_ | refine blk_alloc ?_ _)); exact BK163.out) hg (Kd.R_ne HO_4.out BK163.out (by decide))); have n1_ := Aside0.mk (Kd.R_after (ok := (fun _ => True)) (by (with_reducible repeat (first | apply Kd.R_alloc | apply Kd.R_drewN | apply Kd.R_drew)); exact HO166.out) hg hat); have n2_ := Aside0.mk (hb); have n3_ := Aside0.mk (ho); clear BK163; clear HO166; clear HB; clear HO_4; have BK163 := n0_; have HO166 := n1_; have HB := n2_; have HO170 := n3_; clear n0_ n1_ n2_ n3_; clear ho hb hg hat))
        go_roundg k1
        case measure => have := HK1.out; omega
        case rel => exact ⟨(y168), (wrap64 (x11_1 + 1)), (by first | rfl | (simp; done) | (simp [*]; done)), H', ⟨by have := HK1.out; omega⟩, ⟨by (with_reducible repeat (first | apply Kd.R_alloc | apply Kd.R_drewN | apply Kd.R_drew)); exact Kd.R_mono HO170.out (fun _ hk => trivial)⟩, ⟨by repeat (first | (with_reducible first | exact HB.out | apply below_alloc | apply pw_below_drewN | apply below_drew1 | refine below_set ?_ GE163.out) | exact HB.out)⟩⟩
       ·rw [if_neg c7] at H
        exact absurd H (by simp)
      ·rw [if_neg c6] at H
       have c6b0 : (t167 == 0) = false := beq_eq_false_iff_ne.mpr c6
       have c6b1 : (t167 != 0) = true := bne_iff_ne.mpr c6
       simp only [Option.some.injEq, Prod.mk.injEq] at H
       obtain ⟨rfl, rfl⟩ := H
       have p162 : 0 ≤ (x11_1 : Int) := of_decide_eq_true (by first | (with_reducible assumption) | assumption)
       have q162 : x11_1 < (l0.length : Int) := of_decide_eq_true (by first | (with_reducible assumption) | assumption)
       obtain ⟨ad162, e162, hx162_0, hx162_1⟩ := at_T35 HR0.out x11_1 p162 q162
       cases e162
       replace hx162_0 := (HB.out.cell (World.block_lt_of_cell? w _ hx162_0)).trans hx162_0
       replace hx162_1 := (HB.out.cell (World.block_lt_of_cell? w _ hx162_1)).trans hx162_1
       replace p162 := eq_true p162
       replace q162 := eq_true q162
       go_wp2_with (first | ((with_reducible refine gate_dst (N := 6) rfl ?_); refine boxA_ 6 35 #[.string (⟨#[]⟩ : ByteArray), .string (⟨#[]⟩ : ByteArray)] ?_; intro gb163 hg w13 hbox hb; have n0_ := Aside0.mk (Kd.R_below (by (with_reducible repeat (first | apply Kd.R_alloc | apply Kd.R_drewN | apply Kd.R_drew)); exact HO_4.out) hb); have n1_ := Aside0.mk (bstep_ hb); have n2_ := Aside0.mk (hbox); have n3_ := Aside0.mk ((by rw [hg]; exact bsize_ : w.heap.size ≤ gb163)); have n4_ := Aside0.mk ((by rw [hg]; exact bsize_ : w.heap.size ≤ gb163)); clear HO_4; clear HB; have HO_4 := n0_; have HB := n1_; have BK163 := n2_; have GW163 := n3_; have GE163 := n4_; clear n0_ n1_ n2_ n3_ n4_; clear hb hbox hg; obtain ⟨hcz14_0, hcz14_1, hfz14_0, hfz14_1⟩ := blk_all2 BK163.out) | ((with_reducible refine gate_callee (f := 68) rfl ?_); refine goesA_ (some 17) Tryz.func68 #[.agg #[.string ((rd_T35 l0 x11_1).f0), .string ((rd_T35 l0 x11_1).f1)]] ?_; (with_reducible refine (recs_One.calls ((rd_T35 l0 x11_1).f0) ((rd_T35 l0 x11_1).f1) t164 t167 _ ⟨HTB.out.below belA_⟩ A5.out).mono ?_); rintro e w15 ⟨v165, rfl, ho0, hb⟩; refine ⟨_, rfl, ?_⟩; have n0_ := Aside0.mk (Kd.R_elder' (by (with_reducible repeat (first | apply Kd.R_alloc | apply Kd.R_drewN | apply Kd.R_drew)); exact (Kd.R_mono (Kd.R_far (p := ⟨gb163, 1, none⟩) (Kd.R_far (p := ⟨gb163, 0, none⟩) (Kd.R_types HO_4.out BK163.out (by decide)) (fun _ hk => hk.2) (.string ((rd_T35 l0 x11_1).f0))) (fun _ hk => hk.2) (.string ((rd_T35 l0 x11_1).f1))) (fun _ h_ => h_.1))) (Kd.R_base ho0) hb); have n1_ := Aside0.mk (Kd.R_lower (Kd.R_new' ho0 (Kd.R_lt (by (with_reducible repeat (first | apply Kd.R_alloc | apply Kd.R_drewN | apply Kd.R_drew)); exact (Kd.R_mono (Kd.R_far (p := ⟨gb163, 1, none⟩) (Kd.R_far (p := ⟨gb163, 0, none⟩) (Kd.R_types HO_4.out BK163.out (by decide)) (fun _ hk => hk.2) (.string ((rd_T35 l0 x11_1).f0))) (fun _ hk => hk.2) (.string ((rd_T35 l0 x11_1).f1))) (fun _ h_ => h_.1))))) bsize_); have n2_ := Aside0.mk (blk_below (g := gb163) (o := .cells #[.string ((rd_T35 l0 x11_1).f0), .string ((rd_T35 l0 x11_1).f1)] 35 (0, 0)) (by (with_reducible repeat (first | refine blk_drewN ?_ _ | refine blk_drew ?_ | refine blk_alloc ?_ _)); refine blk_put (cs := #[.string ((rd_T35 l0 x11_1).f0), .string (⟨#[]⟩ : ByteArray)]) ?_ 1 _ rfl; (with_reducible repeat (first | refine blk_drewN ?_ _ | refine blk_drew ?_ | refine blk_alloc ?_ _)); refine blk_put (cs := #[.string (⟨#[]⟩ : ByteArray), .string (⟨#[]⟩ : ByteArray)]) ?_ 0 _ rfl; (with_reducible repeat (first | refine blk_drewN ?_ _ | refine blk_drew ?_ | refine blk_alloc ?_ _)); exact BK163.out) hb); have n3_ := Aside0.mk (bstep_ hb); clear HO_4; clear BK163; clear HB; have HO_4 := n0_; have HO166 := n1_; have BK163 := n2_; have HB := n3_; clear n0_ n1_ n2_ n3_; (try clear hb); (try clear hb2); (try clear hk); (try clear hi); (try clear ho0)))
       go_ret2
       exact ⟨_, by first | rfl | (simp [errW_none, errW_some] <;> rfl) | (simp [*, errW_none, errW_some] <;> rfl), by first | exact Kd.R_nil _ _ _ _ _ | exact Kd.N_nil _ _ _ _ _ | exact Kd.V_nil _ _ _ _ _ | exact Kd.Q_nil _ _ _ _ _ | exact Kd.S_nil _ _ _ _ _, by repeat (first | (with_reducible first | exact HB.out | apply below_alloc | apply pw_below_drewN | apply below_drew1 | refine below_set ?_ GE163.out) | exact HB.out)⟩
     ·rw [if_neg c4] at H
      exact absurd H (by simp)
    ·rw [if_neg c3] at H
     exact absurd H (by simp)
   ·rw [if_neg c2] at H
    have c2b0 : decide (x11_1 < (l0.length : Int)) = false := decide_eq_false c2
    clear c2
    simp only [Option.some.injEq, Prod.mk.injEq] at H
    obtain ⟨rfl, rfl⟩ := H
    go_wp2
    go_ret2
    exact ⟨_, by first | rfl | (simp [errW_none, errW_some] <;> rfl) | (simp [*, errW_none, errW_some] <;> rfl), by (with_reducible repeat (first | apply Kd.R_alloc | apply Kd.R_drewN | apply Kd.R_drew)); exact HO_4.out, by repeat (first | (with_reducible first | exact HB.out | apply below_alloc | apply pw_below_drewN | apply below_drew1) | exact HB.out)⟩


/-! ### numf_isWidth: function 76 -/
def numf_isWidth.f (a0 : Int) : Option (Bool) := if a0 = 8 then (some true) else (some (a0 == 12))
set_option maxHeartbeats 8000000 in
set_option maxRecDepth 100000 in
theorem numf_isWidth.calls (a0 : Int) (r : Bool) (w : World) (h : numf_isWidth.f a0 = some r) :
  Calls Tryz.prog 76 #[.int .i64 a0] w fun e w' => e = .returned (.bool r) ∧ Drawn0 w w' := by
 have H : (if a0 = 8 then (some true) else (some (a0 == 12))) = some r := h
 clear h
 by_cases c2 : a0 = 8
 ·rw [if_pos c2] at H
  have c2b0 : (a0 == 8) = true := beq_iff_eq.mpr c2
  have c2b1 : (a0 != 8) = false := bne_eq_false_iff_eq.mpr c2
  clear c2
  obtain rfl := Option.some.inj H
  go_enter Tryz.func76, Tryz.ntmps76
  go_wp2
  go_ret
  exact ⟨by first | rfl | (simp; done) | (simp [*]; done), by repeat (first | exact Drawn0.refl _ | apply Drawn0.step)⟩
 ·rw [if_neg c2] at H
  have c2b0 : (a0 == 8) = false := beq_eq_false_iff_ne.mpr c2
  have c2b1 : (a0 != 8) = true := bne_iff_ne.mpr c2
  obtain rfl := Option.some.inj H
  go_enter Tryz.func76, Tryz.ntmps76
  go_wp2
  go_ret
  exact ⟨by first | rfl | (simp; done) | (simp [*]; done), by repeat (first | exact Drawn0.refl _ | apply Drawn0.step)⟩

/-- THE ONE PURE STATEMENT of numf_isWidth: yours. -/
def numf_isWidth.Pure : Prop := ∀ (a0 : Int), (Lit.int .i64 a0).wf = true → numf_isWidth.f a0 = some true
theorem numf_isWidth.walk (P : numf_isWidth.Pure) (a0 : Int) (w : World) (w0 : (Lit.int .i64 a0).wf = true) :
  Calls Tryz.prog 76 #[.int .i64 a0] w fun e w' => e = .returned (.bool true) ∧ Below w.heap.size w w' := by
 have h := P a0 w0
 refine (numf_isWidth.calls a0 true w h).mono ?_
 rintro e w' ⟨rfl, hd⟩
 exact ⟨rfl, hd.below⟩


/-! ### numf_unbase: function 79 -/
mutual
def numf_unbase.j0 : Nat → List Int → Int → Option (Int × Int)
 | 0, _, _ => none
 | k + 1, x1, x6 => numf_unbase.l0 k x1 x6 (wrap64 (IntKind.i8.wrap (x6))) x1 (x1.length : Int) 0
def numf_unbase.l0 : Nat → List Int → Int → Int → List Int → Int → Int → Option (Int × Int)
 | 0, _, _, _, _, _, _ => none
 | k + 1, x1, x6, x7, x16, x17, x18 => if x18 < x17 then (if 0 ≤ x18 then (if x18 < (x16.length : Int) then (if (wrap64 ((x1.length : Int) - x18)) > 8 then (if (rd x16 x18) = x6 then (if (wrap64 ((x1.length : Int) - x18)) = 8 then (if (Go.bits .and .u8 (Go.bits .xor .u8 (rd x16 x18) x6) 128) = 0 then (numf_unbase.l0 k x1 x6 (Go.bits .or .i64 (wrap64 (x7 * 256)) (wrap64 (rd x16 x18))) x16 x17 (wrap64 (x18 + 1))) else (some (0, 10))) else (numf_unbase.l0 k x1 x6 (Go.bits .or .i64 (wrap64 (x7 * 256)) (wrap64 (rd x16 x18))) x16 x17 (wrap64 (x18 + 1)))) else (some (0, 10))) else (if (wrap64 ((x1.length : Int) - x18)) = 8 then (if (Go.bits .and .u8 (Go.bits .xor .u8 (rd x16 x18) x6) 128) = 0 then (numf_unbase.l0 k x1 x6 (Go.bits .or .i64 (wrap64 (x7 * 256)) (wrap64 (rd x16 x18))) x16 x17 (wrap64 (x18 + 1))) else (some (0, 10))) else (numf_unbase.l0 k x1 x6 (Go.bits .or .i64 (wrap64 (x7 * 256)) (wrap64 (rd x16 x18))) x16 x17 (wrap64 (x18 + 1))))) else (none)) else (none)) else (some (x7, 0))
end
def numf_unbase.f (k : Nat) (a0 : Int) (l1 : List Int) : Option (Int × Int) := if a0 = 255 then (numf_unbase.j0 k l1 255) else (numf_unbase.j0 k l1 0)
theorem numf_unbase.mono_l : ∀ k, (∀ y0 y1, LeO (numf_unbase.j0 k y0 y1) (numf_unbase.j0 (k + 1) y0 y1)) ∧ (∀ y0 y1 y2 y3 y4 y5, LeO (numf_unbase.l0 k y0 y1 y2 y3 y4 y5) (numf_unbase.l0 (k + 1) y0 y1 y2 y3 y4 y5))
 | 0 => ⟨fun _ _ r h => by simp [numf_unbase.j0] at h, fun _ _ _ _ _ _ r h => by simp [numf_unbase.l0] at h⟩
 | k + 1 => by
  obtain ⟨ih0, ih1⟩ := numf_unbase.mono_l k
  refine ⟨?_, ?_⟩
  ·intro y0 y1
   unfold numf_unbase.j0
   repeat' first
   | (with_reducible exact ih0 _ _)
   | (with_reducible exact ih1 _ _ _ _ _ _)
   | (with_reducible exact LeO.refl _)
   | (with_reducible exact LeO.none _)
   | (with_reducible refine LeO.ite ?_ ?_)
   | (with_reducible refine LeO.bind ?_ (fun _ => ?_))
   | exact ih0 _ _
   | exact ih1 _ _ _ _ _ _
   | exact LeO.none _
   | refine LeO.ite ?_ ?_
   | refine LeO.bind ?_ (fun _ => ?_)
  ·intro y0 y1 y2 y3 y4 y5
   unfold numf_unbase.l0
   repeat' first
   | (with_reducible exact ih0 _ _)
   | (with_reducible exact ih1 _ _ _ _ _ _)
   | (with_reducible exact LeO.refl _)
   | (with_reducible exact LeO.none _)
   | (with_reducible refine LeO.ite ?_ ?_)
   | (with_reducible refine LeO.bind ?_ (fun _ => ?_))
   | exact ih0 _ _
   | exact ih1 _ _ _ _ _ _
   | exact LeO.none _
   | refine LeO.ite ?_ ?_
   | refine LeO.bind ?_ (fun _ => ?_)
theorem numf_unbase.mono : ∀ a0 a1 k, LeO (numf_unbase.f k a0 a1) (numf_unbase.f (k + 1) a0 a1) := by
 intro a0 a1 k
 obtain ⟨ih0, ih1⟩ := numf_unbase.mono_l k
 unfold numf_unbase.f
 repeat' first
   | (with_reducible exact ih0 _ _)
   | (with_reducible exact ih1 _ _ _ _ _ _)
   | (with_reducible exact LeO.refl _)
   | (with_reducible exact LeO.none _)
   | (with_reducible refine LeO.ite ?_ ?_)
   | (with_reducible refine LeO.bind ?_ (fun _ => ?_))
   | exact ih0 _ _
   | exact ih1 _ _ _ _ _ _
   | exact LeO.none _
   | refine LeO.ite ?_ ?_
   | refine LeO.bind ?_ (fun _ => ?_)
set_option maxHeartbeats 8000000 in
set_option maxRecDepth 100000 in
theorem numf_unbase.calls (k : Nat) (a0 : Int) (A1 : Option Addr) (c1 : Nat) (l1 : List Int) (r1 : Int) (r2 : Int) (w : World) (hr1 : Kd.C (Kd.int .u8) w A1 l1.length l1) (hc1 : l1.length ≤ c1) (h : numf_unbase.f k a0 l1 = some (r1, r2)) :
  Calls Tryz.prog 79 #[.int .u8 a0, .slice A1 l1.length c1] w fun e w' => e = .returned (.tuple #[.int .i64 r1, .int .i64 r2]) ∧ Drawn0 w w' := by
 have HR1 := Aside0.mk hr1
 have HC1 := Aside0.mk hc1
 clear hr1 hc1
 have H : (if a0 = 255 then (numf_unbase.j0 k l1 255) else (numf_unbase.j0 k l1 0)) = some (r1, r2) := h
 clear h
 have HC3 := Aside0.mk H
 clear H
 go_enter Tryz.func79, Tryz.ntmps79
 go_upto_if 12 with (fail)
 go_cut [6] (fun v6 wc => ∃ (kq : Nat) (x6_2 : Int), v6 = .int .u8 x6_2 ∧ Aside0 (numf_unbase.j0 kq l1 x6_2 = some (r1, r2)) ∧ Aside0 (kq ≤ k) ∧ Drawn0 w wc)
 case first =>
  have H := HC3.out
  clear HC3
  by_cases c4 : a0 = 255
  ·rw [if_pos c4] at H
   have c4b0 : (a0 == 255) = true := beq_iff_eq.mpr c4
   have c4b1 : (a0 != 255) = false := bne_eq_false_iff_eq.mpr c4
   clear c4
   (first | rw [c4b0] | (simp only [i64_w, i32_w]; rw [c4b0]) | skip)
   have H' := Aside0.mk H
   clear H
   go_wp2
   go_meet
   case rel => exact ⟨_, (255), (by first | rfl | (simp; done) | (simp [*]; done)), H', ⟨by first | omega | exact Nat.le_refl _⟩, by repeat (first | exact Drawn0.refl _ | apply Drawn0.step)⟩
  ·rw [if_neg c4] at H
   have c4b0 : (a0 == 255) = false := beq_eq_false_iff_ne.mpr c4
   have c4b1 : (a0 != 255) = true := bne_iff_ne.mpr c4
   (first | rw [c4b0] | (simp only [i64_w, i32_w]; rw [c4b0]) | skip)
   have H' := Aside0.mk H
   clear H
   go_wp2
   go_meet
   case rel => exact ⟨_, (0), (by first | rfl | (simp; done) | (simp [*]; done)), H', ⟨by first | omega | exact Nat.le_refl _⟩, by repeat (first | exact Drawn0.refl _ | apply Drawn0.step)⟩
 case rest =>
  clear HC3
  try clear c1
  try clear p2
  try clear c4
  try clear c4b0
  try clear c4b1
  obtain ⟨kq, x6_2, rfl, HA, HJ2, ⟨mc2, rfl⟩⟩ := hcut
  cases kq with
  | zero => exact absurd HA.out (by simp [numf_unbase.j0])
  | succ kj2 =>
   have H := HA.out
   clear HA
   simp only [numf_unbase.j0] at H
   have H' := Aside0.mk H
   clear H
   go_wp2
   go_loopg [7, 18] kj2 (fun kq v7 v18 w' => ∃ (x7_2 : Int) (x18_2 : Int), v7 = .int .i64 x7_2 ∧ v18 = .int .i64 x18_2 ∧ Aside0 (numf_unbase.l0 kq l1 x6_2 x7_2 l1 (l1.length : Int) x18_2 = some (r1, r2)) ∧ Aside0 (kq ≤ kj2) ∧ Drawn0 w w')
   case atStart => exact ⟨(wrap64 (IntKind.i8.wrap (x6_2))), (0), (by first | rfl | (simp; done) | (simp [*]; done)), (by first | rfl | (simp; done) | (simp [*]; done)), H', ⟨Nat.le_refl _⟩, by repeat (first | exact Drawn0.refl _ | apply Drawn0.step)⟩
   case round =>
    clear H'
    try clear c1
    try clear c2
    try clear p2
    try clear c4
    try clear c4b0
    try clear c4b1
    try clear p2
    obtain ⟨x7_2, x18_2, rfl, rfl, HA, HK2, ⟨m2, rfl⟩⟩ := hrel
    cases gk with
    | zero => exact absurd HA.out (by simp [numf_unbase.l0])
    | succ k2 =>
     have H := HA.out
     clear HA
     simp only [numf_unbase.l0] at H
     by_cases c5 : x18_2 < (l1.length : Int)
     ·rw [if_pos c5] at H
      have c5b0 : decide (x18_2 < (l1.length : Int)) = true := decide_eq_true c5
      clear c5
      by_cases c6 : 0 ≤ x18_2
      ·rw [if_pos c6] at H
       have c6b0 : decide (0 ≤ x18_2) = true := decide_eq_true c6
       clear c6
       by_cases c7 : x18_2 < (l1.length : Int)
       ·rw [if_pos c7] at H
        have c7b0 : decide (x18_2 < (l1.length : Int)) = true := decide_eq_true c7
        clear c7
        by_cases c8 : (wrap64 ((l1.length : Int) - x18_2)) > 8
        ·rw [if_pos c8] at H
         have c8b0 : decide (8 < (wrap64 ((l1.length : Int) - x18_2))) = true := decide_eq_true c8
         clear c8
         by_cases c9 : (rd l1 x18_2) = x6_2
         ·rw [if_pos c9] at H
          have c9b0 : ((rd l1 x18_2) == x6_2) = true := beq_iff_eq.mpr c9
          have c9b1 : ((rd l1 x18_2) != x6_2) = false := bne_eq_false_iff_eq.mpr c9
          clear c9
          by_cases c10 : (wrap64 ((l1.length : Int) - x18_2)) = 8
          ·rw [if_pos c10] at H
           have c10b0 : ((wrap64 ((l1.length : Int) - x18_2)) == 8) = true := beq_iff_eq.mpr c10
           have c10b1 : ((wrap64 ((l1.length : Int) - x18_2)) != 8) = false := bne_eq_false_iff_eq.mpr c10
           clear c10
           by_cases c11 : (Go.bits .and .u8 (Go.bits .xor .u8 (rd l1 x18_2) x6_2) 128) = 0
           ·rw [if_pos c11] at H
            have c11b0 : ((Go.bits .and .u8 (Go.bits .xor .u8 (rd l1 x18_2) x6_2) 128) == 0) = true := beq_iff_eq.mpr c11
            have c11b1 : ((Go.bits .and .u8 (Go.bits .xor .u8 (rd l1 x18_2) x6_2) 128) != 0) = false := bne_eq_false_iff_eq.mpr c11
            clear c11
            have H' := Aside0.mk H
            clear H
            have p493 : 0 ≤ (x18_2 : Int) := of_decide_eq_true (by first | (with_reducible assumption) | assumption)
            have q493 : x18_2 < (l1.length : Int) := of_decide_eq_true (by first | (with_reducible assumption) | assumption)
            obtain ⟨ad493, e493, hx493_0⟩ := Kd.at_int HR1.out x18_2 p493 q493
            cases e493
            replace p493 := eq_true p493
            replace q493 := eq_true q493
            go_wp2
            go_roundg k2
            case measure => have := HJ2.out; have := HK2.out; omega
            case rel => exact ⟨(Go.bits .or .i64 (wrap64 (x7_2 * 256)) (wrap64 (rd l1 x18_2))), (wrap64 (x18_2 + 1)), (by first | rfl | (simp; done) | (simp [*]; done)), (by first | rfl | (simp; done) | (simp [*]; done)), H', ⟨by have := HJ2.out; have := HK2.out; omega⟩, by repeat (first | exact Drawn0.refl _ | apply Drawn0.step)⟩
           ·rw [if_neg c11] at H
            have c11b0 : ((Go.bits .and .u8 (Go.bits .xor .u8 (rd l1 x18_2) x6_2) 128) == 0) = false := beq_eq_false_iff_ne.mpr c11
            have c11b1 : ((Go.bits .and .u8 (Go.bits .xor .u8 (rd l1 x18_2) x6_2) 128) != 0) = true := bne_iff_ne.mpr c11
            simp only [Option.some.injEq, Prod.mk.injEq] at H
            obtain ⟨rfl, rfl⟩ := H
            have p493 : 0 ≤ (x18_2 : Int) := of_decide_eq_true (by first | (with_reducible assumption) | assumption)
            have q493 : x18_2 < (l1.length : Int) := of_decide_eq_true (by first | (with_reducible assumption) | assumption)
            obtain ⟨ad493, e493, hx493_0⟩ := Kd.at_int HR1.out x18_2 p493 q493
            cases e493
            replace p493 := eq_true p493
            replace q493 := eq_true q493
            go_wp2
            go_ret2
            exact ⟨by first | rfl | (simp; done) | (simp [*]; done), by repeat (first | exact Drawn0.refl _ | apply Drawn0.step)⟩
          ·rw [if_neg c10] at H
           have c10b0 : ((wrap64 ((l1.length : Int) - x18_2)) == 8) = false := beq_eq_false_iff_ne.mpr c10
           have c10b1 : ((wrap64 ((l1.length : Int) - x18_2)) != 8) = true := bne_iff_ne.mpr c10
           have H' := Aside0.mk H
           clear H
           have p493 : 0 ≤ (x18_2 : Int) := of_decide_eq_true (by first | (with_reducible assumption) | assumption)
           have q493 : x18_2 < (l1.length : Int) := of_decide_eq_true (by first | (with_reducible assumption) | assumption)
           obtain ⟨ad493, e493, hx493_0⟩ := Kd.at_int HR1.out x18_2 p493 q493
           cases e493
           replace p493 := eq_true p493
           replace q493 := eq_true q493
           go_wp2
           go_roundg k2
           case measure => have := HJ2.out; have := HK2.out; omega
           case rel => exact ⟨(Go.bits .or .i64 (wrap64 (x7_2 * 256)) (wrap64 (rd l1 x18_2))), (wrap64 (x18_2 + 1)), (by first | rfl | (simp; done) | (simp [*]; done)), (by first | rfl | (simp; done) | (simp [*]; done)), H', ⟨by have := HJ2.out; have := HK2.out; omega⟩, by repeat (first | exact Drawn0.refl _ | apply Drawn0.step)⟩
         ·rw [if_neg c9] at H
          have c9b0 : ((rd l1 x18_2) == x6_2) = false := beq_eq_false_iff_ne.mpr c9
          have c9b1 : ((rd l1 x18_2) != x6_2) = true := bne_iff_ne.mpr c9
          simp only [Option.some.injEq, Prod.mk.injEq] at H
          obtain ⟨rfl, rfl⟩ := H
          have p493 : 0 ≤ (x18_2 : Int) := of_decide_eq_true (by first | (with_reducible assumption) | assumption)
          have q493 : x18_2 < (l1.length : Int) := of_decide_eq_true (by first | (with_reducible assumption) | assumption)
          obtain ⟨ad493, e493, hx493_0⟩ := Kd.at_int HR1.out x18_2 p493 q493
          cases e493
          replace p493 := eq_true p493
          replace q493 := eq_true q493
          go_wp2
          go_ret2
          exact ⟨by first | rfl | (simp; done) | (simp [*]; done), by repeat (first | exact Drawn0.refl _ | apply Drawn0.step)⟩
        ·rw [if_neg c8] at H
         have c8b0 : decide (8 < (wrap64 ((l1.length : Int) - x18_2))) = false := decide_eq_false c8
         clear c8
         by_cases c12 : (wrap64 ((l1.length : Int) - x18_2)) = 8
         ·rw [if_pos c12] at H
          have c12b0 : ((wrap64 ((l1.length : Int) - x18_2)) == 8) = true := beq_iff_eq.mpr c12
          have c12b1 : ((wrap64 ((l1.length : Int) - x18_2)) != 8) = false := bne_eq_false_iff_eq.mpr c12
          clear c12
          by_cases c13 : (Go.bits .and .u8 (Go.bits .xor .u8 (rd l1 x18_2) x6_2) 128) = 0
          ·rw [if_pos c13] at H
           have c13b0 : ((Go.bits .and .u8 (Go.bits .xor .u8 (rd l1 x18_2) x6_2) 128) == 0) = true := beq_iff_eq.mpr c13
           have c13b1 : ((Go.bits .and .u8 (Go.bits .xor .u8 (rd l1 x18_2) x6_2) 128) != 0) = false := bne_eq_false_iff_eq.mpr c13
           clear c13
           have H' := Aside0.mk H
           clear H
           have p493 : 0 ≤ (x18_2 : Int) := of_decide_eq_true (by first | (with_reducible assumption) | assumption)
           have q493 : x18_2 < (l1.length : Int) := of_decide_eq_true (by first | (with_reducible assumption) | assumption)
           obtain ⟨ad493, e493, hx493_0⟩ := Kd.at_int HR1.out x18_2 p493 q493
           cases e493
           replace p493 := eq_true p493
           replace q493 := eq_true q493
           go_wp2
           go_roundg k2
           case measure => have := HJ2.out; have := HK2.out; omega
           case rel => exact ⟨(Go.bits .or .i64 (wrap64 (x7_2 * 256)) (wrap64 (rd l1 x18_2))), (wrap64 (x18_2 + 1)), (by first | rfl | (simp; done) | (simp [*]; done)), (by first | rfl | (simp; done) | (simp [*]; done)), H', ⟨by have := HJ2.out; have := HK2.out; omega⟩, by repeat (first | exact Drawn0.refl _ | apply Drawn0.step)⟩
          ·rw [if_neg c13] at H
           have c13b0 : ((Go.bits .and .u8 (Go.bits .xor .u8 (rd l1 x18_2) x6_2) 128) == 0) = false := beq_eq_false_iff_ne.mpr c13
           have c13b1 : ((Go.bits .and .u8 (Go.bits .xor .u8 (rd l1 x18_2) x6_2) 128) != 0) = true := bne_iff_ne.mpr c13
           simp only [Option.some.injEq, Prod.mk.injEq] at H
           obtain ⟨rfl, rfl⟩ := H
           have p493 : 0 ≤ (x18_2 : Int) := of_decide_eq_true (by first | (with_reducible assumption) | assumption)
           have q493 : x18_2 < (l1.length : Int) := of_decide_eq_true (by first | (with_reducible assumption) | assumption)
           obtain ⟨ad493, e493, hx493_0⟩ := Kd.at_int HR1.out x18_2 p493 q493
           cases e493
           replace p493 := eq_true p493
           replace q493 := eq_true q493
           go_wp2
           go_ret2
           exact ⟨by first | rfl | (simp; done) | (simp [*]; done), by repeat (first | exact Drawn0.refl _ | apply Drawn0.step)⟩
         ·rw [if_neg c12] at H
          have c12b0 : ((wrap64 ((l1.length : Int) - x18_2)) == 8) = false := beq_eq_false_iff_ne.mpr c12
          have c12b1 : ((wrap64 ((l1.length : Int) - x18_2)) != 8) = true := bne_iff_ne.mpr c12
          have H' := Aside0.mk H
          clear H
          have p493 : 0 ≤ (x18_2 : Int) := of_decide_eq_true (by first | (with_reducible assumption) | assumption)
          have q493 : x18_2 < (l1.length : Int) := of_decide_eq_true (by first | (with_reducible assumption) | assumption)
          obtain ⟨ad493, e493, hx493_0⟩ := Kd.at_int HR1.out x18_2 p493 q493
          cases e493
          replace p493 := eq_true p493
          replace q493 := eq_true q493
          go_wp2
          go_roundg k2
          case measure => have := HJ2.out; have := HK2.out; omega
          case rel => exact ⟨(Go.bits .or .i64 (wrap64 (x7_2 * 256)) (wrap64 (rd l1 x18_2))), (wrap64 (x18_2 + 1)), (by first | rfl | (simp; done) | (simp [*]; done)), (by first | rfl | (simp; done) | (simp [*]; done)), H', ⟨by have := HJ2.out; have := HK2.out; omega⟩, by repeat (first | exact Drawn0.refl _ | apply Drawn0.step)⟩
       ·rw [if_neg c7] at H
        exact absurd H (by simp)
      ·rw [if_neg c6] at H
       exact absurd H (by simp)
     ·rw [if_neg c5] at H
      have c5b0 : decide (x18_2 < (l1.length : Int)) = false := decide_eq_false c5
      clear c5
      simp only [Option.some.injEq, Prod.mk.injEq] at H
      obtain ⟨rfl, rfl⟩ := H
      go_wp2
      go_ret2
      exact ⟨by first | rfl | (simp; done) | (simp [*]; done), by repeat (first | exact Drawn0.refl _ | apply Drawn0.step)⟩

end Go.Proofs.YtjidenkhgeoaiaaGreatDoor.P

/- Contracts, by hand, of bytes.Trim at a cutset of two ASCII bytes, and of numf.Get, in the printer's form. -/
namespace Go.Proofs.YtjidenkhgeoaiaaGreatDoor.Hand
open Go.RowKit Go.Proofs.YtjidenkhgeoaiaaGreatDoor.P Go.Proofs.YtjidenkhgeoaiaaGreatDoorW.PrintWords Go.Proofs.YtjidenkhgeoaiaaGreatDoorW.PrintLast Go.Proofs.YtjidenkhgeoaiaaGreatDoorW.PrintMore
set_option linter.unusedVariables false
set_option linter.unusedSimpArgs false

theorem hv_set : ∀ w, (zeroValue 132).run Tryz.prog w = .ok (.agg (Array.replicate 256 (.bool false))) w := by
  intro w; kernel_rfl
theorem hi_set : (Tryz.prog.info? 132).map (·.size) = some 256 := by kernel_rfl

theorem bytesAt_tail {w : World} {b off : Nat} {c : Nat} {x : UInt8} {l : List UInt8} (hlc : (x :: l).length ≤ c) (h : Lib.BytesAt w (some ⟨b, off, none⟩) (x :: l).length (x :: l)) : Lib.BytesAt w (if c = 1 then some ⟨b, off, none⟩ else some ⟨b, off + 1, none⟩) l.length l := by
  intro h0
  have hlen : (x :: l).length = l.length + 1 := rfl
  obtain ⟨b2, o2, e, hc⟩ := h (by omega)
  cases e
  rw [if_neg (by omega)]
  refine ⟨b, off + 1, rfl, fun i hi => ?_⟩
  have := hc (i + 1) (by omega)
  rw [show off + (i + 1) = off + 1 + i by omega] at this
  exact this
theorem contains_at (g : Nat) (x : UInt8) (v : Bool) (w : World) (hc : w.cell? ⟨g, x.toNat, none⟩ = some (.bool v)) :
    Calls Tryz.prog 108 #[.pointer (some ⟨g, 0, none⟩), .int .u8 x.toNat] w fun e w' => e = .returned (.bool v) ∧ w' = w := Any.bytes_asciiSet_contains Tryz.laysV16 g x v w hc
theorem makeSet_at (chars : ByteArray) (w : World) (hs : chars.size < 4294967281) (hascii : ∀ (j : Nat) b, chars.data.toList[j]? = some b → b.toNat < 128) :
    Calls Tryz.prog 93 #[.string chars] w fun e w' => e = .returned (.tuple #[.agg (Lib.setCells chars.data.toList), .bool true]) ∧ w' = w.alloc (.cells (Lib.setCells chars.data.toList) 132) := Any.bytes_makeASCIISet Tryz.laysV11 hv_set hi_set chars w hs hascii
theorem trimRight_at (p : Option Addr) (n c : Nat) (bs : List UInt8) (b : Nat) (cs : List UInt8) (w : World) (hb : bs.length = n) (hnc : n ≤ c) (hbig : n ≤ 9223372036854775807) (h1 : Lib.BytesAt w p n bs) (hset : ∀ x : UInt8, w.cell? ⟨b, x.toNat, none⟩ = some (.bool (cs.contains x))) :
    Calls Tryz.prog 97 #[.slice p n c, .pointer (some ⟨b, 0, none⟩)] w fun e w' => e = .returned (.slice p (Lib.trimRightS bs cs).length c) ∧ w' = w := Any.bytes_trimRightASCII Tryz.laysV13 p n c bs b cs w hb hnc hbig h1 hset
set_option maxHeartbeats 1000000 in
set_option maxRecDepth 100000 in
theorem bytes_trimLeftASCII_any (A0 : Option Addr) (c0 : Nat) (l0 : List UInt8) (g : Nat) (cs : List UInt8) (w : World) (h1 : Lib.BytesAt w A0 l0.length l0) (hc0 : l0.length ≤ c0) (hset : ∀ x : UInt8, w.cell? ⟨g, x.toNat, none⟩ = some (.bool (cs.contains x))) :
    Calls Tryz.prog 94 #[.slice A0 l0.length c0, .pointer (some ⟨g, 0, none⟩)] w fun e w' => (∃ A c, e = .returned (.slice A (Lib.trimLeftS l0 cs).length c)) ∧ w' = w := by
  have HR := Aside0.mk h1
  have HC := Aside0.mk hc0
  have HS := Aside0.mk hset
  clear h1 hc0 hset
  go_enter Tryz.func94, Tryz.ntmps94
  go_wp2
  go_loop [0] (fun v => ∃ A c l, v = .slice A l.length c ∧ Aside0 (l.length ≤ c) ∧ Aside0 (Lib.BytesAt w A l.length l) ∧ Aside0 (Lib.trimLeftS l cs = Lib.trimLeftS l0 cs)) (fun v => lenOf v)
  case atStart => exact ⟨A0, c0, l0, rfl, HC, HR, ⟨rfl⟩⟩
  case round =>
    obtain ⟨A, c, l, rfl, hc, hr, hs⟩ := hrel
    match l with
    | [] =>
      go_wp2
      go_ret
      exact ⟨⟨none, 0, by rw [← hs.out]; rfl⟩, rfl⟩
    | x :: l =>
      obtain ⟨b, off, rfl, hcell⟩ := hr.out (by simp only [List.length_cons]; omega)
      have hcell0 := hcell 0 (by simp only [List.length_cons]; omega)
      clear hcell
      rw [show (x :: l).getD 0 0 = x from rfl, Nat.add_zero] at hcell0
      have b1 : decide ((0 : Int) < (((x :: l).length : Nat) : Int)) = true := decide_eq_true (by simp only [List.length_cons]; omega)
      have hcx := Aside0.mk (HS.out x)
      cases hin : cs.contains x with
      | false =>
        rw [hin] at hcx
        have hs3 := Aside0.mk (show Lib.trimLeftS l0 cs = x :: l by rw [← hs.out]; unfold Lib.trimLeftS; rw [List.dropWhile_cons, hin]; rfl)
        clear hs hin
        go_wp2_with (go_at_call 108; (with_reducible refine (contains_at g x false _ hcx.out).mono ?_); rintro e w' ⟨rfl, rfl⟩)
        go_ret
        exact ⟨⟨_, c, by rw [hs3.out]; rfl⟩, rfl⟩
      | true =>
        rw [hin] at hcx
        have hs3 := Aside0.mk (show Lib.trimLeftS l cs = Lib.trimLeftS l0 cs by rw [← hs.out]; unfold Lib.trimLeftS; rw [List.dropWhile_cons, hin]; rfl)
        clear hs hin
        have hr2 := Aside0.mk (bytesAt_tail (c := c) hc.out hr.out)
        have hl3 := Aside0.mk (show l.length ≤ c - 1 by have := hc.out; simp only [List.length_cons] at this; omega)
        go_wp2_with (go_at_call 108; (with_reducible refine (contains_at g x true _ hcx.out).mono ?_); rintro e w' ⟨rfl, rfl⟩)
        go_round
        case rel => exact ⟨_, _, l, rfl, hl3, hr2, hs3⟩
        case measure => simp [lenOf]

set_option maxHeartbeats 4000000 in
set_option maxRecDepth 1000000 in
theorem bytes_Trim_set (A0 : Option Addr) (n c0 : Nat) (l0 : List UInt8) (cutset : ByteArray) (w : World) (hb : l0.length = n) (h1 : Lib.BytesAt w A0 n l0) (hc0 : n ≤ c0) (hbig : n ≤ 9223372036854775807) (h2 : 2 ≤ cutset.size) (hcs : cutset.size < 4294967281) (hascii : ∀ (j : Nat) b, cutset.data.toList[j]? = some b → b.toNat < 128) :
    Calls Tryz.prog 78 #[.slice A0 n c0, .string cutset] w fun e w' => (∃ A c, e = .returned (.slice A (Lib.trimS l0 cutset.data.toList).length c)) ∧ Below w.heap.size w w' := by
  rcases Nat.eq_zero_or_pos n with h0 | h0
  · subst h0
    obtain rfl : l0 = [] := List.eq_nil_of_length_eq_zero hb
    go_enter Tryz.func78, Tryz.ntmps78
    go_wp2
    go_ret
    exact ⟨⟨none, 0, rfl⟩, Below.refl _ _⟩
  have hM := makeSet_at cutset w hcs hascii
  clear hascii
  have hemp : cutset.toList.isEmpty = false := by
    rw [Lib.toList_data]
    cases h : cutset.data.toList with
    | nil => have := Lib.size_eq cutset; rw [h, List.length_nil] at this; omega
    | cons _ _ => rfl
  have hn0 : ((n : Int) == 0) = false := beq_eq_false_iff_ne.2 (by omega)
  have hn1 : ((cutset.size : Int) == 1) = false := beq_eq_false_iff_ne.2 (by omega)
  have hsc : (storeCells ⟨w.heap.size + 1, 0, none⟩ (Lib.setCells cutset.data.toList).toList 0).run Tryz.prog ((w.alloc (.cells (Lib.setCells cutset.data.toList) 132)).alloc (.cells Tryz.zeroCells132 132)) = .ok () ((w.alloc (.cells (Lib.setCells cutset.data.toList) 132)).alloc (.cells (Lib.setCells cutset.data.toList) 132)) := by
    have := run_storeCells_new (P := Tryz.prog) (w.alloc (.cells (Lib.setCells cutset.data.toList) 132)) 132 Tryz.zeroCells132 (Lib.setCells cutset.data.toList) (by rw [Lib.setCells_size]; exact hi_set) (by rw [Lib.setCells_size]; kernel_rfl) (Lib.setCells_one _)
    simpa using this
  have hsz := Lib.setCells_size cutset.data.toList
  have hcellAt : ∀ x : UInt8, ((w.alloc (.cells (Lib.setCells cutset.data.toList) 132)).alloc (.cells (Lib.setCells cutset.data.toList) 132)).cell? ⟨w.heap.size + 1, x.toNat, none⟩ = some (.bool (cutset.data.toList.contains x)) := fun x => by
    rw [World.cell?_alloc_at _ _ _ _ (by simp), Lib.setCells_at]
  have hB2 : Below w.heap.size w ((w.alloc (.cells (Lib.setCells cutset.data.toList) 132)).alloc (.cells (Lib.setCells cutset.data.toList) 132)) := ((Below.refl _ _).alloc (Nat.le_refl _) _).alloc (by simp) _
  have h1' := h1.below hB2
  clear h1 hB2
  have hkn : (Lib.trimRightS l0 cutset.data.toList).length ≤ n := by rw [← hb]; exact Lib.trimRightS_len_le _ _
  have hTR := trimRight_at A0 n c0 l0 (w.heap.size + 1) cutset.data.toList _ hb hc0 hbig h1' hcellAt
  have hTL := bytes_trimLeftASCII_any A0 c0 (l0.take (Lib.trimRightS l0 cutset.data.toList).length) (w.heap.size + 1) cutset.data.toList _ (by rw [show (l0.take (Lib.trimRightS l0 cutset.data.toList).length).length = (Lib.trimRightS l0 cutset.data.toList).length by rw [List.length_take]; omega]; exact h1'.take hkn) (by rw [List.length_take]; omega) hcellAt
  rw [← Lib.trimRightS_eq_take] at hTL
  have HTL := Aside0.mk hTL
  have HTR := Aside0.mk hTR
  clear hcellAt h1' hTL hTR
  go_enter Tryz.func78, Tryz.ntmps78
  go_wp2_with (go_at_call 93; refine hM.mono ?_; rintro e w' ⟨rfl, hw⟩; rw [hw])
  clear hM hsc
  generalize hk : (Lib.trimRightS l0 cutset.data.toList).length = k at *
  have HK := Aside0.mk hk
  clear hk
  go_wp2_with (first
    | (go_at_call 97; refine HTR.out.mono ?_; rintro e w' ⟨rfl, hw⟩; rw [hw])
    | (go_at_call 94; refine HTL.out.mono ?_; rintro e w' ⟨⟨A2, c2, rfl⟩, hw⟩; rw [hw]))
  go_ret
  exact ⟨⟨A2, c2, rfl⟩, ((Below.refl _ _).alloc (Nat.le_refl _) _).alloc (by simp) _⟩

/-- How many leading bytes are octal digits. -/
def octs : List Int → Nat
  | [] => 0
  | x :: l => if 48 ≤ x ∧ x ≤ 55 then octs l + 1 else 0
theorem octs_le (l : List Int) : octs l ≤ l.length := by
  induction l with
  | nil => exact Nat.le_refl _
  | cons x l ih => unfold octs; split <;> simp only [List.length_cons] <;> omega
theorem octs_at (l : List Int) (k : Nat) (h : k < l.length) (hd : ∀ j (hj : j < l.length), j < k → 48 ≤ l[j] ∧ l[j] ≤ 55) : (48 ≤ l[k] ∧ l[k] ≤ 55 → k < octs l) ∧ (¬ (48 ≤ l[k] ∧ l[k] ≤ 55) → octs l = k) := by
  induction l generalizing k with
  | nil => simp at h
  | cons x l ih =>
    cases k with
    | zero =>
      constructor
      · intro h1; have h2 : 48 ≤ x ∧ x ≤ 55 := h1; unfold octs; rw [if_pos h2]; omega
      · intro h1; have h2 : ¬ (48 ≤ x ∧ x ≤ 55) := h1; unfold octs; rw [if_neg h2]
    | succ k =>
      have h0 := hd 0 (by simp) (by omega)
      have h1 := ih k (by simpa using h) (fun j hj hjk => by have := hd (j + 1) (by simpa using hj) (by omega); simpa using this)
      have e : octs (x :: l) = octs l + 1 := by
        show (if 48 ≤ x ∧ x ≤ 55 then octs l + 1 else 0) = _
        rw [if_pos (by simpa using h0)]
      rw [e]
      exact ⟨fun h2 => by have := h1.1 (by simpa using h2); omega, fun h2 => by have := h1.2 (by simpa using h2); omega⟩
theorem octs_all (l : List Int) (hd : ∀ j (hj : j < l.length), 48 ≤ l[j] ∧ l[j] ≤ 55) : octs l = l.length := by
  induction l with
  | nil => rfl
  | cons x l ih =>
    have h0 := hd 0 (by simp)
    show (if 48 ≤ x ∧ x ≤ 55 then octs l + 1 else 0) = _
    rw [if_pos (by simpa using h0), ih (fun j hj => by have := hd (j + 1) (by simpa using hj); simpa using this)]; rfl

set_option maxHeartbeats 4000000 in
set_option maxRecDepth 100000 in
theorem numf_digits_any (A0 : Option Addr) (n c0 : Nat) (l0 : List Int) (w : World) (hn : l0.length = n) (hr0 : Kd.C (Kd.int .u8) w A0 l0.length l0) (hc0 : l0.length ≤ c0) :
    Calls Tryz.prog 77 #[.slice A0 n c0] w fun e w' => e = .returned (.slice A0 (octs l0) c0) ∧ w' = w := by
  subst hn
  have hm := Kd.C_max hr0
  obtain ⟨inf, hi, hz0, hz1, hz2⟩ := info_parts info_u8
  have HR := Aside0.mk hr0
  have HC := Aside0.mk hc0
  clear hr0 hc0
  go_enter Tryz.func77, Tryz.ntmps77
  go_wp2
  go_loop [3] (fun v => ∃ k : Nat, k ≤ l0.length ∧ v = .int .i64 k ∧ Aside0 (∀ j (hj : j < l0.length), j < k → 48 ≤ l0[j] ∧ l0[j] ≤ 55)) (fun v => l0.length - (intOf v).toNat)
  case atStart => exact ⟨0, Nat.zero_le _, rfl, ⟨fun j hj h => absurd h (by omega)⟩⟩
  case round =>
    obtain ⟨k, hk, rfl, hd⟩ := hrel
    have hfin : ∀ m, m ≤ l0.length → (Instr.slice 31 (.slice A0 l0.length c0) none (some (.int .i64 (m : Nat))) none).run Tryz.prog w = .ok (.slice A0 m c0) w := by
      intro m hm2
      have := (print_take_of (P := Tryz.prog) (Value.int .u8) (0 : Int) 31 5 .i64 Tryz.underlying31 hi hz1 A0 c0 l0 (m : Int) (by omega) (by omega) HC.out).1 w
      rw [this]; congr 2; rw [List.length_take, Int.toNat_natCast]; omega
    by_cases hlt : k < l0.length
    · obtain ⟨b, off, hA, hcell2⟩ := C_at HR.out k hlt
      have hoc := octs_at l0 k hlt hd.out
      have hd3 : 48 ≤ l0[k] → l0[k] ≤ 55 → Aside0 (∀ j (hj : j < l0.length), j < k + 1 → 48 ≤ l0[j] ∧ l0[j] ≤ 55) := fun h1 h2 => ⟨fun j hj hjk => by
        rcases Nat.lt_or_ge j k with h | h
        · exact hd.out j hj h
        · obtain rfl : j = k := by omega
          exact ⟨h1, h2⟩⟩
      generalize l0[k] = x at *
      subst hA
      have hfin1 := hfin k (by omega)
      clear hfin
      by_cases h1 : 48 ≤ x
      · by_cases h2 : x ≤ 55
        · have hd2 := hd3 h1 h2
          have d1 : decide (48 ≤ x) = true := decide_eq_true h1
          have d2 : decide (x ≤ 55) = true := decide_eq_true h2
          clear hoc hd3
          go_wp2
          go_round
          case rel => exact ⟨k + 1, by omega, by go_num, hd2⟩
          case measure => simp [intOf]; omega
        · have hf := Aside0.mk (hoc.2 (fun h => h2 h.2))
          have d1 : decide (48 ≤ x) = true := decide_eq_true h1
          have d2 : decide (x ≤ 55) = false := decide_eq_false h2
          clear hoc hd3
          go_wp2
          go_ret
          exact ⟨by rw [hf.out]; rfl, rfl⟩
      · have hf := Aside0.mk (hoc.2 (fun h => h1 h.1))
        have d1 : decide (48 ≤ x) = false := decide_eq_false h1
        clear hoc hd3
        go_wp2
        go_ret
        exact ⟨by rw [hf.out]; rfl, rfl⟩
    · have hkk : k = l0.length := by omega
      have hf := Aside0.mk (show octs l0 = k by rw [hkk]; exact octs_all l0 (fun j hj => hd.out j hj (by omega)))
      have hfin1 := hfin k (by omega)
      clear hfin hkk
      go_wp2
      go_ret
      exact ⟨by rw [hf.out]; rfl, rfl⟩

/-- The number of octal digits, one by one, as the text reckons it. -/
def octVal : Int → List Int → Int
  | n, [] => n
  | n, c :: l => octVal (Go.bits .or .i64 (wrap64 (n * 8)) (c - 48)) l
/-- numf.Get. -/
def numf_Get.f (l0 : List Int) : Option (Int × Int) :=
  if l0.length = 8 ∨ l0.length = 12 then
    if ∀ x ∈ l0, 0 ≤ x ∧ x < 256 then
      if rd l0 0 = 128 ∨ rd l0 0 = 255 then numf_unbase.f 20 (rd l0 0) (l0.drop 1)
      else if octs (skip 32 l0) = 0 then some (0, 3)
      else if 0 < (Lib.trimS (Lib.bytesOf ((skip 32 l0).drop (octs (skip 32 l0)))) [32, 0]).length then some (0, 3)
      else some (octVal 0 ((skip 32 l0).take (octs (skip 32 l0))), 0)
    else none
  else some (0, 1)
theorem octVal_snoc (c : Int) (l : List Int) : ∀ n, octVal n (l ++ [c]) = Go.bits .or .i64 (wrap64 (octVal n l * 8)) (c - 48) := by
  induction l with
  | nil => intro n; rfl
  | cons x l ih => intro n; exact ih _
theorem mem_skip (c : Int) (l : List Int) (x : Int) (h : x ∈ skip c l) : x ∈ l := by
  induction l with
  | nil => exact h
  | cons y l ih =>
    unfold skip at h
    split at h
    · exact List.mem_cons_of_mem _ (ih h)
    · exact h
theorem octs_mem (l : List Int) : ∀ x ∈ l.take (octs l), 48 ≤ x ∧ x ≤ 55 := by
  induction l with
  | nil => intro x h; simp at h
  | cons y l ih =>
    intro x h
    unfold octs at h
    split at h
    · rename_i hy
      rw [List.take_succ_cons] at h
      rcases List.mem_cons.1 h with rfl | h
      · exact hy
      · exact ih x h
    · simp at h
theorem bytesAt_of {w : World} {A : Option Addr} {n : Nat} {xs : List Int} (h : Kd.C (Kd.int .u8) w A n xs) (hr : ∀ x ∈ xs, 0 ≤ x ∧ x < 256) : Lib.BytesAt w A n (Lib.bytesOf xs) := by
  intro h0
  have hn := Kd.C_len h
  obtain ⟨b, off, hA, _⟩ := C_at h 0 (by omega)
  refine ⟨b, off, hA, fun i hi => ?_⟩
  obtain ⟨b2, off2, hA2, hc⟩ := C_at h i (by omega)
  rw [hA] at hA2
  cases hA2
  rw [hc]
  congr 2
  have hm := hr xs[i] (List.getElem_mem _)
  unfold Lib.bytesOf
  rw [List.getD_eq_getElem?_getD, List.getElem?_map, List.getElem?_eq_getElem (by omega)]
  simp only [Option.map_some, Option.getD_some, UInt8.toNat_ofNat']
  omega
theorem tail_bytes {w : World} {A A3 : Option Addr} {rr : List Int} {m : Nat} (_h : Kd.C (Kd.int .u8) w A rr.length rr) (h : ReadsOf (Value.int .u8) 0 w A3 (rr.drop m).length (rr.drop m)) (hr : ∀ x ∈ rr, 0 ≤ x ∧ x < 256) : Lib.BytesAt w A3 (rr.length - m) (Lib.bytesOf (rr.drop m)) := by
  have := bytesAt_of (Kd.C_of_reads (enc := Value.int .u8) (h1 := fun _ => rfl) h) (fun x hx => hr x (List.mem_of_mem_drop hx))
  rwa [List.length_drop] at this
theorem ascii2 : ∀ (j : Nat) b, (⟨#[32, 0]⟩ : ByteArray).data.toList[j]? = some b → b.toNat < 128 := by
  intro j b h
  match j with
  | 0 => simp at h; subst h; decide
  | 1 => simp at h; subst h; decide
  | j + 2 => simp at h
set_option maxHeartbeats 4000000 in
set_option maxRecDepth 100000 in
theorem numf_Get.calls (A0 : Option Addr) (c0 : Nat) (l0 : List Int) (r1 r2 : Int) (w : World) (hr0 : Kd.C (Kd.int .u8) w A0 l0.length l0) (hc0 : l0.length ≤ c0) (h : numf_Get.f l0 = some (r1, r2)) :
    Calls Tryz.prog 59 #[.slice A0 l0.length c0] w fun e w' => e = .returned (.tuple #[.int .i64 r1, .int .i64 r2]) ∧ Below w.heap.size w w' := by
  unfold numf_Get.f at h
  by_cases c1 : l0.length = 8 ∨ l0.length = 12
  case neg =>
    rw [if_neg c1] at h
    simp only [Option.some.injEq, Prod.mk.injEq] at h
    obtain ⟨rfl, rfl⟩ := h
    have hw : numf_isWidth.f (l0.length : Int) = some false := by
      unfold numf_isWidth.f; rw [if_neg (by omega)]; congr 1; rw [beq_eq_false_iff_ne]; omega
    have HW := Aside0.mk hw
    clear hw c1
    go_enter Tryz.func59, Tryz.ntmps59
    go_wp2
    go_step3
    go_wp2_with (go_at_call 76; (with_reducible refine (numf_isWidth.calls _ false _ HW.out).mono ?_); rintro e w' ⟨rfl, ⟨nd, rfl⟩⟩)
    rw [Exit.noGoto_ret]
    go_ret2
    exact ⟨rfl, by repeat (first | exact Below.refl _ _ | apply pw_below_drewN)⟩
  rw [if_pos c1] at h
  by_cases c2 : ∀ x ∈ l0, 0 ≤ x ∧ x < 256
  case neg => rw [if_neg c2] at h; cases h
  rw [if_pos c2] at h
  have hw : numf_isWidth.f (l0.length : Int) = some true := by
    unfold numf_isWidth.f
    rcases c1 with c1 | c1
    · rw [if_pos (by omega)]
    · rw [if_neg (by omega)]; congr 1; rw [beq_iff_eq]; omega
  have HW := Aside0.mk hw
  have hlen : 8 ≤ l0.length ∧ l0.length ≤ 12 := by omega
  clear hw c1
  obtain ⟨b, off, hA, hcell⟩ := C_at hr0 0 (by omega)
  have hr : l0[0]'(by omega) = rd l0 0 := by simp [rd, List.getD_eq_getElem?_getD]; rw [List.getElem?_eq_getElem (by omega)]; rfl
  rw [hr, Nat.add_zero] at hcell
  clear hr
  have HR := Aside0.mk hr0
  have HC := Aside0.mk hc0
  have HG := Aside0.mk c2
  clear hr0 hc0 c2
  by_cases c3 : rd l0 0 = 128 ∨ rd l0 0 = 255
  · rw [if_pos c3] at h
    obtain ⟨inf, hi, hz0, hz1, hz2⟩ := info_parts info_u8
    obtain ⟨A3, hs3, ht3, hl3⟩ := print_drop_of (P := Tryz.prog) (Value.int .u8) (0 : Int) 31 5 .i64 Tryz.underlying31 hi hz1 A0 c0 l0 1 (by omega) (by omega) HC.out
    have H3 : Aside0 (Kd.C (Kd.int .u8) w A3 (l0.drop 1).length (l0.drop 1)) := Aside0.mk (Kd.C_of_reads (enc := Value.int .u8) (h1 := fun _ => rfl) (ht3 w (Kd.reads_of_C (enc := Value.int .u8) (d := (0 : Int)) (h1 := fun _ => rfl) HR.out)))
    have L3 : Aside0 ((l0.drop 1).length ≤ c0 - 1) := ⟨hl3⟩
    have HH := Aside0.mk h
    rw [show ((1 : Int)).toNat = 1 from rfl] at hs3
    have hunb := fun w => numf_unbase.calls 20 (rd l0 0) A3 (c0 - 1) (l0.drop 1) r1 r2 w
    have HU := Aside0.mk hunb
    clear hi hz0 hz1 hz2 ht3 hl3 h hunb
    subst hA
    have d1 : (rd l0 0 == 128) = true ∨ ((rd l0 0 == 128) = false ∧ (rd l0 0 == 255) = true) := by
      rcases c3 with e | e
      · exact .inl (beq_iff_eq.2 e)
      · exact .inr ⟨beq_eq_false_iff_ne.2 (by omega), beq_iff_eq.2 e⟩
    clear c3
    rcases d1 with d1 | ⟨d1, d2⟩
    all_goals
      go_enter Tryz.func59, Tryz.ntmps59
      go_wp2
      refine wp_scope_jumps 0 (fun a' w' => (∃ u1 u2 u3 u4 u5 u6 u7 u8 u9 u10 u11 u12 u13 u14 u15 u16 u17 u18 u19 u20 u21 u22 u23 u24 u25 u26 u27 u28 u29 u30 u31 u32 u33 u34 u35 u36 u37 u38 u39 u40 u41 u42 u43 u44 u45 u46 u47 u48 u49 u50 u51 u52 u53 u54 u55 u56 u57 u58 u59 u60 : Value, a' = { tmps := #[.slice (some ⟨b, off, none⟩) l0.length c0, u1, u2, u3, u4, u5, u6, u7, u8, u9, u10, u11, u12, u13, u14, u15, u16, u17, u18, u19, u20, u21, u22, u23, u24, u25, u26, u27, u28, u29, u30, u31, u32, u33, u34, u35, u36, u37, u38, u39, u40, u41, u42, u43, u44, u45, u46, u47, u48, u49, u50, u51, u52, u53, u54, u55, u56, u57, u58, u59, u60], defers := [] }) ∧ ∃ n, w' = w.drewN n) (fun _ _ => 0) rfl ?_ ?_
      · go_wp2_with (go_at_call 76; (with_reducible refine (numf_isWidth.calls _ true _ HW.out).mono ?_); rintro e w' ⟨rfl, ⟨nd, rfl⟩⟩)
        go_step3
        go_wp2
        refine ⟨rfl, ?_, nd, rfl⟩
        repeat apply Exists.intro
        rfl
      · rintro a' w' ⟨⟨u1, u2, u3, u4, u5, u6, u7, u8, u9, u10, u11, u12, u13, u14, u15, u16, u17, u18, u19, u20, u21, u22, u23, u24, u25, u26, u27, u28, u29, u30, u31, u32, u33, u34, u35, u36, u37, u38, u39, u40, u41, u42, u43, u44, u45, u46, u47, u48, u49, u50, u51, u52, u53, u54, u55, u56, u57, u58, u59, u60, rfl⟩, nd, rfl⟩
        have HB1 : Aside0 (Below w.heap.size w (w.drewN nd)) := ⟨pw_below_drewN (Below.refl _ _) _⟩
        have H31 : Aside0 (Kd.C (Kd.int .u8) (w.drewN nd) A3 (l0.drop 1).length (l0.drop 1)) := ⟨Kd.C_drewN H3.out nd⟩
        have hcell1 : (w.drewN nd).cell? ⟨b, off, none⟩ = some (.int .u8 (rd l0 0)) := by simpa using hcell
        generalize w.drewN nd = w1 at HB1 H31 hcell1 ⊢
        clear hcell H3 HR
        have hpos : (0 : Int) < (l0.length : Int) := by omega
        have hq := fun n => Calls.quiet_of ((HU.out (w1.drewN n) (Kd.C_drewN H31.out n) L3.out HH.out).mono fun _ _ h => ⟨h.1, h.2.out⟩)
        have HQ := Aside0.mk hq
        rw [show (l0.drop 1).length = l0.length - 1 from List.length_drop] at HQ
        clear hq
        go_wp2
        go_quiet ((go_at_call 79; exact HQ.out _))
        go_wp2
        rw [show ∀ (Q : Exit → Act → World → Prop) (J : Act → World → Prop) (a : Act) (w : World), Exit.jump 0 J Q .ret a w = Q .ret a w from fun _ _ _ _ => rfl]
        go_ret2
        exact ⟨rfl, pw_below_drewN HB1.out _⟩
  · rw [if_neg c3] at h
    have d1 : (rd l0 0 == 128) = false := beq_eq_false_iff_ne.2 (fun e => c3 (.inl e))
    have d2 : (rd l0 0 == 255) = false := beq_eq_false_iff_ne.2 (fun e => c3 (.inr e))
    clear c3
    subst hA
    by_cases c4 : octs (skip 32 l0) = 0
    · rw [if_pos c4] at h
      simp only [Option.some.injEq, Prod.mk.injEq] at h
      obtain ⟨rfl, rfl⟩ := h
      have H4 := Aside0.mk c4
      clear c4
      go_enter Tryz.func59, Tryz.ntmps59
      go_wp2
      go_step3
      go_wp2_with (first
        | (go_at_call 76; (with_reducible refine (numf_isWidth.calls _ true _ HW.out).mono ?_); rintro e w' ⟨rfl, ⟨nd, rfl⟩⟩)
        | (go_at_call 75; (with_reducible refine (bytes_TrimLeft_one' _ _ c0 l0 32 _ (by decide) rfl ?side1 HC.out).mono ?_); (case side1 => repeat (first | exact HR.out | (with_reducible refine Kd.C_drewN ?_ _))); rintro e w2 ⟨⟨A2, c2, rfl, h1, h2⟩, rfl⟩; rw [show (((32 : UInt8).toNat : Nat) : Int) = 32 from rfl] at h1 h2 ⊢; have H1 := Aside0.mk h1; have H2 := Aside0.mk h2; clear h1 h2)
        | (go_at_call 77; (with_reducible refine (numf_digits_any A2 _ c2 (skip 32 l0) _ rfl H2.out H1.out).mono ?_); rintro e w3 ⟨rfl, rfl⟩; rw [H4.out]))
      rw [Exit.noGoto_ret]
      go_ret2
      exact ⟨rfl, by repeat (first | exact Below.refl _ _ | apply pw_below_drewN)⟩
    · rw [if_neg c4] at h
      have hle := octs_le (skip 32 l0)
      have hsl := skip_len 32 l0
      have hrg : ∀ x ∈ skip 32 l0, 0 ≤ x ∧ x < 256 := fun x hx => HG.out x (mem_skip 32 l0 x hx)
      have hom := octs_mem (skip 32 l0)
      obtain ⟨rr, hrr⟩ : ∃ rr, rr = skip 32 l0 := ⟨_, rfl⟩
      rw [← hrr] at h c4 hle hsl hrg hom
      have HRR := Aside0.mk hrr
      clear hrr
      obtain ⟨m, hm⟩ : ∃ m, m = octs rr := ⟨_, rfl⟩
      rw [← hm] at h c4 hle hom
      have HM := Aside0.mk hm
      clear hm
      have d3 : ((m : Int) == 0) = false := beq_eq_false_iff_ne.2 (by omega)
      have HOM := Aside0.mk hom
      have HRG := Aside0.mk hrg
      clear hom hrg
      obtain ⟨inf, hi, hz0, hz1, hz2⟩ := info_parts info_u8
      have hdrop := fun A2 c2 (hc2 : rr.length ≤ c2) => print_drop_of (P := Tryz.prog) (Value.int .u8) (0 : Int) 31 5 .i64 Tryz.underlying31 hi hz1 A2 c2 rr (m : Int) (by omega) (by omega) hc2
      have HD := Aside0.mk hdrop
      clear hdrop hi hz0 hz1 hz2
      by_cases c5 : 0 < (Lib.trimS (Lib.bytesOf (rr.drop m)) [32, 0]).length
      · rw [if_pos c5] at h
        simp only [Option.some.injEq, Prod.mk.injEq] at h
        obtain ⟨rfl, rfl⟩ := h
        have d5 : decide ((0 : Int) < (((Lib.trimS (Lib.bytesOf (rr.drop m)) [32, 0]).length : Nat) : Int)) = true := decide_eq_true (by omega)
        have d6 : decide (0 < (Lib.trimS (Lib.bytesOf (rr.drop m)) [32, 0]).length) = true := decide_eq_true (by omega)
        clear c5
        go_enter Tryz.func59, Tryz.ntmps59
        go_wp2
        go_step3
        go_wp2_with (first
          | (go_at_call 76; (with_reducible refine (numf_isWidth.calls _ true _ HW.out).mono ?_); rintro e w' ⟨rfl, ⟨nd, rfl⟩⟩)
          | (go_at_call 75; (with_reducible refine (bytes_TrimLeft_one' _ _ c0 l0 32 _ (by decide) rfl ?side1 HC.out).mono ?_); (case side1 => repeat (first | exact HR.out | (with_reducible refine Kd.C_drewN ?_ _))); rintro e w2 ⟨⟨A2, c2, rfl, h1, h2⟩, hw2⟩; rw [show (((32 : UInt8).toNat : Nat) : Int) = 32 from rfl, ← HRR.out] at h1 h2; rw [show (((32 : UInt8).toNat : Nat) : Int) = 32 from rfl, ← HRR.out]; subst hw2; have H1 := Aside0.mk h1; have H2 := Aside0.mk h2; clear h1 h2; obtain ⟨A3, hs3, ht3, hl3⟩ := HD.out A2 c2 H1.out; rw [Int.toNat_natCast] at hs3 ht3 hl3; have HL3 := Aside0.mk hl3; have HB3 := Aside0.mk (tail_bytes H2.out (ht3 _ (Kd.reads_of_C (enc := Value.int .u8) (d := (0 : Int)) (h1 := fun _ => rfl) H2.out)) HRG.out); clear ht3 hl3)
          | (go_at_call 77; (with_reducible refine (numf_digits_any A2 _ c2 rr _ rfl H2.out H1.out).mono ?_); rintro e w3 ⟨rfl, hw3⟩; subst hw3; rw [← HM.out])
          | (go_at_call 78; (with_reducible refine (bytes_Trim_set A3 _ (c2 - m) (Lib.bytesOf (rr.drop m)) ⟨#[32, 0]⟩ _ (by rw [Lib.bytesOf_length, List.length_drop]) HB3.out (by have := H1.out; omega) (by omega) (by decide) (by decide) ascii2).mono ?_); rintro e w4 ⟨⟨A4, c4, rfl⟩, hb4⟩; rw [show (⟨#[32, 0]⟩ : ByteArray).data.toList = [32, 0] from rfl]; have HB4 := Aside0.mk hb4; clear hb4))
        rw [Exit.noGoto_ret]
        go_ret2
        exact ⟨rfl, below_step (pw_below_drewN (Below.refl _ _) _) HB4.out⟩
      · rw [if_neg c5] at h
        simp only [Option.some.injEq, Prod.mk.injEq] at h
        obtain ⟨hv, rfl⟩ := h
        have HV := Aside0.mk hv
        have d5 : decide ((0 : Int) < (((Lib.trimS (Lib.bytesOf (rr.drop m)) [32, 0]).length : Nat) : Int)) = false := decide_eq_false (by omega)
        have d6 : decide (0 < (Lib.trimS (Lib.bytesOf (rr.drop m)) [32, 0]).length) = false := decide_eq_false (by omega)
        clear hv c5
        go_enter Tryz.func59, Tryz.ntmps59
        go_wp2
        go_step3
        go_wp2_with (first
          | (go_at_call 76; (with_reducible refine (numf_isWidth.calls _ true _ HW.out).mono ?_); rintro e w' ⟨rfl, ⟨nd, rfl⟩⟩)
          | (go_at_call 75; (with_reducible refine (bytes_TrimLeft_one' _ _ c0 l0 32 _ (by decide) rfl ?side1 HC.out).mono ?_); (case side1 => repeat (first | exact HR.out | (with_reducible refine Kd.C_drewN ?_ _))); rintro e w2 ⟨⟨A2, c2, rfl, h1, h2⟩, hw2⟩; rw [show (((32 : UInt8).toNat : Nat) : Int) = 32 from rfl, ← HRR.out] at h1 h2; rw [show (((32 : UInt8).toNat : Nat) : Int) = 32 from rfl, ← HRR.out]; subst hw2; have H1 := Aside0.mk h1; have H2 := Aside0.mk h2; clear h1 h2; obtain ⟨A3, hs3, ht3, hl3⟩ := HD.out A2 c2 H1.out; rw [Int.toNat_natCast] at hs3 ht3 hl3; have HL3 := Aside0.mk hl3; have HB3 := Aside0.mk (tail_bytes H2.out (ht3 _ (Kd.reads_of_C (enc := Value.int .u8) (d := (0 : Int)) (h1 := fun _ => rfl) H2.out)) HRG.out); clear ht3 hl3)
          | (go_at_call 77; (with_reducible refine (numf_digits_any A2 _ c2 rr _ rfl H2.out H1.out).mono ?_); rintro e w3 ⟨rfl, hw3⟩; subst hw3; rw [← HM.out])
          | (go_at_call 78; (with_reducible refine (bytes_Trim_set A3 _ (c2 - m) (Lib.bytesOf (rr.drop m)) ⟨#[32, 0]⟩ _ (by rw [Lib.bytesOf_length, List.length_drop]) HB3.out (by have := H1.out; omega) (by omega) (by decide) (by decide) ascii2).mono ?_); rintro e w4 ⟨⟨A4, c4, rfl⟩, hb4⟩; rw [show (⟨#[32, 0]⟩ : ByteArray).data.toList = [32, 0] from rfl]; have HB4 := Aside0.mk hb4; clear hb4))
        have H5 := Aside0.mk (Kd.C_below H2.out HB4.out)
        go_loop [4, 41] (fun n i => ∃ k : Nat, k ≤ m ∧ i = .int .i64 k ∧ n = .int .i64 (octVal 0 (rr.take k))) (fun _ i => m - (intOf i).toNat)
        case atStart => exact ⟨0, Nat.zero_le _, rfl, by rw [List.take_zero]; rfl⟩
        case round =>
          obtain ⟨k, hk, rfl, rfl⟩ := hrel
          by_cases hlt : k < m
          · obtain ⟨b2, off2, hA2, hcell2⟩ := C_at H5.out k (by omega)
            have hx := HOM.out rr[k] (by rw [List.mem_take_iff_getElem]; exact ⟨k, by omega, rfl⟩)
            have hsn := Aside0.mk (show octVal 0 (rr.take (k + 1)) = Go.bits .or .i64 (wrap64 (octVal 0 (rr.take k) * 8)) (rr[k] - 48) by rw [List.take_succ_eq_append_getElem (by omega), octVal_snoc])
            generalize rr[k] = x at *
            generalize octVal 0 (rr.take k) = acc at *
            subst hA2
            go_wp2
            go_round
            case rel => exact ⟨k + 1, by omega, by go_num, by rw [hsn.out]⟩
            case measure => simp [intOf]; omega
          · have hkk : k = m := by omega
            have HV2 := Aside0.mk (show octVal 0 (rr.take k) = r1 by rw [hkk]; exact HV.out)
            clear hkk
            go_wp2
            try rw [Exit.noGoto_ret]
            go_ret2
            exact ⟨by rw [HV2.out]; rfl, below_step (pw_below_drewN (Below.refl _ _) _) HB4.out⟩
end Go.Proofs.YtjidenkhgeoaiaaGreatDoor.Hand

/- Contracts, by hand, of head's reader: a text, a number, of a field of the block. -/
namespace Go.Proofs.YtjidenkhgeoaiaaGreatDoor.Hand
open Go.RowKit Go.Proofs.YtjidenkhgeoaiaaGreatDoor.P Go.Proofs.YtjidenkhgeoaiaaGreatDoorW Go.Proofs.YtjidenkhgeoaiaaGreatDoorW.PrintWords Go.Proofs.YtjidenkhgeoaiaaGreatDoorW.PrintLast Go.Proofs.YtjidenkhgeoaiaaGreatDoorW.PrintMore
set_option linter.unusedVariables false
set_option linter.unusedSimpArgs false

theorem wrap_id' {i : Int} (h0 : -9223372036854775808 ≤ i) (h : i < 9223372036854775808) : IntKind.i64.wrap i = i := IntWalk.i64_in _ ⟨h0, by omega⟩
/-- The first error stays. -/
def firstE (e e1 : Int) : Int := if e = 0 then e1 else e
/-- All but one block is as it was. -/
structure Near (w w' : World) (g : Nat) : Prop where
  os : w'.os = w.os
  tape : w'.tape = w.tape
  output : w'.output = w.output
  size : w.heap.size ≤ w'.heap.size
  block : ∀ i, i < w.heap.size → i ≠ g → w'.heap[i]? = w.heap[i]?
theorem Near.of_below {w w' : World} (h : Below w.heap.size w w') (g : Nat) : Near w w' g := ⟨h.os, h.tape, h.output, h.size, fun i hi _ => h.block i hi⟩
theorem Near.set {w w' : World} {g : Nat} (h : Near w w' g) (j : Nat) (u : Value) : Near w (w'.setCell ⟨g, j, none⟩ u) g :=
  ⟨h.os, h.tape, h.output, by simp only [World.setCell, Array.size_modify]; exact h.size, fun i hi hg => (Below.heap_setCell w' ⟨g, j, none⟩ u i hg).trans (h.block i hi hg)⟩
theorem Below.near {B g : Nat} {w W W' : World} (h : Below B w W) (hB : B ≤ W.heap.size) (hg : B ≤ g) (k : Near W W' g) : Below B w W' :=
  ⟨k.os.trans h.os, k.tape.trans h.tape, k.output.trans h.output, Nat.le_trans h.size k.size, fun i hi => (k.block i (by omega) (by omega)).trans (h.block i hi)⟩
theorem Near.blk {w w' : World} {g g' : Nat} {o : Obj} (h : Near w w' g) (hb : w.heap[g']? = some o) (hne : g' ≠ g) : w'.heap[g']? = some o := (h.block g' (blk_lt hb) hne).trans hb

set_option maxHeartbeats 4000000 in
set_option maxRecDepth 100000 in
theorem reader_text.calls (A : Option Addr) (c g : Nat) (l : List Int) (at_ wd e e1 : Int) (s : ByteArray) (w : World) (h0 : 0 ≤ at_) (h1 : 0 ≤ wd) (h2 : at_ + wd ≤ l.length) (h3 : l.length ≤ 100000) (hc : l.length ≤ c)
    (hb : w.heap[g]? = some (.cells #[.slice A l.length c, .int .i64 e] 75 (0, 0))) (hr : Kd.C (Kd.int .u8) w A l.length l) (h : strf_Get.f ((l.take (at_ + wd).toNat).drop at_.toNat) = some (s, e1)) :
    Calls Tryz.prog 36 #[.pointer (some ⟨g, 0, none⟩), .int .i64 at_, .int .i64 wd] w fun en w' => en = .returned (.string s) ∧ w'.heap[g]? = some (.cells #[.slice A l.length c, .int .i64 (firstE e e1)] 75 (0, 0)) ∧ Near w w' g := by
  obtain ⟨i5, hi5, hz5, hs5, hb5⟩ := info_parts info5
  obtain ⟨A', hrun, hread, hlen⟩ := print_mid_int (k := .u8) 31 5 Tryz.underlying31 hi5 hs5 A c l at_ (at_ + wd) h0 (by omega) h2 hc
  generalize (l.take (at_ + wd).toNat).drop at_.toNat = m at hrun hread hlen h
  have hc0 : w.cell? ⟨g, 0, none⟩ = some (.slice A l.length c) := (blk_cell hb 0).trans rfl
  have HR := Aside0.mk (hread w (Kd.reads_of_C (enc := Value.int .u8) (d := (0 : Int)) (h1 := fun _ => rfl) hr))
  have HLEN := Aside0.mk hlen
  have HG := Aside0.mk h
  have HBL := Aside0.mk hb
  have hw := wrap_id' (i := at_ + wd) (by omega) (by omega)
  clear hread hlen h hr hb hi5 hz5 hs5 hb5
  by_cases he : e = 0
  · subst he
    go_enter Tryz.func36, Tryz.ntmps36
    go_wp2_with (go_at_call 58; (with_reducible refine (strf_Get.calls A' (c - at_.toNat) _ s e1 _ ?side1 HLEN.out HG.out).mono ?_); (case side1 => exact Kd.C_of_reads (enc := Value.int .u8) (d := (0 : Int)) (h1 := fun _ => rfl) HR.out); rintro en w1 ⟨rfl, hb1⟩; have HB1 := Aside0.mk hb1; have HBK := Aside0.mk (blk_below HBL.out hb1); clear hb1; have hx1 : w1.cell? ⟨g, 1, none⟩ = some (.int .i64 0) := (blk_cell HBK.out 1).trans rfl; have hf1 := blk_frozen HBK.out 1)
    go_ret
    exact ⟨rfl, blk_put HBK.out 1 _ rfl, (Near.of_below HB1.out g).set 1 _⟩
  · have hd : (e == 0) = false := beq_eq_false_iff_ne.2 he
    have HE := Aside0.mk he
    clear he
    go_enter Tryz.func36, Tryz.ntmps36
    go_wp2_with (go_at_call 58; (with_reducible refine (strf_Get.calls A' (c - at_.toNat) _ s e1 _ ?side1 HLEN.out HG.out).mono ?_); (case side1 => exact Kd.C_of_reads (enc := Value.int .u8) (d := (0 : Int)) (h1 := fun _ => rfl) HR.out); rintro en w1 ⟨rfl, hb1⟩; have HB1 := Aside0.mk hb1; have HBK := Aside0.mk (blk_below HBL.out hb1); clear hb1; have hx1 : w1.cell? ⟨g, 1, none⟩ = some (.int .i64 e) := (blk_cell HBK.out 1).trans rfl; have hf1 := blk_frozen HBK.out 1)
    go_ret
    exact ⟨rfl, by unfold firstE; rw [if_neg HE.out]; exact HBK.out, Near.of_below HB1.out g⟩
set_option maxHeartbeats 4000000 in
set_option maxRecDepth 100000 in
theorem reader_number.calls (A : Option Addr) (c g : Nat) (l : List Int) (at_ wd e e1 : Int) (s : Int) (w : World) (h0 : 0 ≤ at_) (h1 : 0 ≤ wd) (h2 : at_ + wd ≤ l.length) (h3 : l.length ≤ 100000) (hc : l.length ≤ c)
    (hb : w.heap[g]? = some (.cells #[.slice A l.length c, .int .i64 e] 75 (0, 0))) (hr : Kd.C (Kd.int .u8) w A l.length l) (h : numf_Get.f ((l.take (at_ + wd).toNat).drop at_.toNat) = some (s, e1)) :
    Calls Tryz.prog 37 #[.pointer (some ⟨g, 0, none⟩), .int .i64 at_, .int .i64 wd] w fun en w' => en = .returned (.int .i64 s) ∧ w'.heap[g]? = some (.cells #[.slice A l.length c, .int .i64 (firstE e e1)] 75 (0, 0)) ∧ Near w w' g := by
  obtain ⟨i5, hi5, hz5, hs5, hb5⟩ := info_parts info5
  obtain ⟨A', hrun, hread, hlen⟩ := print_mid_int (k := .u8) 31 5 Tryz.underlying31 hi5 hs5 A c l at_ (at_ + wd) h0 (by omega) h2 hc
  generalize (l.take (at_ + wd).toNat).drop at_.toNat = m at hrun hread hlen h
  have hc0 : w.cell? ⟨g, 0, none⟩ = some (.slice A l.length c) := (blk_cell hb 0).trans rfl
  have HR := Aside0.mk (hread w (Kd.reads_of_C (enc := Value.int .u8) (d := (0 : Int)) (h1 := fun _ => rfl) hr))
  have HLEN := Aside0.mk hlen
  have HG := Aside0.mk h
  have HBL := Aside0.mk hb
  have hw := wrap_id' (i := at_ + wd) (by omega) (by omega)
  clear hread hlen h hr hb hi5 hz5 hs5 hb5
  by_cases he : e = 0
  · subst he
    go_enter Tryz.func37, Tryz.ntmps37
    go_wp2_with (go_at_call 59; (with_reducible refine (numf_Get.calls A' (c - at_.toNat) _ s e1 _ ?side1 HLEN.out HG.out).mono ?_); (case side1 => exact Kd.C_of_reads (enc := Value.int .u8) (d := (0 : Int)) (h1 := fun _ => rfl) HR.out); rintro en w1 ⟨rfl, hb1⟩; have HB1 := Aside0.mk hb1; have HBK := Aside0.mk (blk_below HBL.out hb1); clear hb1; have hx1 : w1.cell? ⟨g, 1, none⟩ = some (.int .i64 0) := (blk_cell HBK.out 1).trans rfl; have hf1 := blk_frozen HBK.out 1)
    go_ret
    exact ⟨rfl, blk_put HBK.out 1 _ rfl, (Near.of_below HB1.out g).set 1 _⟩
  · have hd : (e == 0) = false := beq_eq_false_iff_ne.2 he
    have HE := Aside0.mk he
    clear he
    go_enter Tryz.func37, Tryz.ntmps37
    go_wp2_with (go_at_call 59; (with_reducible refine (numf_Get.calls A' (c - at_.toNat) _ s e1 _ ?side1 HLEN.out HG.out).mono ?_); (case side1 => exact Kd.C_of_reads (enc := Value.int .u8) (d := (0 : Int)) (h1 := fun _ => rfl) HR.out); rintro en w1 ⟨rfl, hb1⟩; have HB1 := Aside0.mk hb1; have HBK := Aside0.mk (blk_below HBL.out hb1); clear hb1; have hx1 : w1.cell? ⟨g, 1, none⟩ = some (.int .i64 e) := (blk_cell HBK.out 1).trans rfl; have hf1 := blk_frozen HBK.out 1)
    go_ret
    exact ⟨rfl, by unfold firstE; rw [if_neg HE.out]; exact HBK.out, Near.of_below HB1.out g⟩

theorem in_of_C {w : World} {A : Option Addr} {l : List Int} (hr : Kd.C (Kd.int .u8) w A l.length l) : Lib.BytesIn w A l.length l := by
  intro h0
  obtain ⟨b, o, e, hg⟩ := C_at hr 0 h0
  refine ⟨b, o, e, fun i hi => ?_⟩
  obtain ⟨b', o', e', hg'⟩ := C_at hr i hi
  rw [e] at e'
  simp only [Option.some.injEq, Addr.mk.injEq] at e'
  rw [← e'.1, ← e'.2.1] at hg'
  rw [hg', List.getD_eq_getElem?_getD, List.getElem?_eq_getElem hi]; rfl
theorem hasPrefix_C (A1 A2 : Option Addr) (c m d : Nat) (xs ys : List Int) (b : Bool) (w : World) (hc : xs.length ≤ c) (hm : ys.length = m) (h1 : Kd.C (Kd.int .u8) w A1 xs.length xs) (h2 : Kd.C (Kd.int .u8) w A2 ys.length ys) (hb : Lib.hasPrefix (Lib.bytesOf xs) (Lib.bytesOf ys) = b) :
    Calls Tryz.prog 35 #[.slice A1 xs.length c, .slice A2 m d] w fun e w' => e = .returned (.bool b) ∧ w' = w := by
  subst hm
  subst hb
  exact Tryz.bytes_HasPrefix_all A1 A2 xs.length c ys.length d xs ys w rfl rfl hc (in_of_C h1) (in_of_C h2)
end Go.Proofs.YtjidenkhgeoaiaaGreatDoor.Hand

namespace Go.Proofs.YtjidenkhgeoaiaaGreatDoor.P
open Go.RowKit Go.Proofs.YtjidenkhgeoaiaaGreatDoorW.PrintWords Go.Proofs.YtjidenkhgeoaiaaGreatDoorW.PrintLast Go.Proofs.YtjidenkhgeoaiaaGreatDoorW.PrintMore Go.Proofs.YtjidenkhgeoaiaaGreatDoor.Hand
attribute [local go_sem] max2_int min2_int max_two min_two max_three min_three max_four min_four   -- for this text's walks alone
set_option linter.unusedVariables false
set_option linter.unusedSimpArgs false

/-! ### numf_Most: function 89 -/
def numf_Most.f (a0 : Int) : Option (Int) := some (wrap64 ((wrap64 (2 ^ (3 * (mn (mx a0 0) 20)).toNat)) - 1))
set_option maxHeartbeats 8000000 in
set_option maxRecDepth 100000 in
theorem numf_Most.calls (a0 : Int) (r : Int) (w : World) (h : numf_Most.f a0 = some r) :
  Calls Tryz.prog 89 #[.int .i64 a0] w fun e w' => e = .returned (.int .i64 r) ∧ Below w.heap.size w w' := by
 have HB := Aside0.mk (Below.refl w.heap.size w)
 have H : (some (wrap64 ((wrap64 (2 ^ (3 * (mn (mx a0 0) 20)).toNat)) - 1))) = some r := h
 clear h
 obtain ⟨ji2, hji2⟩ : ∃ j_ : Int, (mx a0 0) = j_ := ⟨_, rfl⟩
 replace H : (some (wrap64 ((wrap64 (2 ^ (3 * (mn (ji2) 20)).toNat)) - 1))) = some r := by first | (rw [hji2] at H; exact H) | (simp only [hji2] at H ⊢; exact H)
 (try (have hji2l : 0 ≤ ji2 := by (rw [← hji2]; unfold mx; (repeat' split) <;> omega)))
 (try (have hji2m : 0 ≤ ji2 := by omega))
 have hji2_ : (if a0 < 0 then 0 else a0) = ji2 := hji2
 obtain ⟨ji3, hji3⟩ : ∃ j_ : Int, (mn (ji2) 20) = j_ := ⟨_, rfl⟩
 replace H : (some (wrap64 ((wrap64 (2 ^ (3 * (ji3)).toNat)) - 1))) = some r := by first | (rw [hji3] at H; exact H) | (simp only [hji3] at H ⊢; exact H)
 have hji3_ : (if 20 < (ji2) then 20 else (ji2)) = ji3 := hji3
 obtain rfl := Option.some.inj H
 go_enter Tryz.func89, Tryz.ntmps89
 go_wp2
 go_ret
 exact ⟨by first | rfl | (simp [errW_none, errW_some] <;> rfl) | (simp only [← hji2, ← hji3]; first | rfl | (simp [errW_none, errW_some] <;> rfl)) | (simp [*, errW_none, errW_some] <;> rfl), by repeat (first | (with_reducible first | exact HB.out | apply below_alloc | apply pw_below_drewN | apply below_drew1) | exact HB.out)⟩

end Go.Proofs.YtjidenkhgeoaiaaGreatDoor.P
