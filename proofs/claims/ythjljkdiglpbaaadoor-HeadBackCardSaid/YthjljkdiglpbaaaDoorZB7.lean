import Derived.Test.YthjljkdiglpbaaaDoorZB6
import Derived.Deep.Slices
import Derived.ChangeArms
import Derived.WideShapes
import Derived.DataReads
import Derived.SizedLaws
import Derived.ChangeSlices
import Derived.Test.YthjljkdiglpbaaaDoorRows
import Derived.Test.YthjljkdiglpbaaaDoorCards
import Derived.Test.YthjljkdiglpbaaaDoorTie
import Derived.ProofKit
import Derived.OpenShut
import Derived.ShutString
import Derived.ChangeOld
import Derived.LaidMore
import Derived.Lay
import Derived.SevenTiedAt
import Derived.Stop.Joined
-- F73
-- Written by xprint.py (a program of this session's, over the kit's printer) out of the translation. Not trusted: Lean checks it.
namespace Go.Proofs.YthjljkdiglpbaaaDoor.P
open Go.RowKit Go.Proofs.YthjljkdiglpbaaaDoorW.PrintWords Go.Proofs.YthjljkdiglpbaaaDoorW.PrintLast Go.Proofs.YthjljkdiglpbaaaDoorW.PrintMore Go.Proofs.YthjljkdiglpbaaaDoor.Hand
attribute [local go_sem] max2_int min2_int max_two min_two max_three min_three max_four min_four   -- for this text's walks alone
set_option linter.unusedVariables false
set_option linter.unusedSimpArgs false

/-! ### thwartref02_Loose: function 73 -/
def thwartref02_Loose.f (k : Nat) (l0 : List Int) : Option (ByteArray) := (thwartref02_zero.f k (strOfNums l0)).bind fun t231 => (if 0 ≤ t231 then (if t231 ≤ ((strOfNums l0).size : Int) then (some ((strOfNums l0).extract 0 (t231 : Int).toNat)) else (none)) else (none))
theorem thwartref02_Loose.mono : ∀ a0 k, LeO (thwartref02_Loose.f k a0) (thwartref02_Loose.f (k + 1) a0) := by
  intro a0 k
  unfold thwartref02_Loose.f
  repeat' first
      | (with_reducible exact thwartref02_zero.mono _ _)
      | (with_reducible exact LeO.refl _)
      | (with_reducible exact LeO.none _)
      | (with_reducible refine LeO.ite ?_ ?_)
      | (with_reducible refine LeO.bind ?_ (fun _ => ?_))
      | exact thwartref02_zero.mono _ _
      | exact LeO.none _
      | refine LeO.ite ?_ ?_
      | refine LeO.bind ?_ (fun _ => ?_)
set_option maxHeartbeats 8000000 in
set_option maxRecDepth 100000 in
theorem thwartref02_Loose.calls (k : Nat) (A0 : Option Addr) (c0 : Nat) (l0 : List Int) (r : ByteArray) (w : World) (hr0 : Kd.C (Kd.int .u8) w A0 l0.length l0) (hc0 : l0.length ≤ c0) (h : thwartref02_Loose.f k l0 = some r) :
    Calls Tryd.prog 73 #[.slice A0 l0.length c0] w fun e w' => e = .returned (.string r) ∧ Drawn0 w w' := by
  have HR0 := Aside0.mk hr0
  have HC0 := Aside0.mk hc0
  clear hr0 hc0
  have H : ((thwartref02_zero.f k (strOfNums l0)).bind fun t231 => (if 0 ≤ t231 then (if t231 ≤ ((strOfNums l0).size : Int) then (some ((strOfNums l0).extract 0 (t231 : Int).toNat)) else (none)) else (none))) = some r := h
  clear h
  replace H := Option.bind_eq_some_iff.mp H
  obtain ⟨t231, A20, H⟩ := H
  replace H : (if 0 ≤ t231 then (if t231 ≤ ((strOfNums l0).size : Int) then (some ((strOfNums l0).extract 0 (t231 : Int).toNat)) else (none)) else (none)) = some r := H
  have A2 := Aside0.mk A20
  clear A20
  by_cases c3 : 0 ≤ t231
  · rw [if_pos c3] at H
    have c3b0 := eq_true c3
    have c3b1 : decide (0 ≤ t231) = true := decide_eq_true c3
    clear c3
    by_cases c4 : t231 ≤ ((strOfNums l0).size : Int)
    · rw [if_pos c4] at H
      have c4b0 := eq_true c4
      have c4b1 : decide (t231 ≤ ((strOfNums l0).size : Int)) = true := decide_eq_true c4
      clear c4
      obtain rfl := Option.some.inj H
      have hcv5 := Kd.C_string (P := Tryd.prog) (A := A0) (c := c0) Tryd.underlying22 Tryd.underlying5 Tryd.underlying9 HR0.out
      go_enter Tryd.func73, Tryd.ntmps73
      go_wp2_with (first | ((with_reducible refine gate_callee (f := 96) rfl ?_); refine goesL_ (some 8) rfl rfl Tryd.func96 (by kernel_rfl) rfl #[.string (strOfNums l0)] rfl (by (try simp only [List.map_toArray, List.map_cons, List.map_nil]); first | done | rfl | (simp only [List.length_drop, List.length_take]; rfl)) ?_; (with_reducible refine (thwartref02_zero.calls k (strOfNums l0) t231 _ A2.out).mono ?_); rintro e w' ⟨rfl, ⟨nd, rfl⟩⟩; refine ⟨_, rfl, ?_⟩))
      go_ret
      exact ⟨by first | rfl | (simp; done) | (simp [*]; done), by repeat (first | exact Drawn0.refl _ | apply Drawn0.step)⟩
    · rw [if_neg c4] at H
      exact absurd H (by simp)
  · rw [if_neg c3] at H
    exact absurd H (by simp)

end Go.Proofs.YthjljkdiglpbaaaDoor.P

-- F51
-- Written by xprint.py (a program of this session's, over the kit's printer) out of the translation. Not trusted: Lean checks it.
namespace Go.Proofs.YthjljkdiglpbaaaDoor.P
open Go.RowKit Go.Proofs.YthjljkdiglpbaaaDoorW.PrintWords Go.Proofs.YthjljkdiglpbaaaDoorW.PrintLast Go.Proofs.YthjljkdiglpbaaaDoorW.PrintMore Go.Proofs.YthjljkdiglpbaaaDoor.Hand
attribute [local go_sem] max2_int min2_int max_two min_two max_three min_three max_four min_four   -- for this text's walks alone
set_option linter.unusedVariables false
set_option linter.unusedSimpArgs false

/-! ### thwartref02_Get: function 51 -/
def thwartref02_Get.l0 : Nat → List Int → ByteArray → Int → Option (ByteArray × Int)
  | 0, _, _, _ => none
  | k + 1, x0, x4, x5 => if x5 < (x0.length : Int) then (if 0 ≤ x5 then (if (rd x0 x5) = 0 then (thwartref02_Get.l0 k x0 x4 (wrap64 (x5 + 1))) else (some ((⟨#[]⟩ : ByteArray), 3))) else (none)) else (some (x4, 0))
def thwartref02_Get.f (k : Nat) (l0 : List Int) : Option (ByteArray × Int) := (thwartref02_Loose.f k l0).bind fun t232 => (thwartref02_Get.l0 k l0 t232 (t232.size : Int))
theorem thwartref02_Get.mono_l : ∀ k, (∀ y0 y1 y2, LeO (thwartref02_Get.l0 k y0 y1 y2) (thwartref02_Get.l0 (k + 1) y0 y1 y2))
  | 0 => fun _ _ _ r h => by simp [thwartref02_Get.l0] at h
  | k + 1 => by
    have ih0 := thwartref02_Get.mono_l k
    · intro y0 y1 y2
      unfold thwartref02_Get.l0
      repeat' first
      | (with_reducible exact ih0 _ _ _)
      | (with_reducible exact thwartref02_Loose.mono _ _)
      | (with_reducible exact LeO.refl _)
      | (with_reducible exact LeO.none _)
      | (with_reducible refine LeO.ite ?_ ?_)
      | (with_reducible refine LeO.bind ?_ (fun _ => ?_))
      | exact ih0 _ _ _
      | exact thwartref02_Loose.mono _ _
      | exact LeO.none _
      | refine LeO.ite ?_ ?_
      | refine LeO.bind ?_ (fun _ => ?_)
theorem thwartref02_Get.mono : ∀ a0 k, LeO (thwartref02_Get.f k a0) (thwartref02_Get.f (k + 1) a0) := by
  intro a0 k
  have ih0 := thwartref02_Get.mono_l k
  unfold thwartref02_Get.f
  repeat' first
      | (with_reducible exact ih0 _ _ _)
      | (with_reducible exact thwartref02_Loose.mono _ _)
      | (with_reducible exact LeO.refl _)
      | (with_reducible exact LeO.none _)
      | (with_reducible refine LeO.ite ?_ ?_)
      | (with_reducible refine LeO.bind ?_ (fun _ => ?_))
      | exact ih0 _ _ _
      | exact thwartref02_Loose.mono _ _
      | exact LeO.none _
      | refine LeO.ite ?_ ?_
      | refine LeO.bind ?_ (fun _ => ?_)
set_option maxHeartbeats 8000000 in
set_option maxRecDepth 100000 in
theorem thwartref02_Get.calls (k : Nat) (A0 : Option Addr) (c0 : Nat) (l0 : List Int) (r1 : ByteArray) (r2 : Int) (w : World) (hr0 : Kd.C (Kd.int .u8) w A0 l0.length l0) (hc0 : l0.length ≤ c0) (h : thwartref02_Get.f k l0 = some (r1, r2)) :
    Calls Tryd.prog 51 #[.slice A0 l0.length c0] w fun e w' => e = .returned (.tuple #[.string r1, .int .i64 r2]) ∧ Drawn0 w w' := by
  have HR0 := Aside0.mk hr0
  have HC0 := Aside0.mk hc0
  clear hr0 hc0
  have H : ((thwartref02_Loose.f k l0).bind fun t232 => (thwartref02_Get.l0 k l0 t232 (t232.size : Int))) = some (r1, r2) := h
  clear h
  replace H := Option.bind_eq_some_iff.mp H
  obtain ⟨t232, A20, H⟩ := H
  replace H : (thwartref02_Get.l0 k l0 t232 (t232.size : Int)) = some (r1, r2) := H
  have A2 := Aside0.mk A20
  clear A20
  have H' := Aside0.mk H
  clear H
  go_enter Tryd.func51, Tryd.ntmps51
  go_wp2_with (first | ((with_reducible refine gate_callee (f := 73) rfl ?_); refine goesL_ (some 7) rfl rfl Tryd.func73 (by kernel_rfl) rfl #[.slice A0 l0.length c0] rfl (by (try simp only [List.map_toArray, List.map_cons, List.map_nil]); first | done | rfl | (simp only [List.length_drop, List.length_take]; rfl)) ?_; (with_reducible refine (thwartref02_Loose.calls k _ _ l0 t232 _ ?side1 ?side2 A2.out).mono ?_); (case side1 => repeat (first | exact HR0.out | (with_reducible refine Kd.C_alloc ?_ _) | (with_reducible refine Kd.C_drewN ?_ _) | (with_reducible refine Kd.C_drew ?_))); (case side2 => exact HC0.out); rintro e w' ⟨rfl, ⟨nd, rfl⟩⟩; refine ⟨_, rfl, ?_⟩))
  go_loopg [5] k (fun kq v5 w' => ∃ (x5_1 : Int), v5 = .int .i64 x5_1 ∧ Aside0 (thwartref02_Get.l0 kq l0 t232 x5_1 = some (r1, r2)) ∧ Aside0 (kq ≤ k) ∧ Drawn0 w w')
  case atStart => exact ⟨((t232.size : Int)), (by first | rfl | (simp; done) | (simp [*]; done)), H', ⟨Nat.le_refl _⟩, by repeat (first | exact Drawn0.refl _ | apply Drawn0.step)⟩
  case round =>
    clear H'
    try clear p2
    obtain ⟨x5_1, rfl, HA, HK1, ⟨m1, rfl⟩⟩ := hrel
    cases gk with
    | zero => exact absurd HA.out (by simp [thwartref02_Get.l0])
    | succ k1 =>
      have H := HA.out
      clear HA
      simp only [thwartref02_Get.l0] at H
      by_cases c3 : x5_1 < (l0.length : Int)
      · rw [if_pos c3] at H
        have c3b0 : decide (x5_1 < (l0.length : Int)) = true := decide_eq_true c3
        clear c3
        by_cases c4 : 0 ≤ x5_1
        · rw [if_pos c4] at H
          have c4b0 : decide (0 ≤ x5_1) = true := decide_eq_true c4
          clear c4
          by_cases c5 : (rd l0 x5_1) = 0
          · rw [if_pos c5] at H
            have c5b0 : ((rd l0 x5_1) == 0) = true := beq_iff_eq.mpr c5
            have c5b1 : ((rd l0 x5_1) != 0) = false := bne_eq_false_iff_eq.mpr c5
            clear c5
            have H' := Aside0.mk H
            clear H
            have p233 : 0 ≤ (x5_1 : Int) := of_decide_eq_true (by first | (with_reducible assumption) | assumption)
            have q233 : x5_1 < (l0.length : Int) := of_decide_eq_true (by first | (with_reducible assumption) | assumption)
            obtain ⟨ad233, e233, hx233_0⟩ := Kd.at_int HR0.out x5_1 p233 q233
            cases e233
            replace p233 := eq_true p233
            replace q233 := eq_true q233
            go_wp2
            go_roundg k1
            case measure => have := HK1.out; omega
            case rel => exact ⟨(wrap64 (x5_1 + 1)), (by first | rfl | (simp; done) | (simp [*]; done)), H', ⟨by have := HK1.out; omega⟩, by repeat (first | exact Drawn0.refl _ | apply Drawn0.step)⟩
          · rw [if_neg c5] at H
            have c5b0 : ((rd l0 x5_1) == 0) = false := beq_eq_false_iff_ne.mpr c5
            have c5b1 : ((rd l0 x5_1) != 0) = true := bne_iff_ne.mpr c5
            simp only [Option.some.injEq, Prod.mk.injEq] at H
            obtain ⟨rfl, rfl⟩ := H
            have p233 : 0 ≤ (x5_1 : Int) := of_decide_eq_true (by first | (with_reducible assumption) | assumption)
            have q233 : x5_1 < (l0.length : Int) := of_decide_eq_true (by first | (with_reducible assumption) | assumption)
            obtain ⟨ad233, e233, hx233_0⟩ := Kd.at_int HR0.out x5_1 p233 q233
            cases e233
            replace p233 := eq_true p233
            replace q233 := eq_true q233
            go_wp2
            go_ret2
            exact ⟨by first | rfl | (simp; done) | (simp [*]; done), by repeat (first | exact Drawn0.refl _ | apply Drawn0.step)⟩
        · rw [if_neg c4] at H
          exact absurd H (by simp)
      · rw [if_neg c3] at H
        have c3b0 : decide (x5_1 < (l0.length : Int)) = false := decide_eq_false c3
        clear c3
        simp only [Option.some.injEq, Prod.mk.injEq] at H
        obtain ⟨rfl, rfl⟩ := H
        go_wp2
        go_ret2
        exact ⟨by first | rfl | (simp; done) | (simp [*]; done), by repeat (first | exact Drawn0.refl _ | apply Drawn0.step)⟩

end Go.Proofs.YthjljkdiglpbaaaDoor.P

-- QFld
/- Plain facts on texts of fields, as the code and the document tell them. -/
namespace Go.Proofs.YthjljkdiglpbaaaDoor.Q
open Go.RowKit Go.Proofs.YthjljkdiglpbaaaDoor.P Go.Proofs.YthjljkdiglpbaaaDoor.Hand Go.Proofs.YthjljkdiglpbaaaDoorW.PrintWords Go.Proofs.YthjljkdiglpbaaaDoorW.PrintLast Go.Proofs.YthjljkdiglpbaaaDoorW.PrintMore
set_option linter.unusedVariables false
set_option linter.unusedSimpArgs false
theorem ext_list (a b : ByteArray) (h : a.data.toList = b.data.toList) : a = b := by
  cases a; cases b; simp only [ByteArray.mk.injEq]; exact Array.toList_inj.1 h
theorem toL (s : ByteArray) : s.toList = s.data.toList := Lib.toList_data s
theorem szL (s : ByteArray) : s.size = s.data.toList.length := Lib.size_eq s
theorem extL (s : ByteArray) (a b : Nat) : (s.extract a b).data.toList = (s.data.toList.drop a).take (b - a) := Lib.extract_data s a b
theorem appL (s t : ByteArray) : (s ++ t).data.toList = s.data.toList ++ t.data.toList := by
  rw [ByteArray.data_append, Array.toList_append]
theorem numsL (xs : List Int) : (strOfNums xs).data.toList = Lib.bytesOf xs := rfl
theorem nums_bytes (s : ByteArray) : strOfNums (bytesOf s) = s := by
  apply ext_list
  rw [numsL]
  simp [Lib.bytesOf, bytesOf, List.map_map, Function.comp_def]
theorem bytes_bytes (s : ByteArray) : Lib.bytesOf (bytesOf s) = s.data.toList := by
  simp [Lib.bytesOf, bytesOf, List.map_map, Function.comp_def]

/-- Where a byte first stands. -/
theorem index_none (l : List UInt8) (c : UInt8) : Lib.indexByte l c < 0 ↔ c ∉ l := by
  induction l with
  | nil => simp [Lib.indexByte]
  | cons b l ih =>
    have hg := Lib.indexByte_ge l c
    unfold Lib.indexByte
    by_cases e : (b == c) = true
    · rw [if_pos e]; simp at e; subst e; simp
    · rw [if_neg e]
      have e' : ¬ c = b := fun h => e (by simp [h])
      by_cases e2 : (Lib.indexByte l c == -1) = true
      · rw [if_pos e2]
        have : Lib.indexByte l c < 0 := by have := beq_iff_eq.1 e2; omega
        simp [e', ih.1 this]
      · rw [if_neg e2]
        have h3 : ¬ Lib.indexByte l c < 0 := by have : ¬ Lib.indexByte l c = -1 := fun h => e2 (by simp [h]); omega
        have h4 : c ∈ l := Decidable.byContradiction fun h => h3 (ih.2 h)
        simp [h4]; omega
theorem index_some (l : List UInt8) (c : UInt8) (h : 0 ≤ Lib.indexByte l c) : ∃ pre post, l = pre ++ c :: post ∧ c ∉ pre ∧ (Lib.indexByte l c).toNat = pre.length := by
  induction l with
  | nil => simp [Lib.indexByte] at h
  | cons b l ih =>
    have hg := Lib.indexByte_ge l c
    unfold Lib.indexByte at h ⊢
    by_cases e : (b == c) = true
    · rw [if_pos e]; simp at e; subst e; exact ⟨[], l, rfl, by simp, rfl⟩
    · rw [if_neg e] at h ⊢
      by_cases e2 : (Lib.indexByte l c == -1) = true
      · rw [if_pos e2] at h; omega
      · rw [if_neg e2] at h ⊢
        have h3 : ¬ Lib.indexByte l c = -1 := fun h => e2 (by simp [h])
        obtain ⟨pre, post, h4, h5, h6⟩ := ih (by omega)
        refine ⟨b :: pre, post, by rw [h4]; rfl, ?_, by simp only [List.length_cons]; omega⟩
        simp only [List.mem_cons, not_or]
        exact ⟨fun h => e (by simp [h]), h5⟩
theorem index_at (pre post : List UInt8) (c : UInt8) (h : c ∉ pre) : Lib.indexByte (pre ++ c :: post) c = pre.length := by
  induction pre with
  | nil => simp [Lib.indexByte]
  | cons b l ih =>
    simp only [List.mem_cons, not_or] at h
    have e : ¬ (b == c) = true := fun e => h.1 (by simpa using (beq_iff_eq.1 e).symm)
    show Lib.indexByte (b :: (l ++ c :: post)) c = _
    unfold Lib.indexByte
    rw [if_neg e, ih h.2, if_neg (by rw [beq_iff_eq]; omega)]
    simp

theorem wrap_small {i : Int} (h0 : 0 ≤ i) (h : i ≤ 4611686018427387904) : wrap64 (i + 1) = i + 1 := by unfold wrap64; omega
theorem bt_get (s : ByteArray) (i : Nat) (h : i < s.data.toList.length) : bt s (i : Int) = (s.data.toList[i].toNat : Int) := by
  unfold bt
  rw [Int.toNat_natCast, dif_pos (by rw [szL]; exact h)]; rfl
theorem bt_zero (s : ByteArray) (i : Nat) (h : i < s.data.toList.length) (c : UInt8) : bt s (i : Int) = (c.toNat : Int) ↔ s.data.toList[i] = c := by
  rw [bt_get s i h]
  constructor
  · intro h; exact UInt8.toNat_inj.1 (by omega)
  · rintro rfl; rfl

/-- Where the first c stands; the end, if there is none. -/
def firstAt (l : List UInt8) (c : UInt8) : Nat := if 0 ≤ Lib.indexByte l c then (Lib.indexByte l c).toNat else l.length
theorem firstAt_le (l : List UInt8) (c : UInt8) : firstAt l c ≤ l.length := by
  unfold firstAt; have := indexByte_lt l c; split <;> omega
theorem firstAt_cons (b : UInt8) (l : List UInt8) (c : UInt8) : firstAt (b :: l) c = if b = c then 0 else firstAt l c + 1 := by
  have hg := Lib.indexByte_ge l c
  have hc : Lib.indexByte (b :: l) c = if (b == c) = true then 0 else if (Lib.indexByte l c == -1) = true then -1 else Lib.indexByte l c + 1 := rfl
  unfold firstAt
  rw [hc]
  by_cases e : b = c
  · subst e; simp
  · have e1 : ¬ (b == c) = true := by simpa using e
    rw [if_neg e, if_neg e1]
    by_cases e2 : (Lib.indexByte l c == -1) = true
    · rw [if_pos e2]; have := beq_iff_eq.1 e2; rw [if_neg (by omega), if_neg (by omega)]; rfl
    · rw [if_neg e2]; have : ¬ Lib.indexByte l c = -1 := fun h => e2 (by simp [h])
      rw [if_pos (by omega), if_pos (by omega)]; omega
theorem aheadOf_first (l : List Int) (c : UInt8) : aheadOf l c = firstAt (Lib.bytesOf l) c := by
  unfold aheadOf firstAt; rw [Lib.bytesOf_length]

theorem zero_loop (s : ByteArray) (hs : s.size ≤ 140737488351232) (d : Nat) : ∀ (k i : Nat), i ≤ s.size → s.size - i = d → d < k → thwartref02_zero.l0 k s (i : Int) = some ((i + firstAt (s.data.toList.drop i) 0 : Nat) : Int) := by
  induction d with
  | zero =>
    intro k i h1 hd hk
    obtain ⟨k, rfl⟩ : ∃ m, k = m + 1 := ⟨k - 1, by omega⟩
    simp only [thwartref02_zero.l0]
    rw [if_neg (by omega), List.drop_of_length_le (by rw [← szL]; omega)]
    have : i = s.size := by omega
    subst this; rfl
  | succ d ih =>
    intro k i h1 hd hk
    obtain ⟨k, rfl⟩ : ∃ m, k = m + 1 := ⟨k - 1, by omega⟩
    have hi : i < s.data.toList.length := by rw [← szL]; omega
    simp only [thwartref02_zero.l0]
    have hz := bt_zero s i hi 0
    rw [show (((0 : UInt8).toNat : Nat) : Int) = 0 from rfl] at hz
    rw [if_pos (by omega), if_pos (by omega), List.drop_eq_getElem_cons hi, firstAt_cons]
    by_cases e : s.data.toList[i] = 0
    · rw [if_pos (hz.2 e), if_pos e]; rfl
    · rw [if_neg (fun h => e (hz.1 h)), if_neg e, wrap_small (by omega) (by omega)]
      have := ih k (i + 1) (by omega) (by omega) (by omega)
      rw [show ((i : Int) + 1) = ((i + 1 : Nat) : Int) by omega, this]
      congr 1; omega
theorem zero_is (s : ByteArray) (hs : s.size ≤ 140737488351232) (k : Nat) (hk : s.size < k) : thwartref02_zero.f k s = some ((firstAt s.data.toList 0 : Nat) : Int) := by
  have := zero_loop s hs s.size k 0 (Nat.zero_le _) (by omega) hk
  simpa [thwartref02_zero.f] using this

theorem refLoose (l : List Int) (hl : l.length ≤ 1000) (k : Nat) (hk : 1005 ≤ k) : thwartref02_Loose.f k l = strf_Loose.f l := by
  unfold thwartref02_Loose.f strf_Loose.f
  have hz : (strOfNums l).size = l.length := strOfNums_size l
  have hd : (strOfNums l).data.toList = Lib.bytesOf l := rfl
  have hle := firstAt_le (Lib.bytesOf l) 0
  rw [Lib.bytesOf_length] at hle
  rw [zero_is _ (by omega) k (by omega), hd]
  simp only [Option.bind_some]
  rw [if_pos (by omega), if_pos (by omega), aheadOf_first, Int.toNat_natCast]
  congr 1
  apply ext_list
  rw [extL, List.drop_zero, Nat.sub_zero, numsL, numsL]
  unfold Lib.bytesOf
  rw [List.map_take]

theorem get_loop (l : List Int) (s : ByteArray) (hl : l.length ≤ 1000) (d : Nat) : ∀ (k i : Nat), i ≤ l.length → l.length - i = d → d < k →
    thwartref02_Get.l0 k l s (i : Int) = if 0 < (skip 0 (l.drop i)).length then some (⟨#[]⟩, 3) else some (s, 0) := by
  induction d with
  | zero =>
    intro k i h1 hd hk
    obtain ⟨k, rfl⟩ : ∃ m, k = m + 1 := ⟨k - 1, by omega⟩
    simp only [thwartref02_Get.l0]
    rw [if_neg (by omega), List.drop_of_length_le (by omega)]; rfl
  | succ d ih =>
    intro k i h1 hd hk
    obtain ⟨k, rfl⟩ : ∃ m, k = m + 1 := ⟨k - 1, by omega⟩
    have hi : i < l.length := by omega
    have hr : rd l (i : Int) = l[i] := by simp [rd, List.getD_eq_getElem?_getD, hi]
    simp only [thwartref02_Get.l0]
    rw [if_pos (by omega), if_pos (by omega), hr, List.drop_eq_getElem_cons hi]
    by_cases e : l[i] = 0
    · rw [if_pos e, show skip 0 (l[i] :: l.drop (i + 1)) = skip 0 (l.drop (i + 1)) by simp [skip, e], Q.wrap_small (by omega) (by omega), show ((i : Int) + 1) = ((i + 1 : Nat) : Int) by omega]
      exact ih k (i + 1) (by omega) (by omega) (by omega)
    · rw [if_neg e, show skip 0 (l[i] :: l.drop (i + 1)) = l[i] :: l.drop (i + 1) by simp [skip, e], if_pos (by simp only [List.length_cons]; omega)]

theorem refGet (l : List Int) (hl : l.length ≤ 1000) (k : Nat) (hk : 1005 ≤ k) : thwartref02_Get.f k l = strf_Get.f l := by
  unfold thwartref02_Get.f
  rw [refLoose l hl k hk]
  have hle := aheadOf_le l 0
  have hz : (strOfNums (l.take (aheadOf l 0))).size = aheadOf l 0 := by rw [Hand.strOfNums_size, List.length_take]; omega
  simp only [strf_Loose.f, Option.bind_some]
  rw [hz, get_loop l _ hl (l.length - aheadOf l 0) k _ hle rfl (by omega)]
  rfl

theorem put_get (s : ByteArray) (width : Int) (b : List Int) (e : Int) (h : strf_Put.f s width = some (b, e)) (h0 : e = 0) : strf_Get.f b = some (s, 0) ∧ (b.length : Int) = width := by
  unfold strf_Put.f at h
  split at h
  · cases h; cases h0
  split at h
  · cases h; cases h0
  split at h
  · cases h; cases h0
  split at h
  · cases h; cases h0
  rename_i c1 c2 c3 c4
  simp only [Option.some.injEq, Prod.mk.injEq] at h
  obtain ⟨rfl, -⟩ := h
  obtain ⟨n, rfl⟩ : ∃ n : Nat, width = (s.size : Int) + n := ⟨(width - s.size).toNat, by omega⟩
  have hz : (List.replicate ((s.size : Int) + n).toNat (0 : Int)).drop s.size = List.replicate n 0 := by
    rw [List.drop_replicate]; congr 1; omega
  rw [hz]
  have hbl : (bytesOf s).length = s.size := bytesOf_length s
  have hno : (0 : UInt8) ∉ s.data.toList := (index_none _ _).1 (by omega)
  have hb : Lib.bytesOf (bytesOf s ++ List.replicate n 0) = s.data.toList ++ List.replicate n 0 := by
    have := bytes_bytes s
    unfold Lib.bytesOf at this ⊢
    rw [List.map_append, this]; simp
  have ha : aheadOf (bytesOf s ++ List.replicate n 0) 0 = s.size := by
    unfold aheadOf
    rw [hb]
    cases n with
    | zero =>
      rw [List.replicate_zero, List.append_nil, if_neg (by have := (index_none s.data.toList 0).2 hno; omega)]
      simp [hbl]
    | succ n =>
      rw [List.replicate_succ, index_at _ _ _ hno, if_pos (by omega), szL]; simp
  refine ⟨?_, by rw [List.length_append, List.length_replicate, hbl]; omega⟩
  unfold strf_Get.f
  have hsk : ∀ m, skip 0 (List.replicate m 0) = [] := by
    intro m; induction m with
    | zero => rfl
    | succ m ih => rw [List.replicate_succ]; simp [skip, ih]
  rw [ha, List.drop_left' hbl, List.take_left' hbl, hsk, nums_bytes]
  rfl

end Go.Proofs.YthjljkdiglpbaaaDoor.Q

-- QLay
/- Plain facts on headers: what head.Lay lays, head.Parse reads. -/
namespace Go.Proofs.YthjljkdiglpbaaaDoor.Q7
open Go.RowKit Go.Proofs.YthjljkdiglpbaaaDoor.P Go.Proofs.YthjljkdiglpbaaaDoor.Hand Go.Proofs.YthjljkdiglpbaaaDoorW.PrintWords Go.Proofs.YthjljkdiglpbaaaDoorW.PrintLast Go.Proofs.YthjljkdiglpbaaaDoorW.PrintMore
set_option linter.unusedVariables false
set_option linter.unusedSimpArgs false
open Q6 (Laid I64)
open Q4 (Byts)

theorem cut_get (l : List Int) (a b j : Nat) : (cutAt l a b)[j]? = if a + j < b then l[a + j]? else none := by
  unfold cutAt
  rw [List.getElem?_drop, List.getElem?_take]
theorem splice_get (L cs : List Int) (off j : Nat) (h : off + cs.length ≤ L.length) : (splice L off cs)[j]? = if off ≤ j ∧ j < off + cs.length then cs[j - off]? else L[j]? := by
  have ht : (L.take off).length = off := by rw [List.length_take]; omega
  unfold splice
  rw [List.getElem?_append, ht]
  by_cases h1 : j < off
  · rw [if_pos h1, if_neg (by omega), List.getElem?_take, if_pos h1]
  rw [if_neg h1, List.getElem?_append]
  by_cases h2 : j < off + cs.length
  · rw [if_pos (by omega), if_pos (by omega)]
  · rw [if_neg (by omega), if_neg (by omega), List.getElem?_drop]
    congr 1; omega
theorem rd_get (l : List Int) (i : Nat) : rd l (i : Int) = (l[i]?).getD 0 := by
  unfold rd; rw [Int.toNat_natCast, List.getD_eq_getElem?_getD]
/-- A piece put into a block. -/
theorem step (L : List Int) (off : Nat) (cs : List Int) (m : Nat) (hL : L.length = 512) (hB : Byts L) (hm : off + cs.length = m) (h5 : m ≤ 512) (hc : Byts cs) :
    ∃ L', splice L off cs = L' ∧ L'.length = 512 ∧ Byts L' ∧ (∀ a b, (b ≤ off ∨ m ≤ a) → cutAt L' a b = cutAt L a b) ∧ cutAt L' off m = cs ∧ (∀ i : Nat, (i < off ∨ m ≤ i) → rd L' i = rd L i) := by
  subst hm
  refine ⟨_, rfl, ?_, ?_, ?_, ?_, ?_⟩
  · rw [length_splice _ _ _ (by omega), hL]
  · intro x hx
    unfold splice at hx
    rcases List.mem_append.1 hx with hx | hx
    · exact hB x (List.mem_of_mem_take hx)
    rcases List.mem_append.1 hx with hx | hx
    · exact hc x hx
    · exact hB x (List.mem_of_mem_drop hx)
  · intro a b hab
    apply List.ext_getElem?
    intro j
    rw [cut_get, cut_get, splice_get _ _ _ _ (by omega)]
    by_cases hj : a + j < b
    · rw [if_pos hj, if_pos hj, if_neg (by omega)]
    · rw [if_neg hj, if_neg hj]
  · apply List.ext_getElem?
    intro j
    rw [cut_get, splice_get _ _ _ _ (by omega)]
    by_cases hj : j < cs.length
    · rw [if_pos (by omega), if_pos (by omega)]; congr 1; omega
    · rw [if_neg (by omega), List.getElem?_eq_none (by omega)]
  · intro i hi
    rw [rd_get, rd_get, splice_get _ _ _ _ (by omega), if_neg (by omega)]
theorem step_set (L : List Int) (x : Int) (hL : L.length = 512) (hB : Byts L) (hx : 0 ≤ x ∧ x < 256) :
    ∃ L', L.set 156 x = L' ∧ L'.length = 512 ∧ Byts L' ∧ (∀ a b, (b ≤ 156 ∨ 157 ≤ a) → cutAt L' a b = cutAt L a b) ∧ rd L' 156 = x := by
  refine ⟨_, rfl, ?_, ?_, ?_, ?_⟩
  · rw [List.length_set, hL]
  · intro y hy
    rcases List.mem_or_eq_of_mem_set hy with hy | rfl
    · exact hB y hy
    · exact hx
  · intro a b hab
    apply List.ext_getElem?
    intro j
    rw [cut_get, cut_get]
    by_cases hj : a + j < b
    · rw [if_pos hj, if_pos hj, List.getElem?_set_ne (by omega)]
    · rw [if_neg hj, if_neg hj]
  · rw [show (156 : Int) = ((156 : Nat) : Int) from rfl, rd_get, List.getElem?_set_self (by omega)]; rfl
theorem P_splice (l : List Int) : Q3.P l = splice l 148 (Q3.dig (Q3.S l) ++ [0, 32]) := by
  unfold Q3.P splice; rw [List.append_assoc]; rfl

theorem bytesOf_byts (s : ByteArray) : Byts (bytesOf s) := by
  intro x hx
  obtain ⟨b, _, rfl⟩ := List.mem_map.1 hx
  have := b.toNat_lt
  omega
def LaidS (s : ByteArray) (w : Nat) (p : List Int × Int) : Prop := (p.2 = 0 ∧ p.1.length = w ∧ Byts p.1 ∧ strf_Get.f p.1 = some (s, 0)) ∨ (p.2 ≠ 0 ∧ p.1 = [])
theorem strPut_laid (s : ByteArray) (w : Nat) : ∃ p, strf_Put.f s (w : Int) = some p ∧ LaidS s w p := by
  have : ∃ p, strf_Put.f s (w : Int) = some p ∧ ((p.2 = 0 ∧ Byts p.1) ∨ (p.2 ≠ 0 ∧ p.1 = [])) := by
    unfold strf_Put.f
    split
    · exact ⟨_, rfl, .inr ⟨by decide, rfl⟩⟩
    split
    · exact ⟨_, rfl, .inr ⟨by decide, rfl⟩⟩
    split
    · exact ⟨_, rfl, .inr ⟨by decide, rfl⟩⟩
    split
    · exact ⟨_, rfl, .inr ⟨by decide, rfl⟩⟩
    refine ⟨_, rfl, .inl ⟨rfl, ?_⟩⟩
    intro x hx
    rcases List.mem_append.1 hx with hx | hx
    · exact bytesOf_byts s x hx
    · have := List.eq_of_mem_replicate (List.mem_of_mem_drop hx)
      omega
  obtain ⟨⟨b, e⟩, hp, h⟩ := this
  refine ⟨_, hp, ?_⟩
  rcases h with ⟨h0, hb⟩ | h
  · obtain ⟨g, hl⟩ := Q.put_get s w b e hp h0
    exact .inl ⟨h0, Int.ofNat.inj hl, hb, g⟩
  · exact .inr h
theorem firstE_zero (a b : Int) : firstE a b = 0 ↔ a = 0 ∧ b = 0 := by
  unfold firstE; split
  · rename_i h; exact ⟨fun e => ⟨h, e⟩, fun e => e.2⟩
  · rename_i h; exact ⟨fun e => absurd e h, fun e => e.1⟩
theorem lay_ok (L : List Int) (a : Nat) (b : List Int) : layStep (0, L) a (b, 0) = (0, splice L a b) := by
  unfold layStep firstE; simp
theorem lay_zero (st : Int × List Int) (a : Nat) (p : List Int × Int) : (layStep st a p).1 = 0 ↔ st.1 = 0 ∧ p.2 = 0 := firstE_zero _ _
theorem numPut_laid (n : Int) (w : Nat) (hw : w = 8 ∨ w = 12) (h : I64 n) (k : Nat) (hk : 100 ≤ k) : ∃ p, numf_Put.f k n (w : Int) = some p ∧ Laid n w p := by
  rcases hw with rfl | rfl
  · obtain ⟨p, h1, h2⟩ := Q6.put8 n h; exact ⟨p, Q6.put_up n 8 p h1 k hk, h2⟩
  · obtain ⟨p, h1, h2⟩ := Q6.put12 n h; exact ⟨p, Q6.put_up n 12 p h1 k hk, h2⟩
theorem fit (at_ : Nat) (w : Nat) (p : List Int × Int) (h : at_ + w ≤ 512) (hp : p.1.length = w ∨ p.1 = []) : fitsB at_ p := by
  show at_ + p.1.length ≤ 512
  rcases hp with hp | hp
  · omega
  · rw [hp]; simp only [List.length_nil]; omega
theorem lenN {n : Int} {w : Nat} {p : List Int × Int} (h : Laid n w p) : p.1.length = w ∨ p.1 = [] := by
  rcases h with h | h
  · exact .inl h.2.1
  · exact .inr h.2
theorem lenS {n : ByteArray} {w : Nat} {p : List Int × Int} (h : LaidS n w p) : p.1.length = w ∨ p.1 = [] := by
  rcases h with h | h
  · exact .inl h.2.1
  · exact .inr h.2
theorem getN {n : Int} {w : Nat} {b : List Int} (h : Laid n w (b, 0)) : b.length = w ∧ Byts b ∧ numf_Get.f b = some (n, 0) := by
  rcases h with h | h
  · exact h.2
  · exact absurd rfl h.1
theorem getS {n : ByteArray} {w : Nat} {b : List Int} (h : LaidS n w (b, 0)) : b.length = w ∧ Byts b ∧ strf_Get.f b = some (n, 0) := by
  rcases h with h | h
  · exact h.2
  · exact absurd rfl h.1
theorem isType_some (x : Int) : ∃ b, head_IsType.f x = some b := by
  unfold head_IsType.f
  repeat (split; exact ⟨_, rfl⟩)
  exact ⟨_, rfl⟩
theorem isType_no (x : Int) (h : head_IsType.f x = some true) : x ≠ 0 := by
  rintro rfl
  exact absurd h (by decide)
theorem prefix_take (xs ys : List UInt8) (h : xs.take ys.length = ys) : Lib.hasPrefix xs ys = true := by
  show ys.isPrefixOf xs = true
  rw [List.isPrefixOf_iff_prefix]
  refine ⟨xs.drop ys.length, ?_⟩
  have := List.take_append_drop ys.length xs
  rw [h] at this; exact this
theorem magic_is (l : List Int) (h : cutAt l 257 265 = magicI) : Lib.hasPrefix (Lib.bytesOf (l.drop 257)) magicL = true := by
  apply prefix_take
  have e : (Lib.bytesOf (l.drop 257)).take magicL.length = Lib.bytesOf (cutAt l 257 265) := by
    unfold Lib.bytesOf cutAt
    rw [← List.map_take, List.drop_take]; rfl
  rw [e, h]; rfl
theorem zeros_byts : Byts zeros512 := by
  intro x hx
  have := List.eq_of_mem_replicate hx
  omega

/-- What is laid is read. -/
theorem lay_parse (p n q : ByteArray) (m u g t s y : Int) (hm : I64 m) (hu : I64 u) (hg : I64 g) (ht : I64 t) (hs : I64 s) (hy : 0 ≤ y ∧ y < 256) (k : Nat) (hk : 700 ≤ k) :
    ∃ b e, head_Lay.f k p n m u g t s y q = some (b, e) ∧ ((e = 0 ∧ head_Parse.f k b = some (p, n, m, u, g, t, s, y, q, 0)) ∨ (e ≠ 0 ∧ b = [])) := by
  unfold head_Lay.f
  obtain ⟨ty, hty⟩ := isType_some y
  rw [hty, Option.bind_some]
  cases ty
  · exact ⟨_, _, rfl, .inr ⟨by decide, rfl⟩⟩
  rw [if_pos rfl]
  obtain ⟨⟨b0, e0⟩, h0, d0⟩ := strPut_laid p 155
  obtain ⟨⟨b1, e1⟩, h1, d1⟩ := strPut_laid n 100
  obtain ⟨⟨b2, e2⟩, h2, d2⟩ := strPut_laid q 100
  obtain ⟨⟨b3, e3⟩, h3, d3⟩ := numPut_laid m 8 (.inl rfl) hm k (by omega)
  obtain ⟨⟨b4, e4⟩, h4, d4⟩ := numPut_laid u 8 (.inl rfl) hu k (by omega)
  obtain ⟨⟨b5, e5⟩, h5, d5⟩ := numPut_laid g 8 (.inl rfl) hg k (by omega)
  obtain ⟨⟨b6, e6⟩, h6, d6⟩ := numPut_laid s 12 (.inr rfl) hs k (by omega)
  obtain ⟨⟨b7, e7⟩, h7, d7⟩ := numPut_laid t 12 (.inr rfl) ht k (by omega)
  obtain ⟨⟨b8, e8⟩, h8, d8⟩ := numPut_laid 0 8 (.inl rfl) (by unfold I64; omega) k (by omega)
  have hfit : fitsB 345 (b0, e0) ∧ fitsB 0 (b1, e1) ∧ fitsB 157 (b2, e2) ∧ fitsB 100 (b3, e3) ∧ fitsB 108 (b4, e4) ∧ fitsB 116 (b5, e5) ∧ fitsB 124 (b6, e6) ∧ fitsB 136 (b7, e7) ∧ fitsB 329 (b8, e8) ∧ fitsB 337 (b8, e8) :=
    ⟨fit 345 155 _ (by omega) (lenS d0), fit 0 100 _ (by omega) (lenS d1), fit 157 100 _ (by omega) (lenS d2), fit 100 8 _ (by omega) (lenN d3), fit 108 8 _ (by omega) (lenN d4), fit 116 8 _ (by omega) (lenN d5), fit 124 12 _ (by omega) (lenN d6), fit 136 12 _ (by omega) (lenN d7), fit 329 8 _ (by omega) (lenN d8), fit 337 8 _ (by omega) (lenN d8)⟩
  unfold head_fieldsL
  rw [show strf_Put.f p 155 = _ from h0, show strf_Put.f n 100 = _ from h1, show strf_Put.f q 100 = _ from h2, show numf_Put.f k m 8 = _ from h3, show numf_Put.f k u 8 = _ from h4, show numf_Put.f k g 8 = _ from h5, show numf_Put.f k s 12 = _ from h6, show numf_Put.f k t 12 = _ from h7, show numf_Put.f k 0 8 = _ from h8]
  simp only [Option.bind_some]
  rw [if_pos hfit, Option.bind_some]
  by_cases hz : (layStep (layStep (layStep (layStep (layStep (layStep (layStep (layStep (layStep (layStep (0, zeros512) 345 (b0, e0)) 0 (b1, e1)) 157 (b2, e2)) 100 (b3, e3)) 108 (b4, e4)) 116 (b5, e5)) 124 (b6, e6)) 136 (b7, e7)) 329 (b8, e8)) 337 (b8, e8)).1 = 0
  case neg => rw [if_neg hz]; exact ⟨_, _, rfl, .inr ⟨hz, rfl⟩⟩
  rw [if_pos hz]
  simp only [lay_zero] at hz
  obtain ⟨⟨⟨⟨⟨⟨⟨⟨⟨⟨-, rfl⟩, rfl⟩, rfl⟩, rfl⟩, rfl⟩, rfl⟩, rfl⟩, rfl⟩, rfl⟩, -⟩ := hz
  simp only [lay_ok]
  simp only [head_below.f, Option.bind_some]
  by_cases hbel : decide (mn (mn (mn m u) g) s < 0) = true
  · rw [if_pos hbel]; exact ⟨_, _, rfl, .inr ⟨by decide, rfl⟩⟩
  rw [if_neg hbel]
  obtain ⟨l0, y0, g0⟩ := getS d0
  obtain ⟨l1, y1, g1⟩ := getS d1
  obtain ⟨l2, y2, g2⟩ := getS d2
  obtain ⟨l3, y3, g3⟩ := getN d3
  obtain ⟨l4, y4, g4⟩ := getN d4
  obtain ⟨l5, y5, g5⟩ := getN d5
  obtain ⟨l6, y6, g6⟩ := getN d6
  obtain ⟨l7, y7, g7⟩ := getN d7
  obtain ⟨l8, y8, g8⟩ := getN d8
  obtain ⟨L0, s0, n0, z0, o0, i0, -⟩ := step zeros512 345 b0 500 (by unfold zeros512; rw [List.length_replicate]) zeros_byts (by omega) (by omega) y0
  rw [s0]
  obtain ⟨L1, s1, n1, z1, o1, i1, -⟩ := step L0 0 b1 100 n0 z0 (by omega) (by omega) y1
  rw [s1]
  obtain ⟨L2, s2, n2, z2, o2, i2, -⟩ := step L1 157 b2 257 n1 z1 (by omega) (by omega) y2
  rw [s2]
  obtain ⟨L3, s3, n3, z3, o3, i3, -⟩ := step L2 100 b3 108 n2 z2 (by omega) (by omega) y3
  rw [s3]
  obtain ⟨L4, s4, n4, z4, o4, i4, -⟩ := step L3 108 b4 116 n3 z3 (by omega) (by omega) y4
  rw [s4]
  obtain ⟨L5, s5, n5, z5, o5, i5, -⟩ := step L4 116 b5 124 n4 z4 (by omega) (by omega) y5
  rw [s5]
  obtain ⟨L6, s6, n6, z6, o6, i6, -⟩ := step L5 124 b6 136 n5 z5 (by omega) (by omega) y6
  rw [s6]
  obtain ⟨L7, s7, n7, z7, o7, i7, -⟩ := step L6 136 b7 148 n6 z6 (by omega) (by omega) y7
  rw [s7]
  obtain ⟨L8, s8, n8, z8, o8, i8, -⟩ := step L7 329 b8 337 n7 z7 (by omega) (by omega) y8
  rw [s8]
  obtain ⟨L9, s9, n9, z9, o9, i9, -⟩ := step L8 337 b8 345 n8 z8 (by omega) (by omega) y8
  rw [s9]
  obtain ⟨LA, sA, nA, zA, oA, rA⟩ := step_set L9 y n9 z9 hy
  rw [sA]
  obtain ⟨X, sX, nX, zX, oX, iX, rX⟩ := step LA 257 magicI 265 nA zA rfl (by omega) (by intro x hx; simp only [magicI, List.mem_cons, List.not_mem_nil, or_false] at hx; omega)
  rw [sX, Q3.put_is X nX zX]
  have hr := Q3.S_range X nX zX
  have hd : Byts (Q3.dig (Q3.S X) ++ [0, 32]) := by
    intro x hx
    rcases List.mem_append.1 hx with hx | hx
    · have := Q3.dig_bytes _ x hx; omega
    · simp only [List.mem_cons, List.not_mem_nil, or_false] at hx; omega
  obtain ⟨B, sB, nB, zB, oB, iB, rB⟩ := step X 148 (Q3.dig (Q3.S X) ++ [0, 32]) 156 nX zX rfl (by omega) hd
  have hP : Q3.P X = B := (P_splice X).trans sB
  have hSB : Q3.S B = Q3.S X := by rw [← hP]; exact Q3.S_P X nX
  rw [hP]
  refine ⟨_, _, rfl, .inl ⟨rfl, ?_⟩⟩
  have c0 : cutAt B 345 500 = b0 := by rw [oB _ _ (by omega), oX _ _ (by omega), oA _ _ (by omega), o9 _ _ (by omega), o8 _ _ (by omega), o7 _ _ (by omega), o6 _ _ (by omega), o5 _ _ (by omega), o4 _ _ (by omega), o3 _ _ (by omega), o2 _ _ (by omega), o1 _ _ (by omega), i0]
  have c1 : cutAt B 0 100 = b1 := by rw [oB _ _ (by omega), oX _ _ (by omega), oA _ _ (by omega), o9 _ _ (by omega), o8 _ _ (by omega), o7 _ _ (by omega), o6 _ _ (by omega), o5 _ _ (by omega), o4 _ _ (by omega), o3 _ _ (by omega), o2 _ _ (by omega), i1]
  have c2 : cutAt B 157 257 = b2 := by rw [oB _ _ (by omega), oX _ _ (by omega), oA _ _ (by omega), o9 _ _ (by omega), o8 _ _ (by omega), o7 _ _ (by omega), o6 _ _ (by omega), o5 _ _ (by omega), o4 _ _ (by omega), o3 _ _ (by omega), i2]
  have c3 : cutAt B 100 108 = b3 := by rw [oB _ _ (by omega), oX _ _ (by omega), oA _ _ (by omega), o9 _ _ (by omega), o8 _ _ (by omega), o7 _ _ (by omega), o6 _ _ (by omega), o5 _ _ (by omega), o4 _ _ (by omega), i3]
  have c4 : cutAt B 108 116 = b4 := by rw [oB _ _ (by omega), oX _ _ (by omega), oA _ _ (by omega), o9 _ _ (by omega), o8 _ _ (by omega), o7 _ _ (by omega), o6 _ _ (by omega), o5 _ _ (by omega), i4]
  have c5 : cutAt B 116 124 = b5 := by rw [oB _ _ (by omega), oX _ _ (by omega), oA _ _ (by omega), o9 _ _ (by omega), o8 _ _ (by omega), o7 _ _ (by omega), o6 _ _ (by omega), i5]
  have c6 : cutAt B 124 136 = b6 := by rw [oB _ _ (by omega), oX _ _ (by omega), oA _ _ (by omega), o9 _ _ (by omega), o8 _ _ (by omega), o7 _ _ (by omega), i6]
  have c7 : cutAt B 136 148 = b7 := by rw [oB _ _ (by omega), oX _ _ (by omega), oA _ _ (by omega), o9 _ _ (by omega), o8 _ _ (by omega), i7]
  have cM : cutAt B 257 265 = magicI := by rw [oB _ _ (by omega), iX]
  have cT : rd B 156 = y := by
    have e1 := rB 156 (by omega)
    have e2 := rX 156 (by omega)
    exact e1.trans (e2.trans rA)
  have hT : typeOf B = y := by unfold typeOf; rw [cT, if_neg (isType_no y hty)]
  unfold head_Parse.f
  rw [Q3.check_is B (Q3.S X) nB zB (show (B.take 156).drop 148 = _ from iB) (by omega) (by omega) k (by omega), if_pos hSB, Option.bind_some, if_pos rfl, if_pos nB, if_pos (magic_is B cM)]
  unfold head_fields
  rw [c0, c1, c2, c3, c4, c5, c6, c7, g0, g1, g2, g3, g4, g5, g6, g7, hT]
  have fz : ∀ a, firstE 0 a = a := fun a => if_pos rfl
  simp only [Option.bind_some, fz, hty, if_true, head_below.f]
  rw [if_neg hbel]
end Go.Proofs.YthjljkdiglpbaaaDoor.Q7

-- PureHeadBack
/- The pure statement of HeadBack: what is laid is read, with any numbers that fit; two headers are the same just if all is. For every input. -/
namespace Go.Proofs.YthjljkdiglpbaaaDoor.Pure
open Go.RowKit Go.Proofs.YthjljkdiglpbaaaDoor.P Go.Proofs.YthjljkdiglpbaaaDoor.Hand Go.Proofs.YthjljkdiglpbaaaDoorW.PrintWords Go.Proofs.YthjljkdiglpbaaaDoorW.PrintLast
set_option linter.unusedVariables false
set_option linter.unusedSimpArgs false

theorem u8_okB (x : Int) (h : (Lit.int .u8 x).wf = true) : 0 ≤ x ∧ x < 256 := by
  simp [Lit.wf] at h
  have h1 : IntKind.u8.min = 0 := by decide +kernel
  have h2 : IntKind.u8.max = 255 := by decide +kernel
  omega
theorem i64_okB (x : Int) (h : (Lit.int .i64 x).wf = true) : Q6.I64 x := by
  simp [Lit.wf] at h
  have h1 : IntKind.i64.min = -9223372036854775808 := by decide +kernel
  have h2 : IntKind.i64.max = 9223372036854775807 := by decide +kernel
  unfold Q6.I64
  omega
theorem aliveB (k : Nat) (hk : 2000 ≤ k) : thwartlaw05_alive.f k = some true := by
  obtain ⟨d, rfl⟩ : ∃ d, k = 2000 + d := ⟨k - 2000, by omega⟩
  clear hk
  induction d with
  | zero => decide +kernel
  | succ d ih => exact thwartlaw05_alive.mono (2000 + d) true ih
theorem far_some (p n : ByteArray) (m u g t s y : Int) (q : ByteArray) : ∃ b, thwartlaw05_far.f p n m u g t s y q = some b := by
  unfold thwartlaw05_far.f
  split
  · exact ⟨_, rfl⟩
  split
  · exact ⟨_, rfl⟩
  exact ⟨_, rfl⟩
theorem HeadBack : P.thwartlaw05_HeadBack.Pure := by
  intro p n m u g t s y q p' n' m' u' g' t' s' y' q' _ _ hm hu hg ht hs hy _ _ _ _ _ _ _ _ _ _
  refine ⟨3001, ?_⟩
  unfold thwartlaw05_HeadBack.f
  have far : ∀ k p n m u g t s y q p' n' m' u' g' t' s' y' q', 2000 ≤ k → thwartlaw05_HeadBack.j0 (k + 1) true p n m u g t s y q p' n' m' u' g' t' s' y' q' = some true := by
    intro k p n m u g t s y q p' n' m' u' g' t' s' y' q' hk
    rw [thwartlaw05_HeadBack.j0, if_pos rfl, aliveB k hk]; rfl
  obtain ⟨b1, f1⟩ := far_some p n m u g t s y q
  obtain ⟨b2, f2⟩ := far_some p' n' m' u' g' t' s' y' q'
  rw [f1, Option.bind_some]
  cases b1
  case true => rw [if_pos rfl]; exact far 3000 _ _ _ _ _ _ _ _ _ _ _ _ _ _ _ _ _ _ (by omega)
  rw [if_neg (by decide), f2, Option.bind_some]
  cases b2
  case true => exact far 3000 _ _ _ _ _ _ _ _ _ _ _ _ _ _ _ _ _ _ (by omega)
  obtain ⟨b, e, hl, hr⟩ := Q7.lay_parse p n q m u g t s y (i64_okB m hm) (i64_okB u hu) (i64_okB g hg) (i64_okB t ht) (i64_okB s hs) (u8_okB y hy) 3000 (by omega)
  rw [thwartlaw05_HeadBack.j0, if_neg (by decide)]
  simp only [thwartlaw05_theirs.f, head_Same.f, Option.bind_some, bne_self_eq_false, Bool.false_eq_true, if_false, hl]
  rcases hr with ⟨rfl, hp⟩ | ⟨he, rfl⟩
  · rw [if_pos rfl, hp]
    simp only [Option.bind_some, beq_self_eq_true, Bool.and_self, if_true, aliveB 3000 (by omega)]
  · rw [if_neg he]
    simp only [List.length_nil, Option.bind_some, aliveB 3000 (by omega)]
    rfl
end Go.Proofs.YthjljkdiglpbaaaDoor.Pure

-- HOpen
/- What came in, opened by its type: whatever a kind of the printed words tells (numbers, texts, structs, slices of these, one in the other). No function of the program occurs. -/
namespace Go.Proofs.YthjljkdiglpbaaaDoor.Open
open Go Go.ChangeShapes Go.WideShapes Go.Deep Go.Proofs.YthjljkdiglpbaaaDoorW.PrintWords
set_option linter.unusedVariables false
set_option linter.unusedSimpArgs false

structure Opens {α : Type} (P : Program) (d : Kd α) (t : TypeId) (Wf : α → Prop) : Prop where
  sz : P.cellsOf t = d.sz
  go : ∀ {H : Type} {enc : TypeId × Value → H} {w : World} {base : Nat} {spare : Nat → Bool} {held : Bool} {fuel : Nat} {cs : List Value} {x : DataW H × List MemPlace},
    DataW.trod enc P w base spare held fuel t cs = some x → ∃ a, d.K w a cs ∧ Wf a
theorem int {P : Program} {k : IntKind} {t : TypeId} (ht : P.underlying t = some (.int k)) (hs : P.cellsOf t = 1) : Opens P (Kd.int k) t (fun n => (Lit.int k n).wf = true) :=
  ⟨hs, fun h => by
    obtain ⟨n, rfl, _, hw⟩ := DataW.trod_int ht h
    exact ⟨n, rfl, hw⟩⟩
theorem bool {P : Program} {t : TypeId} (ht : P.underlying t = some .bool) (hs : P.cellsOf t = 1) : Opens P Kd.bool t (fun _ => True) :=
  ⟨hs, fun h => by
    obtain ⟨n, rfl, _⟩ := DataW.trod_bool ht h
    exact ⟨n, rfl, trivial⟩⟩
theorem string {P : Program} {t : TypeId} (ht : P.underlying t = some .string) (hs : P.cellsOf t = 1) : Opens P Kd.string t (fun s => s.size ≤ 9223372036854775807) :=
  ⟨hs, fun h => by
    obtain ⟨n, rfl, _, hw⟩ := DataW.trod_string ht h
    exact ⟨n, rfl, hw⟩⟩
/-- A list of choices, one an index. -/
theorem choices {α : Type} (n : Nat) (p : Nat → α → Prop) (h : ∀ i, i < n → ∃ a, p i a) : ∃ l : List α, l.length = n ∧ ∀ i a, l[i]? = some a → p i a := by
  induction n with
  | zero => exact ⟨[], rfl, fun i a hi => by simp at hi⟩
  | succ n ih =>
    obtain ⟨l, hl, hp⟩ := ih (fun i hi => h i (by omega))
    obtain ⟨a, ha⟩ := h n (by omega)
    refine ⟨l ++ [a], by simp [hl], fun i b hi => ?_⟩
    rw [List.getElem?_append] at hi
    split at hi
    · exact hp i b hi
    · rename_i hlt
      have : i = n := by
        have := (List.getElem?_eq_some_iff.1 hi).1
        simp at this; omega
      subst this
      rw [hl, Nat.sub_self] at hi
      cases hi
      exact ha
theorem row {α : Type} {P : Program} {d : Kd α} {t e : TypeId} {Wf : α → Prop} (ht : P.underlying t = some (.slice e)) (o : Opens P d e Wf)
    {H : Type} {enc : TypeId × Value → H} {w : World} {base : Nat} {spare : Nat → Bool} {held : Bool} {fuel : Nat} {cs : List Value} {x : DataW H × List MemPlace} (h : DataW.trod enc P w base spare held fuel t cs = some x) :
    ∃ (A : Option Addr) (c : Nat) (l : List α), cs = [.slice A l.length c] ∧ l.length ≤ c ∧ l.length ≤ 9223372036854775807 ∧ Kd.C d w A l.length l ∧ ∀ a ∈ l, Wf a := by
  rcases open_slice ht h with ⟨rfl, _⟩ | ⟨a, len, cap, m, n, D, Pl, rfl, _, hl, hm, hmm, _, hi⟩
  · exact ⟨none, 0, [], rfl, Nat.le_refl _, by simp, ⟨rfl, by simp, fun h => absurd h (by simp)⟩, by simp⟩
  · have hlm : len ≤ m := by rw [hmm]; split <;> omega
    have hm' : cap ≤ 9223372036854775807 := hm
    obtain ⟨l, hll, hp⟩ := choices len (fun i (b : α) => (∃ c, c.length = d.sz ∧ d.K w b c ∧ ∀ j u, c[j]? = some u → w.cell? (a.add (i * d.sz + j)) = some u) ∧ Wf b) (fun i hil => by
      obtain ⟨cs', hc, ht'⟩ := hi i (by omega)
      obtain ⟨b, hK, hW⟩ := o.go ht'
      rw [o.sz] at hc
      obtain ⟨_, hcl, hat⟩ := World.cells?_some hc
      refine ⟨b, ⟨cs', hcl, hK, fun j u hj => ?_⟩, hW⟩
      have hjl : j < d.sz := by rw [← hcl]; exact (List.getElem?_eq_some_iff.1 hj).1
      rw [← Go.Deep.add_add, hat j hjl, hj])
    refine ⟨some a, cap, l, by rw [hll], by omega, by omega, ⟨rfl, by omega, fun _ => ⟨a, rfl, fun j p hj => (hp j p hj).1⟩⟩, fun b hb => ?_⟩
    obtain ⟨i, hi'⟩ := List.getElem?_of_mem hb
    exact (hp i b hi').2
theorem slice {α : Type} {P : Program} {d : Kd α} {t e : TypeId} {Wf : α → Prop} (ht : P.underlying t = some (.slice e)) (hs : P.cellsOf t = 1) (o : Opens P d e Wf) : Opens P (Kd.slice e d) t (fun l => l.length ≤ 9223372036854775807 ∧ ∀ a ∈ l, Wf a) :=
  ⟨hs, fun h => by
    obtain ⟨A, c, l, rfl, hl, hm, hC, hW⟩ := row ht o h
    exact ⟨l, ⟨A, c, rfl, hl, hC⟩, hm, hW⟩⟩
/-- A part of a struct's fields, that begins at a cell. -/
def Part {α : Type} (P : Program) (d : Kd α) (off : Nat) (fs : List Field) (Wf : α → Prop) : Prop :=
  ∀ {H : Type} {enc : TypeId × Value → H} {w : World} {base : Nat} {spare : Nat → Bool} {held : Bool} {n : Nat} {cs : List Value},
    (∀ f ∈ fs, ∃ y, DataW.trod enc P w base spare held n f.type ((cs.drop f.offset).take (P.cellsOf f.type)) = some y) → ∃ a, d.K w a ((cs.drop off).take d.sz) ∧ Wf a
theorem part_one {α : Type} {P : Program} {d : Kd α} {off : Nat} {f : Field} {Wf : α → Prop} (o : Opens P d f.type Wf) (ho : f.offset = off) : Part P d off [f] Wf := by
  intro H enc w base spare held n cs h
  obtain ⟨y, hy⟩ := h f (by simp)
  rw [ho, o.sz] at hy
  exact o.go hy
theorem part_pair {α β : Type} {P : Program} {a : Kd α} {b : Kd β} {off : Nat} {fs gs : List Field} {Wa : α → Prop} {Wb : β → Prop} (ha : Part P a off fs Wa) (hb : Part P b (off + a.sz) gs Wb) :
    Part P (Kd.pair a b) off (fs ++ gs) (fun x => Wa x.1 ∧ Wb x.2) := by
  intro H enc w base spare held n cs h
  obtain ⟨x, hx, wx⟩ := ha (fun f hf => h f (List.mem_append_left _ hf))
  obtain ⟨y, hy, wy⟩ := hb (fun f hf => h f (List.mem_append_right _ hf))
  refine ⟨(x, y), ⟨_, _, ?_, hx, hy⟩, wx, wy⟩
  show (cs.drop off).take (a.sz + b.sz) = _
  rw [List.take_add, List.drop_drop]
theorem struct {α : Type} {P : Program} {d : Kd α} {t : TypeId} {fs : Array Field} {Wf : α → Prop} (ht : P.underlying t = some (.struct fs)) (hs : P.cellsOf t = d.sz) (p : Part P d 0 fs.toList Wf) : Opens P d t Wf :=
  ⟨hs, fun {H enc w base spare held fuel cs x} h => by
    obtain ⟨xs, n, _, _, hlen, hxl, hf⟩ := DataW.trod_struct ht h
    obtain ⟨a, hK, hW⟩ := p (enc := enc) (w := w) (base := base) (spare := spare) (held := held) (n := n) (cs := cs) (fun f hm => by
      obtain ⟨i, hi⟩ := List.getElem?_of_mem hm
      have hi' : fs[i]? = some f := by rw [← Array.getElem?_toList]; exact hi
      have hil : i < xs.length := by rw [hxl]; exact (Array.getElem?_eq_some_iff.1 hi').1
      exact ⟨xs[i], by rw [hf i f hi', List.getElem?_eq_getElem hil]⟩)
    rw [List.drop_zero, List.take_of_length_le (by omega)] at hK
    exact ⟨a, hK, hW⟩⟩
theorem iso {α β : Type} {P : Program} {d : Kd α} {t : TypeId} {Wf : α → Prop} (o : Opens P d t Wf) (f : β → α) (g : α → β) (h : ∀ x, f (g x) = x) : Opens P (Kd.iso d f) t (fun b => Wf (f b)) :=
  ⟨o.sz, fun h' => by
    obtain ⟨a, hK, hW⟩ := o.go h'
    refine ⟨g a, ?_, by rw [h]; exact hW⟩
    show d.K _ (f (g a)) _
    rw [h]; exact hK⟩
end Go.Proofs.YthjljkdiglpbaaaDoor.Open

-- WSized
-- PRINTED BY print.sh 35421559b90ae4d0a3588c463048766b98c2df88dd9212a6774a882060cdf62d: not written by this session
-- PRINTED WORDS (module Derived/Print/Sized.lean): go-gate-2's, for the rows of laws over slices: an AI agent of Go's test side, Tue Nov 17 2026; no person has read it. Lean checks it.
namespace Go.Proofs.YthjljkdiglpbaaaDoorW.PrintWords
open Go.ChangeShapes Go.WideShapes
/-- A row's slice of whole numbers is no longer than its weight allows. -/
theorem sized_ints {H : Type} {enc : TypeId × Value → H} {P : Program} {W : World} {base : Nat} {spare : Nat → Bool} {held : Bool} {t e : TypeId} {k : IntKind} {a : Option Addr} {len cap : Nat} {d : DataW H} {ps : List MemPlace} {ts : List TypeId} {ds : List (DataW H)} {j : Nat}
    (hsz : (DataW.weightsEach P ts ds).all (· ≤ reachBytes) = true) (ht : ts[j]? = some t) (hd : ds[j]? = some d) (hu : P.underlying t = some (.slice e)) (he : P.underlying e = some (.int k)) (hc : P.cellsOf e = 1) {B : Nat} (hB : P.bytesOf e = B)
    (h : DataW.Trod enc P W base spare held t (.slice a len cap) d ps) : len * B ≤ 140737488351232 := by
  obtain ⟨fuel, hf⟩ := h
  rcases open_ints hu he hc hf with ⟨hcs, _⟩ | ⟨x, l, c, zs, hcs, _, hl, _, hz, hx, _, _⟩
  · simp [Value.cells] at hcs
    obtain ⟨rfl, rfl, rfl⟩ := hcs
    simp
  · simp [Value.cells] at hcs
    obtain ⟨rfl, rfl, rfl⟩ := hcs
    obtain ⟨hx, _⟩ := Prod.mk.inj hx
    subst hx
    have z := sized_slice hsz ht hd hu
    rw [hB] at z
    have hl2 : len ≤ zs.length := by
      rw [hz]
      split
      · exact hl
      · exact Nat.le_refl _
    have h1 : (lits (H := H) k (zs.take len)).length + (lits (H := H) k (zs.drop len)).length = zs.length := by
      simp [lits]
      omega
    rw [h1] at z
    exact Nat.le_trans (Nat.mul_le_mul_right _ hl2) z
end Go.Proofs.YthjljkdiglpbaaaDoorW.PrintWords

-- LawHeadBack
/- The statement of HeadBack for every input, out of its pure statement and the printed walk. -/
namespace Go.Proofs.YthjljkdiglpbaaaDoor.headBack
open Go Go.ChangeShapes Go.WideShapes Go.ChangeAt Go.RowKit Go.Proofs.YthjljkdiglpbaaaDoorW.PrintWords
open Go.ChangeMaps (open_string shut_string)
set_option linter.unusedVariables false
set_option linter.unusedSimpArgs false
theorem own : ownKnob Tryd.prog.godebug = none := by kernel_rfl
theorem laidOut : laidOutB Tryd.prog = true := by kernel_rfl
set_option maxRecDepth 100000 in
theorem lifted (os : Os) (started : os.Started) (H : Type) (enc : TypeId × Value → H) :
    ReturnsInHanded {} Tryd.checked os 7 .any (fun w args => (Rows.headBackSpec.pre enc Tryd.prog Tryd.f7 Rows.headBackRow.domain false w args ∧ laidMetH Tryd.prog Rows.headBackRow.laid w) ∧ sizedMet enc Tryd.prog Tryd.f7 (OpenSpec.ofChange Rows.headBackSpec) false w args) (Rows.headBackSpec.post enc Tryd.prog Tryd.f7 false true false false) := by
  refine returnsInHanded_of_change_and (C := Tryd.checked) (X := (fun w _ => laidMetH Tryd.prog Rows.headBackRow.laid w)) (fun _ _ _ hh h => h.of_heap hh) own started (by kernel_rfl) Tryd.func7
    (ChangeSpec.witness_shaped (enc := enc) (C := Tryd.checked) (os := os) (X := (fun w _ => laidMetH Tryd.prog Rows.headBackRow.laid w)) false (World.laidAll Tryd.prog os Rows.headBackRow.laid) #[.agg #[.string ByteArray.empty, .string ByteArray.empty, .int .i64 0, .int .i64 0, .int .i64 0, .int .i64 0, .int .i64 0, .int .u8 0, .string ByteArray.empty], .agg #[.string ByteArray.empty, .string ByteArray.empty, .int .i64 0, .int .i64 0, .int .i64 0, .int .i64 0, .int .i64 0, .int .u8 0, .string ByteArray.empty]] 8 (World.laidAll_os _ _ _)
      (World.shaped_of_ZipB (by kernel_rfl) (by kernel_rfl)) (by kernel_rfl) (by kernel_rfl) (by kernel_rfl)
      (by rw [MakeChecks.laidMetH_plain _ _ _ (by kernel_rfl)]; exact laidMet_laidAll _ (by kernel_rfl) (by kernel_rfl))) ?_
  intro W base args ds gs before hval0 hW hcnd hsz0 hX _
  have hsz : (DataW.weightsEach Tryd.prog (Tryd.f7.params.toList ++ Rows.headBackSpec.plain.varTypes Tryd.prog) (ds ++ gs)).all (· ≤ reachBytes) = true := hsz0
  have hval : ∀ (j : Nat) t v, Tryd.f7.params[j]? = some t → args[j]? = some v → Value.okWide Tryd.prog W .any base t v := hval0
  have hW' := hW
  obtain ⟨p, q, hA0, hV, rfl, hfz, hnd⟩ := hW
  have hA : DataW.TrodAll enc Tryd.prog W 0 (fun _ => true) true Tryd.f7.params.toList args.toList ds p := hA0
  rw [Tryd.params7] at hA hval hsz
  obtain ⟨v0, vs0, d0, ds0, p0, q0, hargs, rfl, rfl, h0, r0⟩ := trodAll_cons hA
  obtain ⟨v1, vs1, d1, ds1, p1, q1, rfl, rfl, rfl, h1, r1⟩ := trodAll_cons r0
  obtain ⟨rfl, rfl, rfl⟩ := trodAll_nil r1
  obtain rfl : args = #[v0, v1] := by cases args; simp_all
  obtain ⟨rfl, rfl⟩ := trodVars_none hV
  obtain ⟨cs0, rfl, _⟩ := okWide_struct Tryd.underlying62 (hval 0 62 v0 rfl rfl)
  have k0 := h0
  have lt0 : ∀ x ∈ p0, x.block < W.heap.size := by obtain ⟨m, hm⟩ := k0; exact DataW.trod_lt m _ _ _ hm
  obtain ⟨a0_0, a0_1, a0_2, a0_3, a0_4, a0_5, a0_6, a0_7, a0_8, rfl, o0_0, o0_1, o0_2, o0_3, o0_4, o0_5, o0_6, o0_7, o0_8⟩ : ∃ (a0_0 : ByteArray) (a0_1 : ByteArray) (a0_2 : Int) (a0_3 : Int) (a0_4 : Int) (a0_5 : Int) (a0_6 : Int) (a0_7 : Int) (a0_8 : ByteArray), cs0 = #[.string a0_0, .string a0_1, .int .i64 a0_2, .int .i64 a0_3, .int .i64 a0_4, .int .i64 a0_5, .int .i64 a0_6, .int .u8 a0_7, .string a0_8] ∧ (a0_0.size ≤ 9223372036854775807) ∧ (a0_1.size ≤ 9223372036854775807) ∧ ((Lit.int .i64 a0_2).wf = true) ∧ ((Lit.int .i64 a0_3).wf = true) ∧ ((Lit.int .i64 a0_4).wf = true) ∧ ((Lit.int .i64 a0_5).wf = true) ∧ ((Lit.int .i64 a0_6).wf = true) ∧ ((Lit.int .u8 a0_7).wf = true) ∧ (a0_8.size ≤ 9223372036854775807) := by
    obtain ⟨fuel, hf⟩ := h0
    obtain ⟨x, hK, hW⟩ := (Open.struct (d := (Kd.pair Kd.string (Kd.pair Kd.string (Kd.pair (Kd.pair (Kd.int .i64) (Kd.pair (Kd.int .i64) (Kd.pair (Kd.int .i64) (Kd.int .i64)))) (Kd.pair (Kd.int .i64) (Kd.pair (Kd.int .u8) Kd.string)))))) Tryd.underlying62 (by kernel_rfl) (show Open.Part _ _ 0 ([_] ++ ([_] ++ ([_] ++ ([_] ++ ([_] ++ ([_])))))) _ from (Open.part_pair (Open.part_one (Open.string Tryd.underlying9 (by kernel_rfl)) rfl) (Open.part_pair (Open.part_one (Open.string Tryd.underlying9 (by kernel_rfl)) rfl) (Open.part_pair (Open.part_one (Open.struct (d := (Kd.pair (Kd.int .i64) (Kd.pair (Kd.int .i64) (Kd.pair (Kd.int .i64) (Kd.int .i64))))) Tryd.underlying60 (by kernel_rfl) (show Open.Part _ _ 0 ([_] ++ ([_] ++ ([_] ++ ([_])))) _ from (Open.part_pair (Open.part_one (Open.int Tryd.underlying2 (by kernel_rfl)) rfl) (Open.part_pair (Open.part_one (Open.int Tryd.underlying2 (by kernel_rfl)) rfl) (Open.part_pair (Open.part_one (Open.int Tryd.underlying2 (by kernel_rfl)) rfl) (Open.part_one (Open.int Tryd.underlying2 (by kernel_rfl)) rfl)))))) rfl) (Open.part_pair (Open.part_one (Open.int Tryd.underlying2 (by kernel_rfl)) rfl) (Open.part_pair (Open.part_one (Open.int Tryd.underlying5 (by kernel_rfl)) rfl) (Open.part_one (Open.string Tryd.underlying9 (by kernel_rfl)) rfl)))))))).go hf
    have hK' : ∃ cs, cs = (Value.agg cs0).cells.toList ∧ Kd.K (Kd.pair Kd.string (Kd.pair Kd.string (Kd.pair (Kd.pair (Kd.int .i64) (Kd.pair (Kd.int .i64) (Kd.pair (Kd.int .i64) (Kd.int .i64)))) (Kd.pair (Kd.int .i64) (Kd.pair (Kd.int .u8) Kd.string))))) W x cs := ⟨_, rfl, hK⟩
    obtain ⟨cs, ecs, hK2⟩ := hK'
    obtain ⟨_, _, rfl, rfl, ⟨_, _, rfl, rfl, ⟨_, _, rfl, ⟨_, _, rfl, rfl, ⟨_, _, rfl, rfl, ⟨_, _, rfl, rfl, rfl⟩⟩⟩, ⟨_, _, rfl, rfl, ⟨_, _, rfl, rfl, rfl⟩⟩⟩⟩⟩ := hK2
    obtain ⟨w0_0, ⟨w0_1, ⟨⟨w0_2, ⟨w0_3, ⟨w0_4, w0_5⟩⟩⟩, ⟨w0_6, ⟨w0_7, w0_8⟩⟩⟩⟩⟩ := hW
    exact ⟨x.1, x.2.1, x.2.2.1.1, x.2.2.1.2.1, x.2.2.1.2.2.1, x.2.2.1.2.2.2, x.2.2.2.1, x.2.2.2.2.1, x.2.2.2.2.2, Array.toList_inj.1 (by simpa [Value.cells] using ecs.symm), w0_0, w0_1, w0_2, w0_3, w0_4, w0_5, w0_6, w0_7, w0_8⟩
  obtain ⟨cs1, rfl, _⟩ := okWide_struct Tryd.underlying62 (hval 1 62 v1 rfl rfl)
  have k1 := h1
  have lt1 : ∀ x ∈ p1, x.block < W.heap.size := by obtain ⟨m, hm⟩ := k1; exact DataW.trod_lt m _ _ _ hm
  obtain ⟨a1_0, a1_1, a1_2, a1_3, a1_4, a1_5, a1_6, a1_7, a1_8, rfl, o1_0, o1_1, o1_2, o1_3, o1_4, o1_5, o1_6, o1_7, o1_8⟩ : ∃ (a1_0 : ByteArray) (a1_1 : ByteArray) (a1_2 : Int) (a1_3 : Int) (a1_4 : Int) (a1_5 : Int) (a1_6 : Int) (a1_7 : Int) (a1_8 : ByteArray), cs1 = #[.string a1_0, .string a1_1, .int .i64 a1_2, .int .i64 a1_3, .int .i64 a1_4, .int .i64 a1_5, .int .i64 a1_6, .int .u8 a1_7, .string a1_8] ∧ (a1_0.size ≤ 9223372036854775807) ∧ (a1_1.size ≤ 9223372036854775807) ∧ ((Lit.int .i64 a1_2).wf = true) ∧ ((Lit.int .i64 a1_3).wf = true) ∧ ((Lit.int .i64 a1_4).wf = true) ∧ ((Lit.int .i64 a1_5).wf = true) ∧ ((Lit.int .i64 a1_6).wf = true) ∧ ((Lit.int .u8 a1_7).wf = true) ∧ (a1_8.size ≤ 9223372036854775807) := by
    obtain ⟨fuel, hf⟩ := h1
    obtain ⟨x, hK, hW⟩ := (Open.struct (d := (Kd.pair Kd.string (Kd.pair Kd.string (Kd.pair (Kd.pair (Kd.int .i64) (Kd.pair (Kd.int .i64) (Kd.pair (Kd.int .i64) (Kd.int .i64)))) (Kd.pair (Kd.int .i64) (Kd.pair (Kd.int .u8) Kd.string)))))) Tryd.underlying62 (by kernel_rfl) (show Open.Part _ _ 0 ([_] ++ ([_] ++ ([_] ++ ([_] ++ ([_] ++ ([_])))))) _ from (Open.part_pair (Open.part_one (Open.string Tryd.underlying9 (by kernel_rfl)) rfl) (Open.part_pair (Open.part_one (Open.string Tryd.underlying9 (by kernel_rfl)) rfl) (Open.part_pair (Open.part_one (Open.struct (d := (Kd.pair (Kd.int .i64) (Kd.pair (Kd.int .i64) (Kd.pair (Kd.int .i64) (Kd.int .i64))))) Tryd.underlying60 (by kernel_rfl) (show Open.Part _ _ 0 ([_] ++ ([_] ++ ([_] ++ ([_])))) _ from (Open.part_pair (Open.part_one (Open.int Tryd.underlying2 (by kernel_rfl)) rfl) (Open.part_pair (Open.part_one (Open.int Tryd.underlying2 (by kernel_rfl)) rfl) (Open.part_pair (Open.part_one (Open.int Tryd.underlying2 (by kernel_rfl)) rfl) (Open.part_one (Open.int Tryd.underlying2 (by kernel_rfl)) rfl)))))) rfl) (Open.part_pair (Open.part_one (Open.int Tryd.underlying2 (by kernel_rfl)) rfl) (Open.part_pair (Open.part_one (Open.int Tryd.underlying5 (by kernel_rfl)) rfl) (Open.part_one (Open.string Tryd.underlying9 (by kernel_rfl)) rfl)))))))).go hf
    have hK' : ∃ cs, cs = (Value.agg cs1).cells.toList ∧ Kd.K (Kd.pair Kd.string (Kd.pair Kd.string (Kd.pair (Kd.pair (Kd.int .i64) (Kd.pair (Kd.int .i64) (Kd.pair (Kd.int .i64) (Kd.int .i64)))) (Kd.pair (Kd.int .i64) (Kd.pair (Kd.int .u8) Kd.string))))) W x cs := ⟨_, rfl, hK⟩
    obtain ⟨cs, ecs, hK2⟩ := hK'
    obtain ⟨_, _, rfl, rfl, ⟨_, _, rfl, rfl, ⟨_, _, rfl, ⟨_, _, rfl, rfl, ⟨_, _, rfl, rfl, ⟨_, _, rfl, rfl, rfl⟩⟩⟩, ⟨_, _, rfl, rfl, ⟨_, _, rfl, rfl, rfl⟩⟩⟩⟩⟩ := hK2
    obtain ⟨w1_0, ⟨w1_1, ⟨⟨w1_2, ⟨w1_3, ⟨w1_4, w1_5⟩⟩⟩, ⟨w1_6, ⟨w1_7, w1_8⟩⟩⟩⟩⟩ := hW
    exact ⟨x.1, x.2.1, x.2.2.1.1, x.2.2.1.2.1, x.2.2.1.2.2.1, x.2.2.1.2.2.2, x.2.2.2.1, x.2.2.2.2.1, x.2.2.2.2.2, Array.toList_inj.1 (by simpa [Value.cells] using ecs.symm), w1_0, w1_1, w1_2, w1_3, w1_4, w1_5, w1_6, w1_7, w1_8⟩
  clear hA0 hval0 hsz0 hsz
  obtain ⟨k, hk⟩ := Pure.HeadBack a0_0 a0_1 a0_2 a0_3 a0_4 a0_5 a0_6 a0_7 a0_8 a1_0 a1_1 a1_2 a1_3 a1_4 a1_5 a1_6 a1_7 a1_8 o0_0 o0_1 o0_2 o0_3 o0_4 o0_5 o0_6 o0_7 o0_8 o1_0 o1_1 o1_2 o1_3 o1_4 o1_5 o1_6 o1_7 o1_8
  refine (P.thwartlaw05_HeadBack.calls k a0_0 a0_1 a0_2 a0_3 a0_4 a0_5 a0_6 a0_7 a0_8 a1_0 a1_1 a1_2 a1_3 a1_4 a1_5 a1_6 a1_7 a1_8 true W hk).mono fun e W' ⟨he, bel⟩ => ?_
  subst he
  exact ⟨_, rfl, _, _, _, [], _, [], hW', trodAll_mk1 (shut_bool Tryd.underlying4 _), (trodAll_cons_mk (Below.trod laidOut (by kernel_rfl) (of_decide_eq_true (by kernel_rfl)) k0 bel lt0) (trodAll_cons_mk (Below.trod laidOut (by kernel_rfl) (of_decide_eq_true (by kernel_rfl)) k1 bel lt1) trodAll_mk0)), rfl, bel.frame _, fun h => by cases h⟩
theorem over : Rows.headBackRow.holds Tryd.pinned (OpenSpec.ofChange Rows.headBackSpec) :=
  OpenClaim.holds_of_wide 7 Tryd.f7 rfl rfl rfl rfl rfl rfl rfl ⟨rfl, rfl, rfl, rfl, rfl⟩ rfl rfl rfl rfl rfl (by kernel_rfl) Tryd.func7 (by kernel_rfl)
    (of_decide_eq_true (by kernel_rfl)) (by unfold Func.isWrapper; first | (rw [if_pos (by decide +kernel)]; kernel_rfl) | (rw [if_neg (by decide +kernel)]; exact ⟨rfl, rfl⟩))
    (fun os started H enc _ => lifted os started H enc)
theorem proved : Rows.HeadBackSaid := over
theorem card_proved : Rows.HeadBackCardSaid :=
  Claim7.holds_tied_plain_at .later [] [.data, .pinned] true (true, "4736eb45092c931fc3f01c3f33e8d27b2de14d841cfc6fc2c5de26f593404c56") false proved (fun _ h => by cases h) (by kernel_rfl) (fun _ h => by cases h) headBack_row_tie rfl ⟨rfl, rfl⟩ (by kernel_rfl) rfl
    (fun f fn hf hfn => by
      obtain rfl : f = 7 := Option.some.inj ((show Tryd.prog.funcNamed "thwart/thwartlaw05.HeadBack" = some 7 by kernel_rfl).symm.trans hf) |>.symm
      obtain rfl : fn = Tryd.f7 := (Option.some.inj (Tryd.func7.symm.trans hfn)).symm
      exact ⟨by kernel_rfl, fun j t ht => by
        rw [Tryd.params7] at ht
        have hm : t ∈ [62, 62] := by simpa using Array.mem_of_getElem? ht
        have hall : ([62, 62].all fun u => !Tryd.prog.wantsStandIn u) = true := by kernel_rfl
        exact (show Tryd.prog.wantsStandIn t = false by simpa using List.all_eq_true.1 hall t hm)⟩)
    (by kernel_rfl)
#print axioms card_proved
end Go.Proofs.YthjljkdiglpbaaaDoor.headBack
namespace Go.Proofs.YthjljkdiglpbaaaDoor
/-- The statement, under a short name, for the claim. -/
theorem headBack_holds : Rows.HeadBackCardSaid := headBack.card_proved
end Go.Proofs.YthjljkdiglpbaaaDoor
