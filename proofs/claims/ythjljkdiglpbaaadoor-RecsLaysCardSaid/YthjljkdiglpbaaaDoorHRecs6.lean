/- recs.first's two cuts: the end of a line off (bytes.CutSuffix), then at the first '=' (strings.Cut, at one byte: no word on what the processor has). -/
import Derived.Test.YthjljkdiglpbaaaDoorHRecs4
import Derived.Shelf.Bytes.SlSmallAll
import Derived.Lib.SlBytesRowKit2
import Derived.Shelf.Strings.Cut
import Derived.Lib.IndexBytes
namespace Go.Proofs.YthjljkdiglpbaaaDoor.Hand
open Go.RowKit Go.Shelf Go.Proofs.YthjljkdiglpbaaaDoorW Go.Proofs.YthjljkdiglpbaaaDoorW.PrintWords Go.Proofs.YthjljkdiglpbaaaDoorW.PrintLast Go.Proofs.YthjljkdiglpbaaaDoorW.PrintMore
set_option linter.unusedVariables false
set_option linter.unusedSimpArgs false

theorem indexB_at (x : ByteArray) (b : UInt8) : Lib.indexB x ⟨#[b]⟩ = Lib.indexByte x.data.toList b := Lib.index_one x.data.toList b
theorem index_at (l : List UInt8) (b : UInt8) : Lib.index l [b] = Lib.indexByte l b := Lib.index_one l b

set_option maxHeartbeats 2000000 in
set_option maxRecDepth 100000 in
theorem stringslite_Cut_at {P : Program} {ρ : Ren} (L : Lays.n220 P ρ) (s : ByteArray) (c : UInt8) (w : World) (hs : s.size ≤ 9223372036854775807) :
    Calls P (ρ.f 220) #[.string s, .string ⟨#[c]⟩] w fun e w' => e = .returned (.tuple #[.string ⟨(Lib.cut s.data.toList [c]).1.toArray⟩, .string ⟨(Lib.cut s.data.toList [c]).2.1.toArray⟩, .bool (Lib.cut s.data.toList [c]).2.2]) ∧ ∃ n, w' = w.drewN n := by
  rcases Lib.indexB_cases s ⟨#[c]⟩ with hix | ⟨i, hix, hroom⟩
  · obtain ⟨e1, e2, e3⟩ := Lib.cutB_miss s ⟨#[c]⟩ hix
    rw [e1, e2, e3]
    have t3 := L.t3; have t4 := L.t4; have t9 := L.t9
    have a3 : ∀ w, (isAgg (ρ.t 3)).run P w = .ok false w := run_isAgg_plain L.t3 rfl; have a4 : ∀ w, (isAgg (ρ.t 4)).run P w = .ok false w := run_isAgg_plain L.t4 rfl; have a9 : ∀ w, (isAgg (ρ.t 9)).run P w = .ok false w := run_isAgg_plain L.t9 rfl
    have e219 : ∀ args w, (callFunc (ρ.f 219) args).run P w = .ok (.enter (ρ.f 219) args) w := enters_of L.f219 (by kernel_rfl) rfl
    have mixed := L.mixed; have z3 := L.z3; have v3 := L.v3; have z4 := L.z4; have v4 := L.v4; have z9 := L.z9; have v9 := L.v9
    go_enter L.f220, Body.n220_ntmps ρ
    go_wp2_with (go_at_fn (ρ.f 219); refine (Any.stringslite_Index_one { L with } _ c _).mono ?_; rintro e w' ⟨rfl, rfl⟩; rw [← indexB_at, hix])
    go_ret3
    exact ⟨rfl, 0, rfl⟩
  · obtain ⟨e1, e2, e3⟩ := Lib.cutB_hit s ⟨#[c]⟩ i hix
    rw [e1, e2, e3]
    have hz : (⟨#[c]⟩ : ByteArray).size = 1 := rfl
    rw [hz] at hroom ⊢
    have c1 : (0 : Int) ≤ ↑i := by omega
    have c2 : (↑i : Int) ≤ ↑s.size := by omega
    have c3 : (0 : Int) ≤ ↑i + 1 := by omega
    have c4 : (↑i + 1 : Int) ≤ ↑s.size := by omega
    have hw : wrap64 ((i : Int) + 1) = ↑i + 1 := by unfold wrap64; omega
    have t3 := L.t3; have t4 := L.t4; have t9 := L.t9
    have a3 : ∀ w, (isAgg (ρ.t 3)).run P w = .ok false w := run_isAgg_plain L.t3 rfl; have a4 : ∀ w, (isAgg (ρ.t 4)).run P w = .ok false w := run_isAgg_plain L.t4 rfl; have a9 : ∀ w, (isAgg (ρ.t 9)).run P w = .ok false w := run_isAgg_plain L.t9 rfl
    have e219 : ∀ args w, (callFunc (ρ.f 219) args).run P w = .ok (.enter (ρ.f 219) args) w := enters_of L.f219 (by kernel_rfl) rfl
    have mixed := L.mixed; have z3 := L.z3; have v3 := L.v3; have z4 := L.z4; have v4 := L.v4; have z9 := L.z9; have v9 := L.v9
    go_enter L.f220, Body.n220_ntmps ρ
    go_wp2_with (go_at_fn (ρ.f 219); refine (Any.stringslite_Index_one { L with } _ c _).mono ?_; rintro e w' ⟨rfl, rfl⟩; rw [← indexB_at, hix])
    go_region_o
    go_wp2
    go_ret3
    exact ⟨rfl, 1, rfl⟩
set_option maxHeartbeats 1000000 in
set_option maxRecDepth 100000 in
theorem strings_Cut_at {P : Program} {ρ : Ren} (L : Lays.n145 P ρ) (s : ByteArray) (c : UInt8) (w : World) (hs : s.size ≤ 9223372036854775807) :
    Calls P (ρ.f 145) #[.string s, .string ⟨#[c]⟩] w fun e w' => e = .returned (.tuple #[.string ⟨(Lib.cut s.data.toList [c]).1.toArray⟩, .string ⟨(Lib.cut s.data.toList [c]).2.1.toArray⟩, .bool (Lib.cut s.data.toList [c]).2.2]) ∧ ∃ n, w' = w.drewN n := by
  have t4 := L.t4; have t9 := L.t9; have t59 := L.t59
  have a4 : ∀ w, (isAgg (ρ.t 4)).run P w = .ok false w := run_isAgg_plain L.t4 rfl; have a9 : ∀ w, (isAgg (ρ.t 9)).run P w = .ok false w := run_isAgg_plain L.t9 rfl; have a59 : ∀ w, (isAgg (ρ.t 59)).run P w = .ok false w := run_isAgg_plain L.t59 rfl
  have e220 : ∀ args w, (callFunc (ρ.f 220) args).run P w = .ok (.enter (ρ.f 220) args) w := enters_of L.f220 (by kernel_rfl) rfl
  have mixed := L.mixed; have z4 := L.z4; have v4 := L.v4; have z9 := L.z9; have v9 := L.v9; have z59 := L.z59; have v59 := L.v59
  go_enter L.f145, Body.n145_ntmps ρ
  go_wp2_with (go_at_fn (ρ.f 220); refine (stringslite_Cut_at { L with } _ _ _ hs).mono ?_; rintro e w' ⟨rfl, n, rfl⟩)
  go_ret3
  exact ⟨rfl, n, rfl⟩

/-- Whether bytes end a line, and what is left cut at the first '='. -/
def recs_body (l : List Int) : List Int := if Lib.hasSuffix (Lib.bytesOf l) [10] then l.take (l.length - 1) else l
def recs_cut.f (l : List Int) : Option (Bool × ByteArray × ByteArray × Bool) :=
  if l.length ≤ 9223372036854775807 then
    some (Lib.hasSuffix (Lib.bytesOf l) [10], ⟨(Lib.cut (Lib.bytesOf (recs_body l)) [61]).1.toArray⟩, ⟨(Lib.cut (Lib.bytesOf (recs_body l)) [61]).2.1.toArray⟩, (Lib.cut (Lib.bytesOf (recs_body l)) [61]).2.2)
  else none
theorem recs_cut.at1 (A : Option Addr) (c : Nat) (l : List Int) (t1 : Bool) (t2 t3 : ByteArray) (t4 : Bool) (p2 d : Nat) (w : World) (hr : Kd.C (Kd.int .u8) w A l.length l) (hc : l.length ≤ c) (hsep : w.cell? ⟨p2, 0, none⟩ = some (.int .u8 10)) (h : recs_cut.f l = some (t1, t2, t3, t4)) :
    Calls Tryd.prog 59 #[.slice A l.length c, .slice (some ⟨p2, 0, none⟩) 1 d] w fun e w' => ∃ y : List Int, e = .returned (.tuple #[.slice A y.length c, .bool t1]) ∧ w' = w ∧ Kd.C (Kd.int .u8) w A y.length y ∧ y.length ≤ c ∧
      (⟨(Lib.cut (Lib.bytesOf y) [61]).1.toArray⟩ : ByteArray) = t2 ∧ (⟨(Lib.cut (Lib.bytesOf y) [61]).2.1.toArray⟩ : ByteArray) = t3 ∧ (Lib.cut (Lib.bytesOf y) [61]).2.2 = t4 := by
  unfold recs_cut.f at h
  split at h
  case isFalse => cases h
  rename_i hl
  simp only [Option.some.injEq, Prod.mk.injEq] at h
  obtain ⟨rfl, rfl, rfl, rfl⟩ := h
  obtain ⟨_, _, hcl⟩ := Kd.reads_of_C (enc := Value.int .u8) (d := 0) (h1 := fun _ => rfl) hr
  have b1 : Lib.BytesIn w A l.length l := by
    intro h0
    obtain ⟨b, o, e, hg⟩ := C_at hr 0 h0
    refine ⟨b, o, e, fun i hi => ?_⟩
    obtain ⟨b', o', e', hg'⟩ := C_at hr i hi
    rw [e] at e'
    simp only [Option.some.injEq, Addr.mk.injEq] at e'
    rw [← e'.1, ← e'.2.1] at hg'
    rw [hg', List.getD_eq_getElem?_getD, List.getElem?_eq_getElem hi]; rfl
  have b2 : Lib.BytesIn w (some ⟨p2, 0, none⟩) 1 [10] := Lib.BytesIn.of_cells fun i hi => by
    have : i = 0 := by omega
    subst this
    exact hsep
  refine (Tryd.bytes_CutSuffix_all A (some ⟨p2, 0, none⟩) l.length c 1 d l [10] w rfl rfl hc hl b1 b2).mono ?_
  rintro e w' ⟨rfl, rfl⟩
  rw [Go.RowKit.trimSuffixV_eq rfl b1]
  refine ⟨recs_body l, ?_, rfl, ?_, ?_, rfl, rfl, rfl⟩
  · show Ending.returned (.tuple #[if Lib.hasSuffix (Lib.bytesOf l) [10] then _ else _, .bool (Lib.hasSuffix (Lib.bytesOf l) [10])]) = _
    unfold recs_body
    by_cases hs : Lib.hasSuffix (Lib.bytesOf l) [10] = true
    · rw [if_pos hs, if_pos hs, List.length_take, Nat.min_eq_left (Nat.sub_le _ _)]; rfl
    · rw [if_neg hs, if_neg hs]
  · unfold recs_body
    split
    · have := (Kd.reads_of_C (enc := Value.int .u8) (d := 0) (h1 := fun _ => rfl) hr).take_ (l.length - 1) (Nat.sub_le _ _)
      rw [show (l.take (l.length - 1)).length = l.length - 1 from by rw [List.length_take]; omega]
      exact Kd.C_of_reads (h1 := fun _ => rfl) this
    · exact hr
  · unfold recs_body
    split
    · rw [List.length_take]; omega
    · exact hc
theorem recs_cut.at2 (y : List Int) (t2 t3 : ByteArray) (t4 : Bool) (w : World) (hl : y.length ≤ 9223372036854775807)
    (h2 : (⟨(Lib.cut (Lib.bytesOf y) [61]).1.toArray⟩ : ByteArray) = t2) (h3 : (⟨(Lib.cut (Lib.bytesOf y) [61]).2.1.toArray⟩ : ByteArray) = t3) (h4 : (Lib.cut (Lib.bytesOf y) [61]).2.2 = t4) :
    Calls Tryd.prog 60 #[.string (strOfNums y), .string ⟨#[61]⟩] w fun e w' => e = .returned (.tuple #[.string t2, .string t3, .bool t4]) ∧ Below w.heap.size w w' := by
  subst h2 h3 h4
  refine (strings_Cut_at Tryd.lays145 (strOfNums y) 61 w (by rw [ByteArray.size, ← Array.length_toList, show (strOfNums y).data.toList = Lib.bytesOf y from by rw [← Lib.strOfNums_toList, Lib.toList_data]]; simpa [Lib.bytesOf] using hl)).mono ?_
  rintro e w' ⟨rfl, n, rfl⟩
  have hy : (strOfNums y).data.toList = Lib.bytesOf y := by rw [← Lib.strOfNums_toList, Lib.toList_data]
  rw [hy]
  exact ⟨rfl, pw_below_drewN (Below.refl _ _) n⟩
end Go.Proofs.YthjljkdiglpbaaaDoor.Hand
