/- Contracts, by hand, of package bytes at separators of one byte, and of strf.Loose and strf.Get, in the printer's form. -/
import Derived.Test.YtpjanlpjjemenaaDoorProg
import Derived.Test.YtpjanlpjjemenaaDoorHStr
import Derived.Shelf.Bytes.SlIndexAt
import Derived.Shelf.Bytes.SlCountOne
import Derived.Deep.QuietTactic
import Derived.BigQuiet
import Derived.Lib.SlBytesConst
namespace Go.Proofs.YtpjanlpjjemenaaDoor.Hand
open Go.RowKit Go.Proofs.YtpjanlpjjemenaaDoorW.PrintWords Go.Proofs.YtpjanlpjjemenaaDoorW.PrintLast Go.Proofs.YtpjanlpjjemenaaDoorW.PrintMore
set_option linter.unusedVariables false
set_option linter.unusedSimpArgs false

/-- The extern bytealg.IndexByte at a row that is read. -/
theorem run_indexByteC (A : Option Addr) (n c : Nat) (xs : List Int) (w : World) (h : Kd.C (Kd.int .u8) w A n xs) (cv : Int) :
    (Extern.BytealgIndexByte.indexByte #[.slice A n c, .int .u8 cv]).run Tryd.prog w = .ok (.int .i64 (Lib.indexByte (Lib.bytesOf xs) cv.toNat.toUInt8)) w := by
  have hR := Kd.reads_of_C (enc := Value.int .u8) (d := (0 : Int)) (h1 := fun _ => rfl) h
  rcases Nat.eq_zero_or_pos n with h0 | hp
  · subst h0
    obtain rfl : xs = [] := List.eq_nil_of_length_eq_zero hR.1
    cases A with
    | none => exact Lib.run_indexByteNil w 0 c cv
    | some a => exact Lib.run_indexByteAt w a 0 c [] rfl (fun i hi => absurd hi (by omega)) cv
  · obtain ⟨ad, rfl, hc⟩ := hR.2.2 hp
    exact Lib.run_indexByteAt w ad n c xs hR.1 hc cv

set_option maxHeartbeats 1000000 in
set_option maxRecDepth 100000 in
theorem bytes_IndexByte.calls (A0 : Option Addr) (n c0 : Nat) (l0 : List Int) (cv : Int) (w : World) (hr0 : Kd.C (Kd.int .u8) w A0 n l0) :
    Calls Tryd.prog 112 #[.slice A0 n c0, .int .u8 cv] w fun e w' => e = .returned (.int .i64 (Lib.indexByte (Lib.bytesOf l0) cv.toNat.toUInt8)) ∧ Drawn0 w w' := by
  go_enter Tryd.func112, Tryd.ntmps112
  go_wp2
  rw [run_callFunc_extern Tryd.func137 (by kernel_rfl) (by kernel_rfl) (by kernel_rfl) (e := Extern.BytealgIndexByte.indexByte) (by kernel_rfl), run_indexByteC A0 n c0 l0 w hr0 cv]
  simp only [Result.andThen]
  rw [Oper.upon_value]
  go_wp2
  go_ret
  exact ⟨rfl, Drawn0.refl _⟩

set_option maxHeartbeats 1000000 in
set_option maxRecDepth 100000 in
/-- bytes.Index at a separator of one byte. -/
theorem bytes_Index_one (A0 : Option Addr) (n c0 : Nat) (l0 : List Int) (b2 o2 c1 : Nat) (cv : Int) (w : World) (hr0 : Kd.C (Kd.int .u8) w A0 n l0) (hc : w.cell? ⟨b2, o2, none⟩ = some (.int .u8 cv)) :
    Calls Tryd.prog 88 #[.slice A0 n c0, .slice (some ⟨b2, o2, none⟩) 1 c1] w fun e w' => e = .returned (.int .i64 (Lib.indexByte (Lib.bytesOf l0) cv.toNat.toUInt8)) ∧ Drawn0 w w' := by
  have HC := Aside0.mk hr0
  clear hr0
  go_enter Tryd.func88, Tryd.ntmps88
  go_wp2_with (go_at_call 112; (with_reducible refine (bytes_IndexByte.calls A0 n c0 l0 cv _ ?side1).mono ?_); (case side1 => exact HC.out); rintro e w' ⟨rfl, ⟨nd, rfl⟩⟩)
  go_ret
  exact ⟨rfl, Drawn0.step (Drawn0.refl _) _⟩

theorem indexByte_lt (l : List UInt8) (c : UInt8) : Lib.indexByte l c < l.length := by
  induction l with
  | nil => exact (by decide : (-1 : Int) < 0)
  | cons b l ih =>
    unfold Lib.indexByte
    have := Lib.indexByte_ge l c
    split
    · simp only [List.length_cons]; omega
    · split
      · simp only [List.length_cons]; omega
      · simp only [List.length_cons]; omega
/-- How many elements lie ahead of the first that is c. -/
def aheadOf (l0 : List Int) (c : UInt8) : Nat := if 0 ≤ Lib.indexByte (Lib.bytesOf l0) c then (Lib.indexByte (Lib.bytesOf l0) c).toNat else l0.length
theorem aheadOf_le (l0 : List Int) (c : UInt8) : aheadOf l0 c ≤ l0.length := by
  unfold aheadOf
  have h := indexByte_lt (Lib.bytesOf l0) c
  rw [Lib.bytesOf_length] at h
  split <;> omega

set_option maxHeartbeats 1000000 in
set_option maxRecDepth 100000 in
/-- bytes.Cut at a separator of one byte. -/
theorem bytes_Cut_one (A0 : Option Addr) (c0 : Nat) (l0 : List Int) (b2 o2 c1 : Nat) (cv : Int) (w : World) (hr0 : Kd.C (Kd.int .u8) w A0 l0.length l0) (hc0 : l0.length ≤ c0) (hc : w.cell? ⟨b2, o2, none⟩ = some (.int .u8 cv)) :
    Calls Tryd.prog 64 #[.slice A0 l0.length c0, .slice (some ⟨b2, o2, none⟩) 1 c1] w fun e w' => (∃ v2 f, e = .returned (.tuple #[.slice A0 (aheadOf l0 cv.toNat.toUInt8) c0, v2, .bool f])) ∧ Drawn0 w w' := by
  have hlt := indexByte_lt (Lib.bytesOf l0) cv.toNat.toUInt8
  rw [Lib.bytesOf_length] at hlt
  have hge := Lib.indexByte_ge (Lib.bytesOf l0) cv.toNat.toUInt8
  have ha : aheadOf l0 cv.toNat.toUInt8 = if 0 ≤ Lib.indexByte (Lib.bytesOf l0) cv.toNat.toUInt8 then (Lib.indexByte (Lib.bytesOf l0) cv.toNat.toUInt8).toNat else l0.length := rfl
  have hmax := hr0.2.1
  have hcon := bytes_Index_one A0 l0.length c0 l0 b2 o2 c1 cv w hr0 hc
  generalize Lib.indexByte (Lib.bytesOf l0) cv.toNat.toUInt8 = i at *
  generalize aheadOf l0 cv.toNat.toUInt8 = m at *
  have HCON := Aside0.mk hcon
  clear hcon hr0 hc
  by_cases h0 : 0 ≤ i
  · rw [if_pos h0] at ha
    subst ha
    obtain ⟨inf, hi, hz0, hz1, hz2⟩ := info_parts info_u8
    obtain ⟨hs1, _, _⟩ := print_take_of (P := Tryd.prog) (Value.int .u8) (0 : Int) 22 5 .i64 Tryd.underlying22 hi hz1 A0 c0 l0 i h0 (by omega) hc0
    obtain ⟨A', hs2, _, _⟩ := print_drop_of (P := Tryd.prog) (Value.int .u8) (0 : Int) 22 5 .i64 Tryd.underlying22 hi hz1 A0 c0 l0 (i + 1) (by omega) (by omega) hc0
    have hl : (l0.take i.toNat).length = i.toNat := by rw [List.length_take]; omega
    rw [hl] at hs1
    clear hi hz0 hz1 hz2 hl
    have hw : IntKind.i64.wrap (i + 1) = i + 1 := IntWalk.i64_in _ (by omega)
    have hd : decide (0 ≤ i) = true := decide_eq_true h0
    go_enter Tryd.func64, Tryd.ntmps64
    go_wp2_with (go_at_call 88; (with_reducible refine (HCON.out).mono ?_); rintro e w' ⟨rfl, ⟨nd, rfl⟩⟩)
    go_quiet (fail)
    go_wp2
    go_ret3
    exact ⟨⟨_, _, rfl⟩, by repeat (first | exact Drawn0.refl _ | apply Drawn0.step)⟩
  · rw [if_neg h0] at ha
    subst ha
    have hd : decide (0 ≤ i) = false := decide_eq_false h0
    go_enter Tryd.func64, Tryd.ntmps64
    go_wp2_with (go_at_call 88; (with_reducible refine (HCON.out).mono ?_); rintro e w' ⟨rfl, ⟨nd, rfl⟩⟩)
    go_ret3
    exact ⟨⟨_, _, rfl⟩, by repeat (first | exact Drawn0.refl _ | apply Drawn0.step)⟩

/-- strf.Loose. -/
def strf_Loose.f (l0 : List Int) : Option ByteArray := some (strOfNums (l0.take (aheadOf l0 0)))
set_option maxHeartbeats 1000000 in
set_option maxRecDepth 100000 in
theorem strf_Loose.calls (A0 : Option Addr) (c0 : Nat) (l0 : List Int) (r : ByteArray) (w : World) (hr0 : Kd.C (Kd.int .u8) w A0 l0.length l0) (hc0 : l0.length ≤ c0) (h : strf_Loose.f l0 = some r) :
    Calls Tryd.prog 20 #[.slice A0 l0.length c0] w fun e w' => e = .returned (.string r) ∧ Below w.heap.size w w' := by
  obtain rfl := Option.some.inj h
  have hle := aheadOf_le l0 0
  obtain ⟨inf, hi, hz0, hz1, hz2⟩ := info_parts info_u8
  obtain ⟨_, ht, _⟩ := print_take_of (P := Tryd.prog) (Value.int .u8) (0 : Int) 22 5 .i64 Tryd.underlying22 hi hz1 A0 c0 l0 (aheadOf l0 0 : Nat) (by omega) (by omega) hc0
  have htk := Aside0.mk (Kd.C_of_reads (enc := Value.int .u8) (h1 := fun _ => rfl) (ht w (Kd.reads_of_C (enc := Value.int .u8) (d := (0 : Int)) (h1 := fun _ => rfl) hr0)))
  rw [Int.toNat_natCast] at htk
  have hl : (l0.take (aheadOf l0 0)).length = aheadOf l0 0 := by rw [List.length_take]; omega
  rw [hl] at htk
  have HC := Aside0.mk hr0
  have HK := Aside0.mk hc0
  clear hr0 hc0 ht hl hi hz0 hz1 hz2 h
  generalize hx : aheadOf l0 0 = m at *
  have HX := Aside0.mk hx
  clear hx
  have kc := fun (w : World) (C : Array Value) (n c : Nat) => Lib.run_convert_bytes_const (P := Tryd.prog) w 22 5 C n c Tryd.underlying22 Tryd.underlying5
  go_enter Tryd.func20, Tryd.ntmps20
  go_wp2_with (go_at_call 64; (with_reducible refine (bytes_Cut_one A0 c0 l0 w.heap.size 0 1 0 _ ?side1 HK.out ?side2).mono ?_); (case side1 => repeat (first | exact HC.out | (with_reducible refine Kd.C_alloc ?_ _))); (case side2 => exact (cell_fresh _ _ _ _ 0).trans rfl); rintro e w' ⟨⟨v2, f, rfl⟩, ⟨nd, rfl⟩⟩; rw [show aheadOf l0 (Int.toNat (0 : Int)).toUInt8 = m from HX.out]; have hcv := Kd.C_string (P := Tryd.prog) (A := A0) (c := c0) Tryd.underlying22 Tryd.underlying5 Tryd.underlying9 (Kd.C_drewN (Kd.C_alloc htk.out (.cells #[.int .u8 0] 5 (1, 2))) nd))
  go_ret
  exact ⟨rfl, pw_below_drewN (below_alloc (Below.refl _ _) _) _⟩

/-- What is left behind the leading bytes c. -/
def skip (c : Int) : List Int → List Int
  | [] => []
  | x :: l => if x = c then skip c l else x :: l
def lenOf : Value → Nat
  | .slice _ n _ => n
  | _ => 0
set_option maxHeartbeats 1000000 in
set_option maxRecDepth 100000 in
theorem bytes_trimLeftByte_any (A0 : Option Addr) (c0 : Nat) (l0 : List Int) (cv : Int) (w : World) (hr0 : Kd.C (Kd.int .u8) w A0 l0.length l0) (hc0 : l0.length ≤ c0) :
    Calls Tryd.prog 84 #[.slice A0 l0.length c0, .int .u8 cv] w fun e w' => (∃ A c, e = .returned (.slice A (skip cv l0).length c) ∧ (skip cv l0).length ≤ c ∧ Kd.C (Kd.int .u8) w A (skip cv l0).length (skip cv l0)) ∧ w' = w := by
  have HR := Aside0.mk hr0
  have HC := Aside0.mk hc0
  clear hr0 hc0
  go_enter Tryd.func84, Tryd.ntmps84
  go_wp2
  go_loop [0] (fun v => ∃ A c l, v = .slice A l.length c ∧ Aside0 (l.length ≤ c) ∧ Aside0 (Kd.C (Kd.int .u8) w A l.length l) ∧ Aside0 (skip cv l = skip cv l0)) (fun v => lenOf v)
  case atStart => exact ⟨A0, c0, l0, rfl, HC, HR, ⟨rfl⟩⟩
  case round =>
    obtain ⟨A, c, l, rfl, hc, hr, hs⟩ := hrel
    match l with
    | [] =>
      go_wp2
      go_ret
      exact ⟨⟨none, 0, by rw [← hs.out]; rfl, by rw [← hs.out]; exact Nat.le_refl _, by rw [← hs.out]; exact Kd.C_nil _ _⟩, rfl⟩
    | x :: l =>
      obtain ⟨ad, rfl, hcell⟩ := Kd.at_int hr.out 0 (by omega) (by simp only [List.length_cons]; omega)
      rw [show ((0 : Int)).toNat = 0 from rfl, Addr.add_zero'] at hcell
      have hx : rd (x :: l) 0 = x := rfl
      rw [hx] at hcell
      clear hx
      obtain ⟨b, off, spot⟩ := ad
      obtain rfl : spot = none := by simpa using World.cell?_spot hcell
      have b1 : decide ((0 : Int) < (((x :: l).length : Nat) : Int)) = true := decide_eq_true (by simp only [List.length_cons]; omega)
      by_cases e : x = cv
      · subst e
        have hr1 := ReadsOf.drop_ (c := c) (Kd.reads_of_C (enc := Value.int .u8) (d := (0 : Int)) (h1 := fun _ => rfl) hr.out) 1 (by simp) hc.out
        rw [show (some (⟨b, off, none⟩ : Addr)).map (·.add 1) = some ⟨b, off + 1, none⟩ from rfl] at hr1
        have hr2 := Aside0.mk (Kd.C_of_reads (enc := Value.int .u8) (h1 := fun _ => rfl) hr1)
        change Aside0 (Kd.C (Kd.int .u8) w (if c = 1 then some ⟨b, off, none⟩ else some ⟨b, off + 1, none⟩) l.length l) at hr2
        have hl3 := Aside0.mk (show l.length ≤ c - 1 by have := hc.out; simp only [List.length_cons] at this; omega)
        have hs3 := Aside0.mk (show skip x l = skip x l0 by rw [← hs.out]; simp [skip])
        clear hs hr1
        have b2 : (x == x) = true := by simp
        go_wp2
        go_round
        case rel => exact ⟨_, _, l, rfl, hl3, hr2, hs3⟩
        case measure => simp [lenOf]
      · have hs3 := Aside0.mk (show skip cv l0 = x :: l by rw [← hs.out]; simp [skip, e])
        have b2 : (x == cv) = false := by simp [e]
        clear e hs
        go_wp2
        go_ret
        exact ⟨⟨_, c, by rw [hs3.out]; rfl, by rw [hs3.out]; exact hc.out, by rw [hs3.out]; exact hr.out⟩, rfl⟩

set_option maxHeartbeats 1000000 in
set_option maxRecDepth 100000 in
/-- bytes.TrimLeft at a cutset of one ASCII byte. -/
theorem bytes_TrimLeft_one (A0 : Option Addr) (c0 : Nat) (l0 : List Int) (cc : UInt8) (w : World) (hcc : cc.toNat < 128) (hr0 : Kd.C (Kd.int .u8) w A0 l0.length l0) (hc0 : l0.length ≤ c0) :
    Calls Tryd.prog 63 #[.slice A0 l0.length c0, .string ⟨#[cc]⟩] w fun e w' => (∃ A c, e = .returned (.slice A (skip (cc.toNat : Int) l0).length c) ∧ (skip (cc.toNat : Int) l0).length ≤ c ∧ Kd.C (Kd.int .u8) w A (skip (cc.toNat : Int) l0).length (skip (cc.toNat : Int) l0)) ∧ w' = w := by
  have hm := Kd.C_max hr0
  have HR := Aside0.mk hr0
  have HC := Aside0.mk hc0
  clear hr0 hc0
  match l0, hm, HR, HC with
  | [], _, HR, HC =>
    go_enter Tryd.func63, Tryd.ntmps63
    go_wp2
    go_ret
    exact ⟨⟨none, 0, rfl, Nat.le_refl _, Kd.C_nil _ _⟩, rfl⟩
  | x :: l, hm, HR, HC =>
    have b1 : ((((x :: l).length : Nat) : Int) == 0) = false := by simp only [List.length_cons]; rw [beq_eq_false_iff_ne]; omega
    have b2 : decide ((cc.toNat : Int) < 128) = true := decide_eq_true (by omega)
    have b3 : ¬ (128 : Int) ≤ (cc.toNat : Int) := by omega
    have b4 : (cc.toNat : Int) < 128 := by omega
    generalize hL : x :: l = L at *
    clear hL
    go_enter Tryd.func63, Tryd.ntmps63
    go_wp2_with (go_at_call 84; (with_reducible refine (bytes_trimLeftByte_any A0 c0 L _ _ HR.out HC.out).mono ?_); rintro e w' ⟨⟨A, c, rfl, h1, h2⟩, rfl⟩; have H1 := Aside0.mk h1; have H2 := Aside0.mk h2; clear h1 h2)
    go_ret
    exact ⟨⟨A, c, rfl, H1.out, H2.out⟩, rfl⟩

theorem bytes_TrimLeft_one' (A0 : Option Addr) (n c0 : Nat) (l0 : List Int) (cc : UInt8) (w : World) (hcc : cc.toNat < 128) (hn : l0.length = n) (hr0 : Kd.C (Kd.int .u8) w A0 l0.length l0) (hc0 : l0.length ≤ c0) :
    Calls Tryd.prog 63 #[.slice A0 n c0, .string ⟨#[cc]⟩] w fun e w' => (∃ A c, e = .returned (.slice A (skip (cc.toNat : Int) l0).length c) ∧ (skip (cc.toNat : Int) l0).length ≤ c ∧ Kd.C (Kd.int .u8) w A (skip (cc.toNat : Int) l0).length (skip (cc.toNat : Int) l0)) ∧ w' = w := by
  subst hn; exact bytes_TrimLeft_one A0 c0 l0 cc w hcc hr0 hc0

theorem strOfNums_size (xs : List Int) : (strOfNums xs).size = xs.length := by
  have h := Lib.strOfNums_toList xs
  have h2 : (strOfNums xs).toList.length = xs.length := by rw [h, Lib.bytesOf_length]
  rw [← h2, Lib.toList_data]; rfl
theorem skip_len (c : Int) (l : List Int) : (skip c l).length ≤ l.length := by
  induction l with
  | nil => exact Nat.le_refl _
  | cons x l ih => unfold skip; split <;> simp only [List.length_cons] <;> omega

/-- strf.Get. -/
def strf_Get.f (l0 : List Int) : Option (ByteArray × Int) := if 0 < (skip 0 (l0.drop (aheadOf l0 0))).length then some (⟨#[]⟩, 3) else some (strOfNums (l0.take (aheadOf l0 0)), 0)
set_option maxHeartbeats 1000000 in
set_option maxRecDepth 100000 in
theorem strf_Get.calls (A0 : Option Addr) (c0 : Nat) (l0 : List Int) (r1 : ByteArray) (r2 : Int) (w : World) (hr0 : Kd.C (Kd.int .u8) w A0 l0.length l0) (hc0 : l0.length ≤ c0) (h : strf_Get.f l0 = some (r1, r2)) :
    Calls Tryd.prog 17 #[.slice A0 l0.length c0] w fun e w' => e = .returned (.tuple #[.string r1, .int .i64 r2]) ∧ Below w.heap.size w w' := by
  unfold strf_Get.f at h
  have hle := aheadOf_le l0 0
  have hm := Kd.C_max hr0
  obtain ⟨s, hs⟩ : ∃ s, s = strOfNums (l0.take (aheadOf l0 0)) := ⟨_, rfl⟩
  have hz : s.size = aheadOf l0 0 := by rw [hs, strOfNums_size, List.length_take]; omega
  have hL : strf_Loose.f l0 = some s := by rw [hs]; rfl
  rw [← hs, ← hz] at h
  rw [← hz] at hle
  clear hs hz
  have HL := Aside0.mk hL
  obtain ⟨inf, hi, hz0, hz1, hz2⟩ := info_parts info_u8
  obtain ⟨A', hs2, ht2, hl2⟩ := print_drop_of (P := Tryd.prog) (Value.int .u8) (0 : Int) 22 5 .i64 Tryd.underlying22 hi hz1 A0 c0 l0 (s.size : Int) (by omega) (by omega) hc0
  rw [Int.toNat_natCast] at hs2 ht2 hl2
  have HT : Aside0 (Kd.C (Kd.int .u8) w A' (l0.drop s.size).length (l0.drop s.size)) := Aside0.mk (Kd.C_of_reads (enc := Value.int .u8) (h1 := fun _ => rfl) (ht2 w (Kd.reads_of_C (enc := Value.int .u8) (d := (0 : Int)) (h1 := fun _ => rfl) hr0)))
  have HR := Aside0.mk hr0
  have HC := Aside0.mk hc0
  have HL2 := Aside0.mk hl2
  clear hr0 hc0 hL hi hz0 hz1 hz2 ht2 hl2
  have hle2 : (s.size : Int) ≤ (l0.length : Int) := by omega
  by_cases c1 : 0 < (skip 0 (l0.drop s.size)).length
  · rw [if_pos c1] at h
    simp only [Option.some.injEq, Prod.mk.injEq] at h
    obtain ⟨rfl, rfl⟩ := h
    have b1 : decide ((0 : Int) < (((skip 0 (l0.drop s.size)).length : Nat) : Int)) = true := decide_eq_true (by omega)
    go_enter Tryd.func17, Tryd.ntmps17
    go_wp2_with (first
      | (go_at_call 20; (with_reducible refine (strf_Loose.calls A0 c0 l0 s _ HR.out HC.out HL.out).mono ?_); rintro e w1 ⟨rfl, hb⟩; have HB1 := Aside0.mk hb; clear hb)
      | (go_at_call 63; (with_reducible refine (bytes_TrimLeft_one' A' _ (c0 - s.size) (l0.drop s.size) 0 _ (by decide) List.length_drop (Kd.C_below HT.out HB1.out) HL2.out).mono ?_); rintro e w2 ⟨⟨A2, c2, rfl, _, _⟩, rfl⟩; rw [show (((0 : UInt8).toNat : Nat) : Int) = 0 from rfl]))
    go_ret2
    exact ⟨rfl, HB1.out⟩
  · rw [if_neg c1] at h
    simp only [Option.some.injEq, Prod.mk.injEq] at h
    obtain ⟨rfl, rfl⟩ := h
    have b1 : decide ((0 : Int) < (((skip 0 (l0.drop s.size)).length : Nat) : Int)) = false := decide_eq_false (by omega)
    go_enter Tryd.func17, Tryd.ntmps17
    go_wp2_with (first
      | (go_at_call 20; (with_reducible refine (strf_Loose.calls A0 c0 l0 s _ HR.out HC.out HL.out).mono ?_); rintro e w1 ⟨rfl, hb⟩; have HB1 := Aside0.mk hb; clear hb)
      | (go_at_call 63; (with_reducible refine (bytes_TrimLeft_one' A' _ (c0 - s.size) (l0.drop s.size) 0 _ (by decide) List.length_drop (Kd.C_below HT.out HB1.out) HL2.out).mono ?_); rintro e w2 ⟨⟨A2, c2, rfl, _, _⟩, rfl⟩; rw [show (((0 : UInt8).toNat : Nat) : Int) = 0 from rfl]))
    go_ret2
    exact ⟨rfl, HB1.out⟩
end Go.Proofs.YtpjanlpjjemenaaDoor.Hand
