import Derived.Test.YthjljkdiglpbaaaDoorZP5
import Derived.Laws.BitsAllLaws
import Derived.SizedLaws
import Derived.ChangeSlices
-- HHead5
/- Contract, by hand, of the document's Parse of headers. -/
namespace Go.Proofs.YthjljkdiglpbaaaDoor.Hand
open Go.RowKit Go.Proofs.YthjljkdiglpbaaaDoor.P Go.Proofs.YthjljkdiglpbaaaDoorW Go.Proofs.YthjljkdiglpbaaaDoorW.PrintWords Go.Proofs.YthjljkdiglpbaaaDoorW.PrintLast Go.Proofs.YthjljkdiglpbaaaDoorW.PrintMore
set_option linter.unusedVariables false
set_option linter.unusedSimpArgs false

def ref_nums (k : Nat) (l : List Int) : List (Nat × Nat) → List Int → Option (List Int × Int)
  | [], acc => some (acc, 0)
  | ab :: t, acc => (thwartref01_Get.f k (cutAt l ab.1 ab.2)).bind fun q => if q.2 = 0 then ref_nums k l t (acc ++ [q.1]) else some (acc, q.2)
def numPairs : List (Nat × Nat) := [(100, 108), (108, 116), (116, 124), (124, 136), (136, 148)]
def ref05_Parse.f (k : Nat) (l : List Int) : Option Head :=
  (thwartref03_Check.f k l).bind fun e => if e = 0 then (if l.length = 512 then (if (strOfNums (cutAt l 257 265)).toList = magicL then
    (thwartref02_Get.f k (cutAt l 345 500)).bind fun p => if p.2 = 0 then (thwartref02_Get.f k (cutAt l 0 100)).bind fun n => if n.2 = 0 then (thwartref02_Get.f k (cutAt l 157 257)).bind fun q => if q.2 = 0 then
      (ref_nums k l numPairs []).bind fun x => if x.2 = 0 then (thwartref05_IsType.f (typeOf l)).bind fun b => (if b = true then (thwartref05_below.f p.1 n.1 (rd x.1 0) (rd x.1 1) (rd x.1 2) (rd x.1 4) (rd x.1 3) (typeOf l) q.1).bind fun c => (if c = true then some (noHead 10) else some (p.1, n.1, rd x.1 0, rd x.1 1, rd x.1 2, rd x.1 4, rd x.1 3, typeOf l, q.1, 0)) else some (noHead 11)) else some (noHead x.2)
      else some (noHead q.2) else some (noHead n.2) else some (noHead p.2)
    else some (noHead 3)) else none) else some (noHead e)
def arrV (acc : List Int) : Array Value := (acc.map (Value.int .i64) ++ List.replicate (5 - acc.length) (Value.int .i64 0)).toArray

set_option maxHeartbeats 16000000 in
set_option maxRecDepth 1000000 in
theorem ref05_Parse.calls (k : Nat) (A0 : Option Addr) (c0 : Nat) (l0 : List Int) (r1 r2 : ByteArray) (r3 r4 r5 r6 r7 r8 : Int) (r9 : ByteArray) (r10 : Int) (w : World) (hr0 : Kd.C (Kd.int .u8) w A0 l0.length l0) (hc0 : l0.length ≤ c0) (h : ref05_Parse.f k l0 = some (r1, r2, r3, r4, r5, r6, r7, r8, r9, r10)) :
    Calls Tryd.prog 27 #[.slice A0 l0.length c0] w fun e w' => e = .returned (.tuple #[.agg #[.string r1, .string r2, .int .i64 r3, .int .i64 r4, .int .i64 r5, .int .i64 r6, .int .i64 r7, .int .u8 r8, .string r9], .int .i64 r10]) ∧ Below w.heap.size w w' := by
  have hu62 := Tryd.underlying62
  have HR0 := Aside0.mk hr0
  have HC0 := Aside0.mk hc0
  obtain ⟨e0, hK, h⟩ := Option.bind_eq_some_iff.1 h
  have HK := Aside0.mk hK
  clear hK hr0 hc0
  by_cases c0_ : ¬ e0 = 0
  · rw [if_neg c0_] at h
    unfold noHead at h
    simp only [Option.some.injEq, Prod.mk.injEq] at h
    obtain ⟨rfl, rfl, rfl, rfl, rfl, rfl, rfl, rfl, rfl, rfl⟩ := h
    have b1 : (e0 != 0) = true := bne_iff_ne.2 c0_
    clear c0_
    go_enter Tryd.func27, Tryd.ntmps27
    go_wp2_with (first | ((with_reducible refine gate_dst (N := 2) rfl ?_); refine box_event ?hg (N := 2) ?hd (cs := #[.string (⟨#[]⟩ : ByteArray), .string (⟨#[]⟩ : ByteArray), .int .i64 0, .int .i64 0, .int .i64 0, .int .i64 0, .int .i64 0, .int .u8 0, .string (⟨#[]⟩ : ByteArray)]) (t := 62) ?hr ?_; (case hd => rfl); (case hg => rfl); (case hr => first | (go_simp; done) | (go_simp; rfl)); intro gg hg w1 hbox hb; have HB := Aside0.mk hb; have BG := Aside0.mk hbox; have GG := Aside0.mk (Nat.le_of_eq hg.symm); clear hb hbox hg) | (go_at_call 50; (with_reducible refine (thwartref03_Check.calls k _ c0 l0 e0 _ (Kd.C_below HR0.out HB.out) HC0.out HK.out).mono ?_); rintro e w2 ⟨rfl, hb⟩; have n0_ := Aside0.mk (below_step HB.out hb); have n1_ := Aside0.mk (blk_below BG.out hb); clear HB BG hb; have HB := n0_; have BG := n1_; clear n0_ n1_; have hg0 := (blk_cell BG.out 0).trans (rfl : _ = some (.string (⟨#[]⟩ : ByteArray) : Value)); have fg0 := blk_frozen BG.out 0; have hg1 := (blk_cell BG.out 1).trans (rfl : _ = some (.string (⟨#[]⟩ : ByteArray) : Value)); have fg1 := blk_frozen BG.out 1; have hg2 := (blk_cell BG.out 2).trans (rfl : _ = some (.int .i64 0 : Value)); have fg2 := blk_frozen BG.out 2; have hg3 := (blk_cell BG.out 3).trans (rfl : _ = some (.int .i64 0 : Value)); have fg3 := blk_frozen BG.out 3; have hg4 := (blk_cell BG.out 4).trans (rfl : _ = some (.int .i64 0 : Value)); have fg4 := blk_frozen BG.out 4; have hg5 := (blk_cell BG.out 5).trans (rfl : _ = some (.int .i64 0 : Value)); have fg5 := blk_frozen BG.out 5; have hg6 := (blk_cell BG.out 6).trans (rfl : _ = some (.int .i64 0 : Value)); have fg6 := blk_frozen BG.out 6; have hg7 := (blk_cell BG.out 7).trans (rfl : _ = some (.int .u8 0 : Value)); have fg7 := blk_frozen BG.out 7; have hg8 := (blk_cell BG.out 8).trans (rfl : _ = some (.string (⟨#[]⟩ : ByteArray) : Value)); have fg8 := blk_frozen BG.out 8))
    refine bodyPost_ret (results_ct rfl _ _ gg 62 #[.string (⟨#[]⟩ : ByteArray), .string (⟨#[]⟩ : ByteArray), .int .i64 0, .int .i64 0, .int .i64 0, .int .i64 0, .int .i64 0, .int .u8 0, .string (⟨#[]⟩ : ByteArray)] (0, 0) _ rfl (by have h_ := (blk_set (blk_set (blk_set (blk_set (blk_set (blk_set (blk_set (blk_set (blk_set BG.out 0 (.string (⟨#[]⟩ : ByteArray))) 1 (.string (⟨#[]⟩ : ByteArray))) 2 (.int .i64 0)) 3 (.int .i64 0)) 4 (.int .i64 0)) 5 (.int .i64 0)) 6 (.int .i64 0)) 7 (.int .u8 0)) 8 (.string (⟨#[]⟩ : ByteArray))); exact h_) Tryd.underlying62 rfl (by kernel_rfl)) rfl ?_
    exact ⟨rfl, (by repeat (first | (with_reducible first | exact HB.out | apply below_alloc | apply pw_below_drewN | apply below_drew1 | refine below_set ?_ GG.out | refine below_set ?_ GH.out) | exact HB.out))⟩
  have c0_' := Decidable.of_not_not c0_
  subst c0_'
  clear c0_
  rw [if_pos rfl] at h
  split at h
  case isFalse => cases h
  rename_i hlen
  have HL := Aside0.mk hlen
  clear hlen
  obtain ⟨i5, hi5, hz5, hs5, hb5⟩ := info_parts info5
  unfold cutAt at h
  rw [show (l0.take 100).drop 0 = l0.take 100 from List.drop_zero] at h
  obtain ⟨Ax, hcutx, hAx, hCx⟩ := print_mid_int (P := Tryd.prog) (k := .u8) 22 5 Tryd.underlying22 hi5 hs5 A0 c0 l0 257 265 (by decide) (by decide) (by have := HL.out; omega) HC0.out
  rw [show ((257 : Int)).toNat = 257 from rfl, show ((265 : Int)).toNat = 265 from rfl] at hcutx hAx hCx
  generalize hmx : (l0.take 265).drop 257 = mx at hcutx hAx hCx h
  clear hmx
  have HRx := Aside0.mk (show Kd.C (Kd.int .u8) w Ax mx.length mx from Kd.C_of_reads (enc := Value.int .u8) (d := (0 : Int)) (h1 := fun _ => rfl) (hAx w (Kd.reads_of_C (enc := Value.int .u8) (d := (0 : Int)) (h1 := fun _ => rfl) HR0.out)))
  have HCx := Aside0.mk hCx
  clear hAx hCx
  obtain ⟨Ap, hcutp, hAp, hCp⟩ := print_mid_int (P := Tryd.prog) (k := .u8) 22 5 Tryd.underlying22 hi5 hs5 A0 c0 l0 345 500 (by decide) (by decide) (by have := HL.out; omega) HC0.out
  rw [show ((345 : Int)).toNat = 345 from rfl, show ((500 : Int)).toNat = 500 from rfl] at hcutp hAp hCp
  generalize hmp : (l0.take 500).drop 345 = mp at hcutp hAp hCp h
  clear hmp
  have HRp := Aside0.mk (show Kd.C (Kd.int .u8) w Ap mp.length mp from Kd.C_of_reads (enc := Value.int .u8) (d := (0 : Int)) (h1 := fun _ => rfl) (hAp w (Kd.reads_of_C (enc := Value.int .u8) (d := (0 : Int)) (h1 := fun _ => rfl) HR0.out)))
  have HCp := Aside0.mk hCp
  clear hAp hCp
  obtain ⟨hcutn, hAn, hCn⟩ := print_take_of (P := Tryd.prog) (Value.int .u8) 0 22 5 .i64 Tryd.underlying22 hi5 hs5 A0 c0 l0 (100 : Int) (by decide) (by have := HL.out; omega) HC0.out
  rw [show ((100 : Int)).toNat = 100 from rfl] at hcutn hAn hCn
  generalize hmn : l0.take 100 = mn at hcutn hAn hCn h
  clear hmn
  have HRn := Aside0.mk (show Kd.C (Kd.int .u8) w A0 mn.length mn from Kd.C_of_reads (enc := Value.int .u8) (d := (0 : Int)) (h1 := fun _ => rfl) (hAn w (Kd.reads_of_C (enc := Value.int .u8) (d := (0 : Int)) (h1 := fun _ => rfl) HR0.out)))
  have HCn := Aside0.mk hCn
  clear hAn hCn
  obtain ⟨Al, hcutl, hAl, hCl⟩ := print_mid_int (P := Tryd.prog) (k := .u8) 22 5 Tryd.underlying22 hi5 hs5 A0 c0 l0 157 257 (by decide) (by decide) (by have := HL.out; omega) HC0.out
  rw [show ((157 : Int)).toNat = 157 from rfl, show ((257 : Int)).toNat = 257 from rfl] at hcutl hAl hCl
  generalize hml : (l0.take 257).drop 157 = ml at hcutl hAl hCl h
  clear hml
  have HRl := Aside0.mk (show Kd.C (Kd.int .u8) w Al ml.length ml from Kd.C_of_reads (enc := Value.int .u8) (d := (0 : Int)) (h1 := fun _ => rfl) (hAl w (Kd.reads_of_C (enc := Value.int .u8) (d := (0 : Int)) (h1 := fun _ => rfl) HR0.out)))
  have HCl := Aside0.mk hCl
  clear hAl hCl
  by_cases cx : (strOfNums mx).toList = magicL
  case neg =>
    rw [if_neg cx] at h
    unfold noHead at h
    simp only [Option.some.injEq, Prod.mk.injEq] at h
    obtain ⟨rfl, rfl, rfl, rfl, rfl, rfl, rfl, rfl, rfl, rfl⟩ := h
    have bx : ((strOfNums mx).toList == ([117, 115, 116, 97, 114, 0, 48, 48] : List UInt8)) = false := beq_eq_false_iff_ne.2 cx
    clear cx
    go_enter Tryd.func27, Tryd.ntmps27
    go_wp2_with (first | ((with_reducible refine gate_dst (N := 2) rfl ?_); refine box_event ?hg (N := 2) ?hd (cs := #[.string (⟨#[]⟩ : ByteArray), .string (⟨#[]⟩ : ByteArray), .int .i64 0, .int .i64 0, .int .i64 0, .int .i64 0, .int .i64 0, .int .u8 0, .string (⟨#[]⟩ : ByteArray)]) (t := 62) ?hr ?_; (case hd => rfl); (case hg => rfl); (case hr => first | (go_simp; done) | (go_simp; rfl)); intro gg hg w1 hbox hb; have HB := Aside0.mk hb; have BG := Aside0.mk hbox; have GG := Aside0.mk (Nat.le_of_eq hg.symm); clear hb hbox hg) | (go_at_call 50; (with_reducible refine (thwartref03_Check.calls k _ c0 l0 0 _ (Kd.C_below HR0.out HB.out) HC0.out HK.out).mono ?_); rintro e w2 ⟨rfl, hb⟩; have n0_ := Aside0.mk (below_step HB.out hb); have n1_ := Aside0.mk (blk_below BG.out hb); clear HB BG hb; have HB := n0_; have BG := n1_; clear n0_ n1_; have hcv := Kd.C_string (P := Tryd.prog) (A := Ax) (c := c0 - 257) Tryd.underlying22 Tryd.underlying5 Tryd.underlying9 (Kd.C_below HRx.out HB.out); have hg0 := (blk_cell BG.out 0).trans (rfl : _ = some (.string (⟨#[]⟩ : ByteArray) : Value)); have fg0 := blk_frozen BG.out 0; have hg1 := (blk_cell BG.out 1).trans (rfl : _ = some (.string (⟨#[]⟩ : ByteArray) : Value)); have fg1 := blk_frozen BG.out 1; have hg2 := (blk_cell BG.out 2).trans (rfl : _ = some (.int .i64 0 : Value)); have fg2 := blk_frozen BG.out 2; have hg3 := (blk_cell BG.out 3).trans (rfl : _ = some (.int .i64 0 : Value)); have fg3 := blk_frozen BG.out 3; have hg4 := (blk_cell BG.out 4).trans (rfl : _ = some (.int .i64 0 : Value)); have fg4 := blk_frozen BG.out 4; have hg5 := (blk_cell BG.out 5).trans (rfl : _ = some (.int .i64 0 : Value)); have fg5 := blk_frozen BG.out 5; have hg6 := (blk_cell BG.out 6).trans (rfl : _ = some (.int .i64 0 : Value)); have fg6 := blk_frozen BG.out 6; have hg7 := (blk_cell BG.out 7).trans (rfl : _ = some (.int .u8 0 : Value)); have fg7 := blk_frozen BG.out 7; have hg8 := (blk_cell BG.out 8).trans (rfl : _ = some (.string (⟨#[]⟩ : ByteArray) : Value)); have fg8 := blk_frozen BG.out 8))
    refine bodyPost_ret (results_ct rfl _ _ gg 62 #[.string (⟨#[]⟩ : ByteArray), .string (⟨#[]⟩ : ByteArray), .int .i64 0, .int .i64 0, .int .i64 0, .int .i64 0, .int .i64 0, .int .u8 0, .string (⟨#[]⟩ : ByteArray)] (0, 0) _ rfl (by have h_ := (blk_set (blk_set (blk_set (blk_set (blk_set (blk_set (blk_set (blk_set (blk_set BG.out 0 (.string (⟨#[]⟩ : ByteArray))) 1 (.string (⟨#[]⟩ : ByteArray))) 2 (.int .i64 0)) 3 (.int .i64 0)) 4 (.int .i64 0)) 5 (.int .i64 0)) 6 (.int .i64 0)) 7 (.int .u8 0)) 8 (.string (⟨#[]⟩ : ByteArray))); exact h_) Tryd.underlying62 rfl (by kernel_rfl)) rfl ?_
    exact ⟨rfl, (by repeat (first | (with_reducible first | exact HB.out | apply below_alloc | apply pw_below_drewN | apply below_drew1 | refine below_set ?_ GG.out | refine below_set ?_ GH.out) | exact HB.out))⟩
  rw [if_pos cx] at h
  have bx : ((strOfNums mx).toList == ([117, 115, 116, 97, 114, 0, 48, 48] : List UInt8)) = true := beq_iff_eq.2 cx
  clear cx
  have hl156 : 156 < l0.length := by have := HL.out; omega
  obtain ⟨ab, ao, ea, hx156⟩ := C_at HR0.out 156 hl156
  cases ea
  rw [show l0[156] = rd l0 156 by unfold rd; simp [List.getD_eq_getElem?_getD, hl156]] at hx156
  clear hl156
  unfold typeOf at h
  generalize rd l0 156 = x7 at h hx156
  have HH := Aside0.mk h
  clear h
  have q156 : (156 : Int) < (l0.length : Int) := by have := HL.out; omega
  have Q156 := Aside0.mk q156
  replace q156 := eq_true q156
  go_enter Tryd.func27, Tryd.ntmps27
  go_upto_if 31 with (first | ((with_reducible refine gate_dst (N := 2) rfl ?_); refine box_event ?hg (N := 2) ?hd (cs := #[.string (⟨#[]⟩ : ByteArray), .string (⟨#[]⟩ : ByteArray), .int .i64 0, .int .i64 0, .int .i64 0, .int .i64 0, .int .i64 0, .int .u8 0, .string (⟨#[]⟩ : ByteArray)]) (t := 62) ?hr ?_; (case hd => rfl); (case hg => rfl); (case hr => first | (go_simp; done) | (go_simp; rfl)); intro gg hg w1 hbox hb; have HB := Aside0.mk hb; have BG := Aside0.mk hbox; have GG := Aside0.mk (Nat.le_of_eq hg.symm); clear hb hbox hg) | (go_at_call 50; (with_reducible refine (thwartref03_Check.calls k _ c0 l0 0 _ (Kd.C_below HR0.out HB.out) HC0.out HK.out).mono ?_); rintro e w2 ⟨rfl, hb⟩; have n0_ := Aside0.mk (below_step HB.out hb); have n1_ := Aside0.mk (blk_below BG.out hb); clear HB BG hb; have HB := n0_; have BG := n1_; clear n0_ n1_; have hcv := Kd.C_string (P := Tryd.prog) (A := Ax) (c := c0 - 257) Tryd.underlying22 Tryd.underlying5 Tryd.underlying9 (Kd.C_below HRx.out HB.out); have hx7 := (HB.out.cell (World.block_lt_of_cell? w _ hx156)).trans hx156) | ((with_reducible refine gate_dst (N := 5) rfl ?_); refine box_event ?hg (N := 5) ?hd (cs := #[.string (⟨#[]⟩ : ByteArray), .string (⟨#[]⟩ : ByteArray), .int .i64 0, .int .i64 0, .int .i64 0, .int .i64 0, .int .i64 0, .int .u8 0, .string (⟨#[]⟩ : ByteArray)]) (t := 62) ?hr ?_; (case hd => rfl); (case hg => rfl); (case hr => first | (go_simp; done) | (go_simp; rfl)); intro gh hg w3 hbox hb; have n0_ := Aside0.mk (below_step HB.out hb); have n1_ := Aside0.mk (blk_below BG.out hb); have GH := Aside0.mk (Nat.le_trans (below_size HB.out) (Nat.le_of_eq hg.symm)); have NGH : Aside0 (gg ≠ gh) := ⟨by have := blk_lt BG.out; omega⟩; have BH := Aside0.mk hbox; clear HB BG hb hbox hg hx7; have HB := n0_; have BG := n1_; clear n0_ n1_; have hh0 := (blk_cell BH.out 0).trans (rfl : _ = some (.string (⟨#[]⟩ : ByteArray) : Value)); have fh0 := blk_frozen BH.out 0; have hh1 := (blk_cell BH.out 1).trans (rfl : _ = some (.string (⟨#[]⟩ : ByteArray) : Value)); have fh1 := blk_frozen BH.out 1; have hh2 := (blk_cell BH.out 2).trans (rfl : _ = some (.int .i64 0 : Value)); have fh2 := blk_frozen BH.out 2; have hh3 := (blk_cell BH.out 3).trans (rfl : _ = some (.int .i64 0 : Value)); have fh3 := blk_frozen BH.out 3; have hh4 := (blk_cell BH.out 4).trans (rfl : _ = some (.int .i64 0 : Value)); have fh4 := blk_frozen BH.out 4; have hh5 := (blk_cell BH.out 5).trans (rfl : _ = some (.int .i64 0 : Value)); have fh5 := blk_frozen BH.out 5; have hh6 := (blk_cell BH.out 6).trans (rfl : _ = some (.int .i64 0 : Value)); have fh6 := blk_frozen BH.out 6; have hh7 := (blk_cell BH.out 7).trans (rfl : _ = some (.int .u8 0 : Value)); have fh7 := blk_frozen BH.out 7; have hh8 := (blk_cell BH.out 8).trans (rfl : _ = some (.string (⟨#[]⟩ : ByteArray) : Value)); have fh8 := blk_frozen BH.out 8))
  obtain ⟨ty, hty⟩ : ∃ t_, (if x7 = 0 then (48 : Int) else x7) = t_ := ⟨_, rfl⟩
  have h := HH.out
  rw [hty] at h
  clear HH
  have HH := Aside0.mk h
  have HTY := Aside0.mk hty
  clear h hty
  go_cut [] (fun wc => Aside0 (Below w.heap.size w wc) ∧ Aside0 (wc.heap[gg]? = some (.cells #[.string (⟨#[]⟩ : ByteArray), .string (⟨#[]⟩ : ByteArray), .int .i64 0, .int .i64 0, .int .i64 0, .int .i64 0, .int .i64 0, .int .u8 0, .string (⟨#[]⟩ : ByteArray)] 62 (0, 0))) ∧ Aside0 (wc.heap[gh]? = some (.cells #[.string (⟨#[]⟩ : ByteArray), .string (⟨#[]⟩ : ByteArray), .int .i64 0, .int .i64 0, .int .i64 0, .int .i64 0, .int .i64 0, .int .u8 ty, .string (⟨#[]⟩ : ByteArray)] 62 (0, 0))))
  case first =>
    by_cases cz : x7 = 0
    · have bz : (x7 == 0) = true := beq_iff_eq.2 cz
      have e_ := HTY.out
      rw [if_pos cz] at e_
      subst e_
      clear cz
      go_wp2
      go_meet
      case rel => exact ⟨⟨(below_set (j := 7) (v := .int .u8 48) (below_set (j := 8) (v := .string (⟨#[]⟩ : ByteArray)) (below_set (j := 7) (v := .int .u8 x7) (below_set (j := 6) (v := .int .i64 0) (below_set (j := 5) (v := .int .i64 0) (below_set (j := 4) (v := .int .i64 0) (below_set (j := 3) (v := .int .i64 0) (below_set (j := 2) (v := .int .i64 0) (below_set (j := 1) (v := .string (⟨#[]⟩ : ByteArray)) (below_set (j := 0) (v := .string (⟨#[]⟩ : ByteArray)) HB.out GH.out) GH.out) GH.out) GH.out) GH.out) GH.out) GH.out) GH.out) GH.out) GH.out)⟩, ⟨(blk_far (blk_far (blk_far (blk_far (blk_far (blk_far (blk_far (blk_far (blk_far (blk_far BG.out (p := ⟨gh, 0, none⟩) NGH.out (.string (⟨#[]⟩ : ByteArray))) (p := ⟨gh, 1, none⟩) NGH.out (.string (⟨#[]⟩ : ByteArray))) (p := ⟨gh, 2, none⟩) NGH.out (.int .i64 0)) (p := ⟨gh, 3, none⟩) NGH.out (.int .i64 0)) (p := ⟨gh, 4, none⟩) NGH.out (.int .i64 0)) (p := ⟨gh, 5, none⟩) NGH.out (.int .i64 0)) (p := ⟨gh, 6, none⟩) NGH.out (.int .i64 0)) (p := ⟨gh, 7, none⟩) NGH.out (.int .u8 x7)) (p := ⟨gh, 8, none⟩) NGH.out (.string (⟨#[]⟩ : ByteArray))) (p := ⟨gh, 7, none⟩) NGH.out (.int .u8 48))⟩, ⟨by have h_ := (blk_set (blk_set (blk_set (blk_set (blk_set (blk_set (blk_set (blk_set (blk_set (blk_set BH.out 0 (.string (⟨#[]⟩ : ByteArray))) 1 (.string (⟨#[]⟩ : ByteArray))) 2 (.int .i64 0)) 3 (.int .i64 0)) 4 (.int .i64 0)) 5 (.int .i64 0)) 6 (.int .i64 0)) 7 (.int .u8 x7)) 8 (.string (⟨#[]⟩ : ByteArray))) 7 (.int .u8 48)); exact h_⟩⟩
    · have bz : (x7 == 0) = false := beq_eq_false_iff_ne.2 cz
      have e_ := HTY.out
      rw [if_neg cz] at e_
      subst e_
      clear cz
      go_wp2
      go_meet
      case rel => exact ⟨⟨(below_set (j := 8) (v := .string (⟨#[]⟩ : ByteArray)) (below_set (j := 7) (v := .int .u8 x7) (below_set (j := 6) (v := .int .i64 0) (below_set (j := 5) (v := .int .i64 0) (below_set (j := 4) (v := .int .i64 0) (below_set (j := 3) (v := .int .i64 0) (below_set (j := 2) (v := .int .i64 0) (below_set (j := 1) (v := .string (⟨#[]⟩ : ByteArray)) (below_set (j := 0) (v := .string (⟨#[]⟩ : ByteArray)) HB.out GH.out) GH.out) GH.out) GH.out) GH.out) GH.out) GH.out) GH.out) GH.out)⟩, ⟨(blk_far (blk_far (blk_far (blk_far (blk_far (blk_far (blk_far (blk_far (blk_far BG.out (p := ⟨gh, 0, none⟩) NGH.out (.string (⟨#[]⟩ : ByteArray))) (p := ⟨gh, 1, none⟩) NGH.out (.string (⟨#[]⟩ : ByteArray))) (p := ⟨gh, 2, none⟩) NGH.out (.int .i64 0)) (p := ⟨gh, 3, none⟩) NGH.out (.int .i64 0)) (p := ⟨gh, 4, none⟩) NGH.out (.int .i64 0)) (p := ⟨gh, 5, none⟩) NGH.out (.int .i64 0)) (p := ⟨gh, 6, none⟩) NGH.out (.int .i64 0)) (p := ⟨gh, 7, none⟩) NGH.out (.int .u8 x7)) (p := ⟨gh, 8, none⟩) NGH.out (.string (⟨#[]⟩ : ByteArray)))⟩, ⟨by have h_ := (blk_set (blk_set (blk_set (blk_set (blk_set (blk_set (blk_set (blk_set (blk_set BH.out 0 (.string (⟨#[]⟩ : ByteArray))) 1 (.string (⟨#[]⟩ : ByteArray))) 2 (.int .i64 0)) 3 (.int .i64 0)) 4 (.int .i64 0)) 5 (.int .i64 0)) 6 (.int .i64 0)) 7 (.int .u8 x7)) 8 (.string (⟨#[]⟩ : ByteArray))); exact h_⟩⟩
  case rest =>
    obtain ⟨n0_, n1_, n2_⟩ := hcut
    clear HB BG BH hh0 fh0 hh1 fh1 hh2 fh2 hh3 fh3 hh4 fh4 hh5 fh5 hh6 fh6 hh7 fh7 hh8 fh8 hx156 q156
    have HB := n0_
    have BG := n1_
    have BH := n2_
    clear n0_ n1_ n2_
    have h := HH.out
    clear HH
    obtain ⟨⟨p_, pe⟩, hg_, h⟩ := Option.bind_eq_some_iff.1 h
    dsimp only at h
    have HG := Aside0.mk hg_
    have HH := Aside0.mk h
    clear hg_ h
    go_wp2_with fail
    go_at_call 51
    with_reducible refine (thwartref02_Get.calls k Ap (c0 - 345) mp p_ pe _ (Kd.C_below HRp.out HB.out) HCp.out HG.out).mono ?_
    rintro e w4 ⟨rfl, hd⟩
    have hb := drawn_below hd
    have n0_ := Aside0.mk (below_step HB.out hb)
    have n1_ := Aside0.mk (blk_below BG.out hb)
    have n2_ := Aside0.mk (blk_below BH.out hb)
    clear HB BG BH hb hd HG
    have HB := n0_
    have BG := n1_
    have BH := n2_
    clear n0_ n1_ n2_
    by_cases ce : ¬ pe = 0
    · have h := HH.out
      clear HH
      rw [if_neg ce] at h
      unfold noHead at h
      simp only [Option.some.injEq, Prod.mk.injEq] at h
      obtain ⟨rfl, rfl, rfl, rfl, rfl, rfl, rfl, rfl, rfl, rfl⟩ := h
      have b1 : (pe != 0) = true := bne_iff_ne.2 ce
      clear ce
      have hg0 := (blk_cell BG.out 0).trans (rfl : _ = some (.string (⟨#[]⟩ : ByteArray) : Value))
      have fg0 := blk_frozen BG.out 0
      have hg1 := (blk_cell BG.out 1).trans (rfl : _ = some (.string (⟨#[]⟩ : ByteArray) : Value))
      have fg1 := blk_frozen BG.out 1
      have hg2 := (blk_cell BG.out 2).trans (rfl : _ = some (.int .i64 0 : Value))
      have fg2 := blk_frozen BG.out 2
      have hg3 := (blk_cell BG.out 3).trans (rfl : _ = some (.int .i64 0 : Value))
      have fg3 := blk_frozen BG.out 3
      have hg4 := (blk_cell BG.out 4).trans (rfl : _ = some (.int .i64 0 : Value))
      have fg4 := blk_frozen BG.out 4
      have hg5 := (blk_cell BG.out 5).trans (rfl : _ = some (.int .i64 0 : Value))
      have fg5 := blk_frozen BG.out 5
      have hg6 := (blk_cell BG.out 6).trans (rfl : _ = some (.int .i64 0 : Value))
      have fg6 := blk_frozen BG.out 6
      have hg7 := (blk_cell BG.out 7).trans (rfl : _ = some (.int .u8 0 : Value))
      have fg7 := blk_frozen BG.out 7
      have hg8 := (blk_cell BG.out 8).trans (rfl : _ = some (.string (⟨#[]⟩ : ByteArray) : Value))
      have fg8 := blk_frozen BG.out 8
      go_wp2
      refine bodyPost_ret (results_ct rfl _ _ gg 62 #[.string (⟨#[]⟩ : ByteArray), .string (⟨#[]⟩ : ByteArray), .int .i64 0, .int .i64 0, .int .i64 0, .int .i64 0, .int .i64 0, .int .u8 0, .string (⟨#[]⟩ : ByteArray)] (0, 0) _ rfl (by have h_ := (blk_set (blk_set (blk_set (blk_set (blk_set (blk_set (blk_set (blk_set (blk_set BG.out 0 (.string (⟨#[]⟩ : ByteArray))) 1 (.string (⟨#[]⟩ : ByteArray))) 2 (.int .i64 0)) 3 (.int .i64 0)) 4 (.int .i64 0)) 5 (.int .i64 0)) 6 (.int .i64 0)) 7 (.int .u8 0)) 8 (.string (⟨#[]⟩ : ByteArray))); exact h_) Tryd.underlying62 rfl (by kernel_rfl)) rfl ?_
      exact ⟨rfl, (by repeat (first | (with_reducible first | exact HB.out | apply below_alloc | apply pw_below_drewN | apply below_drew1 | refine below_set ?_ GG.out | refine below_set ?_ GH.out) | exact HB.out))⟩
    have ce' := Decidable.of_not_not ce
    subst ce'
    clear ce
    have h := HH.out
    rw [if_pos rfl] at h
    clear HH
    have HH := Aside0.mk h
    clear h
    go_wp2_with fail
    have h := HH.out
    clear HH
    obtain ⟨⟨n_, ne⟩, hg_, h⟩ := Option.bind_eq_some_iff.1 h
    dsimp only at h
    have HG := Aside0.mk hg_
    have HH := Aside0.mk h
    clear hg_ h
    go_at_call 51
    with_reducible refine (thwartref02_Get.calls k _ c0 mn n_ ne _ (Kd.C_below HRn.out HB.out) HCn.out HG.out).mono ?_
    rintro e w5 ⟨rfl, hd⟩
    have hb := drawn_below hd
    have n0_ := Aside0.mk (below_step HB.out hb)
    have n1_ := Aside0.mk (blk_below BG.out hb)
    have n2_ := Aside0.mk (blk_below BH.out hb)
    clear HB BG BH hb hd HG
    have HB := n0_
    have BG := n1_
    have BH := n2_
    clear n0_ n1_ n2_
    by_cases ce : ¬ ne = 0
    · have h := HH.out
      clear HH
      rw [if_neg ce] at h
      unfold noHead at h
      simp only [Option.some.injEq, Prod.mk.injEq] at h
      obtain ⟨rfl, rfl, rfl, rfl, rfl, rfl, rfl, rfl, rfl, rfl⟩ := h
      have b1 : (ne != 0) = true := bne_iff_ne.2 ce
      clear ce
      have hg0 := (blk_cell BG.out 0).trans (rfl : _ = some (.string (⟨#[]⟩ : ByteArray) : Value))
      have fg0 := blk_frozen BG.out 0
      have hg1 := (blk_cell BG.out 1).trans (rfl : _ = some (.string (⟨#[]⟩ : ByteArray) : Value))
      have fg1 := blk_frozen BG.out 1
      have hg2 := (blk_cell BG.out 2).trans (rfl : _ = some (.int .i64 0 : Value))
      have fg2 := blk_frozen BG.out 2
      have hg3 := (blk_cell BG.out 3).trans (rfl : _ = some (.int .i64 0 : Value))
      have fg3 := blk_frozen BG.out 3
      have hg4 := (blk_cell BG.out 4).trans (rfl : _ = some (.int .i64 0 : Value))
      have fg4 := blk_frozen BG.out 4
      have hg5 := (blk_cell BG.out 5).trans (rfl : _ = some (.int .i64 0 : Value))
      have fg5 := blk_frozen BG.out 5
      have hg6 := (blk_cell BG.out 6).trans (rfl : _ = some (.int .i64 0 : Value))
      have fg6 := blk_frozen BG.out 6
      have hg7 := (blk_cell BG.out 7).trans (rfl : _ = some (.int .u8 0 : Value))
      have fg7 := blk_frozen BG.out 7
      have hg8 := (blk_cell BG.out 8).trans (rfl : _ = some (.string (⟨#[]⟩ : ByteArray) : Value))
      have fg8 := blk_frozen BG.out 8
      go_wp2
      refine bodyPost_ret (results_ct rfl _ _ gg 62 #[.string (⟨#[]⟩ : ByteArray), .string (⟨#[]⟩ : ByteArray), .int .i64 0, .int .i64 0, .int .i64 0, .int .i64 0, .int .i64 0, .int .u8 0, .string (⟨#[]⟩ : ByteArray)] (0, 0) _ rfl (by have h_ := (blk_set (blk_set (blk_set (blk_set (blk_set (blk_set (blk_set (blk_set (blk_set BG.out 0 (.string (⟨#[]⟩ : ByteArray))) 1 (.string (⟨#[]⟩ : ByteArray))) 2 (.int .i64 0)) 3 (.int .i64 0)) 4 (.int .i64 0)) 5 (.int .i64 0)) 6 (.int .i64 0)) 7 (.int .u8 0)) 8 (.string (⟨#[]⟩ : ByteArray))); exact h_) Tryd.underlying62 rfl (by kernel_rfl)) rfl ?_
      exact ⟨rfl, (by repeat (first | (with_reducible first | exact HB.out | apply below_alloc | apply pw_below_drewN | apply below_drew1 | refine below_set ?_ GG.out | refine below_set ?_ GH.out) | exact HB.out))⟩
    have ce' := Decidable.of_not_not ce
    subst ce'
    clear ce
    have h := HH.out
    rw [if_pos rfl] at h
    clear HH
    have HH := Aside0.mk h
    clear h
    go_wp2_with fail
    have h := HH.out
    clear HH
    obtain ⟨⟨l_, le⟩, hg_, h⟩ := Option.bind_eq_some_iff.1 h
    dsimp only at h
    have HG := Aside0.mk hg_
    have HH := Aside0.mk h
    clear hg_ h
    go_at_call 51
    with_reducible refine (thwartref02_Get.calls k Al (c0 - 157) ml l_ le _ (Kd.C_below HRl.out HB.out) HCl.out HG.out).mono ?_
    rintro e w6 ⟨rfl, hd⟩
    have hb := drawn_below hd
    have n0_ := Aside0.mk (below_step HB.out hb)
    have n1_ := Aside0.mk (blk_below BG.out hb)
    have n2_ := Aside0.mk (blk_below BH.out hb)
    clear HB BG BH hb hd HG
    have HB := n0_
    have BG := n1_
    have BH := n2_
    clear n0_ n1_ n2_
    by_cases ce : ¬ le = 0
    · have h := HH.out
      clear HH
      rw [if_neg ce] at h
      unfold noHead at h
      simp only [Option.some.injEq, Prod.mk.injEq] at h
      obtain ⟨rfl, rfl, rfl, rfl, rfl, rfl, rfl, rfl, rfl, rfl⟩ := h
      have b1 : (le != 0) = true := bne_iff_ne.2 ce
      clear ce
      have hg0 := (blk_cell BG.out 0).trans (rfl : _ = some (.string (⟨#[]⟩ : ByteArray) : Value))
      have fg0 := blk_frozen BG.out 0
      have hg1 := (blk_cell BG.out 1).trans (rfl : _ = some (.string (⟨#[]⟩ : ByteArray) : Value))
      have fg1 := blk_frozen BG.out 1
      have hg2 := (blk_cell BG.out 2).trans (rfl : _ = some (.int .i64 0 : Value))
      have fg2 := blk_frozen BG.out 2
      have hg3 := (blk_cell BG.out 3).trans (rfl : _ = some (.int .i64 0 : Value))
      have fg3 := blk_frozen BG.out 3
      have hg4 := (blk_cell BG.out 4).trans (rfl : _ = some (.int .i64 0 : Value))
      have fg4 := blk_frozen BG.out 4
      have hg5 := (blk_cell BG.out 5).trans (rfl : _ = some (.int .i64 0 : Value))
      have fg5 := blk_frozen BG.out 5
      have hg6 := (blk_cell BG.out 6).trans (rfl : _ = some (.int .i64 0 : Value))
      have fg6 := blk_frozen BG.out 6
      have hg7 := (blk_cell BG.out 7).trans (rfl : _ = some (.int .u8 0 : Value))
      have fg7 := blk_frozen BG.out 7
      have hg8 := (blk_cell BG.out 8).trans (rfl : _ = some (.string (⟨#[]⟩ : ByteArray) : Value))
      have fg8 := blk_frozen BG.out 8
      go_wp2
      refine bodyPost_ret (results_ct rfl _ _ gg 62 #[.string (⟨#[]⟩ : ByteArray), .string (⟨#[]⟩ : ByteArray), .int .i64 0, .int .i64 0, .int .i64 0, .int .i64 0, .int .i64 0, .int .u8 0, .string (⟨#[]⟩ : ByteArray)] (0, 0) _ rfl (by have h_ := (blk_set (blk_set (blk_set (blk_set (blk_set (blk_set (blk_set (blk_set (blk_set BG.out 0 (.string (⟨#[]⟩ : ByteArray))) 1 (.string (⟨#[]⟩ : ByteArray))) 2 (.int .i64 0)) 3 (.int .i64 0)) 4 (.int .i64 0)) 5 (.int .i64 0)) 6 (.int .i64 0)) 7 (.int .u8 0)) 8 (.string (⟨#[]⟩ : ByteArray))); exact h_) Tryd.underlying62 rfl (by kernel_rfl)) rfl ?_
      exact ⟨rfl, (by repeat (first | (with_reducible first | exact HB.out | apply below_alloc | apply pw_below_drewN | apply below_drew1 | refine below_set ?_ GG.out | refine below_set ?_ GH.out) | exact HB.out))⟩
    have ce' := Decidable.of_not_not ce
    subst ce'
    clear ce
    have h := HH.out
    rw [if_pos rfl] at h
    clear HH
    have HH := Aside0.mk h
    clear h
    have hh0 := (blk_cell BH.out 0).trans (rfl : _ = some (.string (⟨#[]⟩ : ByteArray) : Value))
    have fh0 := blk_frozen BH.out 0
    have hh1 := (blk_cell BH.out 1).trans (rfl : _ = some (.string (⟨#[]⟩ : ByteArray) : Value))
    have fh1 := blk_frozen BH.out 1
    have hh2 := (blk_cell BH.out 2).trans (rfl : _ = some (.int .i64 0 : Value))
    have fh2 := blk_frozen BH.out 2
    have hh3 := (blk_cell BH.out 3).trans (rfl : _ = some (.int .i64 0 : Value))
    have fh3 := blk_frozen BH.out 3
    have hh4 := (blk_cell BH.out 4).trans (rfl : _ = some (.int .i64 0 : Value))
    have fh4 := blk_frozen BH.out 4
    have hh5 := (blk_cell BH.out 5).trans (rfl : _ = some (.int .i64 0 : Value))
    have fh5 := blk_frozen BH.out 5
    have hh6 := (blk_cell BH.out 6).trans (rfl : _ = some (.int .i64 0 : Value))
    have fh6 := blk_frozen BH.out 6
    have hh7 := (blk_cell BH.out 7).trans (rfl : _ = some (.int .u8 ty : Value))
    have fh7 := blk_frozen BH.out 7
    have hh8 := (blk_cell BH.out 8).trans (rfl : _ = some (.string (⟨#[]⟩ : ByteArray) : Value))
    have fh8 := blk_frozen BH.out 8
    go_wp2_with (((with_reducible refine gate_dst (N := 12) rfl ?_); refine box_event ?hg (N := 12) ?hd (cs := #[.int .i64 0, .int .i64 0, .int .i64 0, .int .i64 0, .int .i64 0]) (t := 97) ?hr ?_; (case hd => rfl); (case hg => rfl); (case hr => first | (go_simp; done) | (go_simp; rfl)); intro gn hg w7 hbox hb; have n0_ := Aside0.mk (below_step (by repeat (first | (with_reducible first | exact HB.out | apply below_alloc | apply pw_below_drewN | apply below_drew1 | refine below_set ?_ GG.out | refine below_set ?_ GH.out) | exact HB.out)) hb); have n1_ := Aside0.mk (blk_below (g := gg) (o := .cells #[.string (⟨#[]⟩ : ByteArray), .string (⟨#[]⟩ : ByteArray), .int .i64 0, .int .i64 0, .int .i64 0, .int .i64 0, .int .i64 0, .int .u8 0, .string (⟨#[]⟩ : ByteArray)] 62 (0, 0)) (blk_alloc (blk_alloc (blk_far (blk_far (blk_far BG.out (p := ⟨gh, 0, none⟩) NGH.out (.string p_)) (p := ⟨gh, 1, none⟩) NGH.out (.string n_)) (p := ⟨gh, 8, none⟩) NGH.out (.string l_)) _) _) hb); have n2_ := Aside0.mk (blk_below (g := gh) (o := .cells #[.string p_, .string n_, .int .i64 0, .int .i64 0, .int .i64 0, .int .i64 0, .int .i64 0, .int .u8 ty, .string l_] 62 (0, 0)) (blk_alloc (blk_alloc (by have h_ := (blk_set (blk_set (blk_set BH.out 0 (.string p_)) 1 (.string n_)) 8 (.string l_)); exact h_) _) _) hb); have BF := Aside0.mk (blk_below (blk_alloc (blk_new (World.setCell (World.setCell (World.setCell w6 ⟨gh, 0, none⟩ (.string p_)) ⟨gh, 1, none⟩ (.string n_)) ⟨gh, 8, none⟩ (.string l_)) (.cells #[.int .i64 100, .int .i64 108, .int .i64 116, .int .i64 124, .int .i64 136] 3)) (.cells #[.int .i64 108, .int .i64 116, .int .i64 124, .int .i64 136, .int .i64 148] 3)) hb); have BT := Aside0.mk (blk_below (blk_new (World.alloc (World.setCell (World.setCell (World.setCell w6 ⟨gh, 0, none⟩ (.string p_)) ⟨gh, 1, none⟩ (.string n_)) ⟨gh, 8, none⟩ (.string l_)) (.cells #[.int .i64 100, .int .i64 108, .int .i64 116, .int .i64 124, .int .i64 136] 3)) (.cells #[.int .i64 108, .int .i64 116, .int .i64 124, .int .i64 136, .int .i64 148] 3)) hb); have BN := Aside0.mk hbox; have GN : Aside0 (w.heap.size ≤ gn) := ⟨by have h1_ := below_size HB.out; rw [hg]; simp [World.setCell]; omega⟩; clear HB BG BH hb hbox hg hh0 fh0 hh1 fh1 hh2 fh2 hh3 fh3 hh4 fh4 hh5 fh5 hh6 fh6 hh7 fh7 hh8 fh8; have HB := n0_; have BG := n1_; have BH := n2_; clear n0_ n1_ n2_))
    have n0_ : Aside0 (w7.heap[w6.heap.size]? = some (.cells #[.int .i64 100, .int .i64 108, .int .i64 116, .int .i64 124, .int .i64 136] 3 (0, 0))) := ⟨by have h_ := BF.out; rw [show ((World.setCell (World.setCell (World.setCell w6 ⟨gh, 0, none⟩ (.string p_)) ⟨gh, 1, none⟩ (.string n_)) ⟨gh, 8, none⟩ (.string l_))).heap.size = w6.heap.size by simp [World.setCell]] at h_; exact h_⟩
    have n1_ : Aside0 (w7.heap[w6.heap.size + 1]? = some (.cells #[.int .i64 108, .int .i64 116, .int .i64 124, .int .i64 136, .int .i64 148] 3 (0, 0))) := ⟨by have h_ := BT.out; rw [show (World.alloc (World.setCell (World.setCell (World.setCell w6 ⟨gh, 0, none⟩ (.string p_)) ⟨gh, 1, none⟩ (.string n_)) ⟨gh, 8, none⟩ (.string l_)) (.cells #[.int .i64 100, .int .i64 108, .int .i64 116, .int .i64 124, .int .i64 136] 3)).heap.size = w6.heap.size + 1 by simp [World.setCell]] at h_; exact h_⟩
    clear BF BT
    have BF := n0_
    have BT := n1_
    clear n0_ n1_
    generalize w6.heap.size = gf at BF BT ⊢
    have h := HH.out
    clear HH
    obtain ⟨⟨xs, xe⟩, hx, h⟩ := Option.bind_eq_some_iff.1 h
    dsimp only at h
    have HH := Aside0.mk h
    have HX0 := Aside0.mk hx
    clear h hx
    have NHN : Aside0 (gh ≠ gn) := ⟨blk_ne BH.out BN.out (by decide)⟩
    have NGN : Aside0 (gg ≠ gn) := ⟨blk_ne BG.out BN.out (by decide)⟩
    have NFN : Aside0 (gf ≠ gn) := ⟨blk_ne BF.out BN.out (by decide)⟩
    have NTN : Aside0 (gf + 1 ≠ gn) := ⟨blk_ne BT.out BN.out (by decide)⟩
    go_loopw [7, 13] (fun v7 v13 wl => ∃ (i : Nat) (acc : List Int) (e7 : Int), i ≤ 5 ∧ v13 = .int .i64 (i : Int) ∧ v7 = .int .i64 e7 ∧ Aside0 (acc.length = i) ∧ Aside0 (ref_nums k l0 (numPairs.drop i) acc = some (xs, xe)) ∧ Aside0 (Below w.heap.size w wl) ∧ Aside0 (wl.heap[gg]? = some (.cells #[.string (⟨#[]⟩ : ByteArray), .string (⟨#[]⟩ : ByteArray), .int .i64 0, .int .i64 0, .int .i64 0, .int .i64 0, .int .i64 0, .int .u8 0, .string (⟨#[]⟩ : ByteArray)] 62 (0, 0))) ∧ Aside0 (wl.heap[gh]? = some (.cells #[.string p_, .string n_, .int .i64 0, .int .i64 0, .int .i64 0, .int .i64 0, .int .i64 0, .int .u8 ty, .string l_] 62 (0, 0))) ∧ Aside0 (wl.heap[gf]? = some (.cells #[.int .i64 100, .int .i64 108, .int .i64 116, .int .i64 124, .int .i64 136] 3 (0, 0))) ∧ Aside0 (wl.heap[gf + 1]? = some (.cells #[.int .i64 108, .int .i64 116, .int .i64 124, .int .i64 136, .int .i64 148] 3 (0, 0))) ∧ Aside0 (wl.heap[gn]? = some (.cells (arrV acc) 97 (0, 0)))) (fun _ v13 _ => 5 - (intOf v13).toNat)
    case atStart => exact ⟨0, [], 0, by omega, rfl, rfl, ⟨rfl⟩, ⟨HX0.out⟩, HB, BG, BH, BF, BT, BN⟩
    case round =>
      clear HB BG BH BF BT BN HX0
      obtain ⟨i, acc0, e7, hi, rfl, rfl, HA, HX, HB, BG, BH, BF, BT, BN⟩ := hrel
      have hcs : i = 0 ∨ i = 1 ∨ i = 2 ∨ i = 3 ∨ i = 4 ∨ i = 5 := by omega
      clear hi
      rcases hcs with rfl | rfl | rfl | rfl | rfl | rfl
      · skip
        obtain rfl : acc0 = [] := List.eq_nil_of_length_eq_zero (by have h_ := HA.out; (try simp only [List.length_cons] at h_); omega)
        clear HA
        have hx := HX.out
        rw [show numPairs.drop 0 = (100, 108) :: numPairs.drop 1 from rfl, ref_nums] at hx
        clear HX
        obtain ⟨⟨q, qe⟩, hg, hx⟩ := Option.bind_eq_some_iff.1 hx
        dsimp only at hg hx
        unfold cutAt at hg
        obtain ⟨Ay, hcuty, hAy, hCy⟩ := print_mid_int (P := Tryd.prog) (k := .u8) 22 5 Tryd.underlying22 hi5 hs5 (some ⟨ab, ao, none⟩) c0 l0 100 108 (by decide) (by decide) (by have := HL.out; omega) HC0.out
        rw [show ((100 : Int)).toNat = 100 from rfl, show ((108 : Int)).toNat = 108 from rfl] at hcuty hAy hCy
        generalize (l0.take 108).drop 100 = my at hcuty hAy hCy hg
        have HRy := Aside0.mk (show Kd.C (Kd.int .u8) w Ay my.length my from Kd.C_of_reads (enc := Value.int .u8) (d := (0 : Int)) (h1 := fun _ => rfl) (hAy w (Kd.reads_of_C (enc := Value.int .u8) (d := (0 : Int)) (h1 := fun _ => rfl) HR0.out)))
        have HCy := Aside0.mk hCy
        have HGy := Aside0.mk hg
        have HX := Aside0.mk hx
        clear hAy hCy hg hx
        go_wp2
        have n0_ := Aside0.mk (below_drew1 HB.out)
        have n1_ := Aside0.mk (blk_drew BG.out)
        have n2_ := Aside0.mk (blk_drew BH.out)
        have n3_ := Aside0.mk (blk_drew BF.out)
        have n4_ := Aside0.mk (blk_drew BT.out)
        have n5_ := Aside0.mk (blk_drew BN.out)
        clear HB BG BH BF BT BN
        have HB := n0_
        have BG := n1_
        have BH := n2_
        have BF := n3_
        have BT := n4_
        have BN := n5_
        clear n0_ n1_ n2_ n3_ n4_ n5_
        refine start_ (n := 18) (S := fun w' => w'.cell? ⟨gf, 0, none⟩ = some (.int .i64 100) ∧ w'.cell? ⟨gf + 1, 0, none⟩ = some (.int .i64 108)) (ds := []) #[false, false, false, false, false, false, false, false, false, false, false, false, false, false, false, false, false, false] (by kernel_rfl) rfl rfl ⟨(blk_cell BF.out 0).trans rfl, (blk_cell BT.out 0).trans rfl⟩ (fun hHeld => ?_)
        generalize World.drew wr = wx at HB BG BH BF BT BN hHeld ⊢
        refine pure_ (i := 0) (N := some 76) (v := ?_) (a' := ?_) #[true, false, false, false, false, false, false, false, false, false, false, false, false, false, false, false, false, false] rfl rfl (by kernel_rfl) (fun _ _ _ h => h) (Or.inl ⟨by rfl, ?_⟩) ?_ ?_
        rotate_left
        · intro w'
          go_simp
          with_reducible rfl
        rotate_left
        · simp only [Act.put, List.setIfInBounds_toArray, List.set_cons_zero, List.set_cons_succ, i64_w, i32_w]
          rfl
        refine pure_ (i := 1) (N := some 77) (v := ?_) (a' := ?_) #[true, true, false, false, false, false, false, false, false, false, false, false, false, false, false, false, false, false] rfl rfl (by kernel_rfl) (fun _ _ _ h => h) (Or.inl ⟨by rfl, ?_⟩) ?_ ?_
        rotate_left
        · intro w'
          go_simp
          with_reducible rfl
        rotate_left
        · simp only [Act.put, List.setIfInBounds_toArray, List.set_cons_zero, List.set_cons_succ, i64_w, i32_w]
          rfl
        refine pure_ (i := 2) (N := some 78) (v := ?_) (a' := ?_) #[true, true, true, false, false, false, false, false, false, false, false, false, false, false, false, false, false, false] rfl rfl (by kernel_rfl) (fun _ _ _ h => h) (Or.inl ⟨by rfl, ?_⟩) ?_ ?_
        rotate_left
        · intro w'
          go_simp
          with_reducible rfl
        rotate_left
        · simp only [Act.put, List.setIfInBounds_toArray, List.set_cons_zero, List.set_cons_succ, i64_w, i32_w]
          rfl
        refine pure_ (i := 3) (N := some 79) (v := ?_) (a' := ?_) #[true, true, true, true, false, false, false, false, false, false, false, false, false, false, false, false, false, false] rfl rfl (by kernel_rfl) (fun _ _ _ h => h) (Or.inl ⟨by rfl, ?_⟩) ?_ ?_
        rotate_left
        · intro w'
          go_simp
          with_reducible rfl
        rotate_left
        · simp only [Act.put, List.setIfInBounds_toArray, List.set_cons_zero, List.set_cons_succ, i64_w, i32_w]
          rfl
        refine pure_ (i := 4) (N := some 80) (v := ?_) (a' := ?_) #[true, true, true, true, true, false, false, false, false, false, false, false, false, false, false, false, false, false] rfl rfl (by kernel_rfl) (fun _ _ _ h => h) (Or.inl ⟨by rfl, ?_⟩) ?_ ?_
        rotate_left
        · intro w'
          go_simp
          with_reducible rfl
        rotate_left
        · simp only [Act.put, List.setIfInBounds_toArray, List.set_cons_zero, List.set_cons_succ, i64_w, i32_w]
          rfl
        refine take_ (i := 5) (N := some 81) (v := ?_) (a' := ?_) #[true, true, true, true, true, true, false, false, false, false, false, false, false, false, false, false, false, false] rfl rfl (by kernel_rfl) (fun _ _ _ h => h) (Or.inl ⟨by rfl, ?_⟩) hHeld ?_ ?_
        rotate_left
        · rintro w' ⟨s0, s1⟩
          go_simp
          with_reducible rfl
        rotate_left
        · simp only [Act.put, List.setIfInBounds_toArray, List.set_cons_zero, List.set_cons_succ, i64_w, i32_w]
          rfl
        refine pure_ (i := 6) (N := some 82) (v := ?_) (a' := ?_) #[true, true, true, true, true, true, true, false, false, false, false, false, false, false, false, false, false, false] rfl rfl (by kernel_rfl) (fun _ _ _ h => h) (Or.inl ⟨by rfl, ?_⟩) ?_ ?_
        rotate_left
        · intro w'
          go_simp
          with_reducible rfl
        rotate_left
        · simp only [Act.put, List.setIfInBounds_toArray, List.set_cons_zero, List.set_cons_succ, i64_w, i32_w]
          rfl
        refine pure_ (i := 7) (N := some 83) (v := ?_) (a' := ?_) #[true, true, true, true, true, true, true, true, false, false, false, false, false, false, false, false, false, false] rfl rfl (by kernel_rfl) (fun _ _ _ h => h) (Or.inl ⟨by rfl, ?_⟩) ?_ ?_
        rotate_left
        · intro w'
          go_simp
          with_reducible rfl
        rotate_left
        · simp only [Act.put, List.setIfInBounds_toArray, List.set_cons_zero, List.set_cons_succ, i64_w, i32_w]
          rfl
        refine pure_ (i := 8) (N := some 84) (v := ?_) (a' := ?_) #[true, true, true, true, true, true, true, true, true, false, false, false, false, false, false, false, false, false] rfl rfl (by kernel_rfl) (fun _ _ _ h => h) (Or.inl ⟨by rfl, ?_⟩) ?_ ?_
        rotate_left
        · intro w'
          go_simp
          with_reducible rfl
        rotate_left
        · simp only [Act.put, List.setIfInBounds_toArray, List.set_cons_zero, List.set_cons_succ, i64_w, i32_w]
          rfl
        refine take_ (i := 9) (N := some 85) (v := ?_) (a' := ?_) #[true, true, true, true, true, true, true, true, true, true, false, false, false, false, false, false, false, false] rfl rfl (by kernel_rfl) (fun _ _ _ h => h) (Or.inl ⟨by rfl, ?_⟩) hHeld ?_ ?_
        rotate_left
        · rintro w' ⟨s0, s1⟩
          go_simp
          with_reducible rfl
        rotate_left
        · simp only [Act.put, List.setIfInBounds_toArray, List.set_cons_zero, List.set_cons_succ, i64_w, i32_w]
          rfl
        refine pure_ (i := 10) (N := some 86) (v := ?_) (a' := ?_) #[true, true, true, true, true, true, true, true, true, true, true, false, false, false, false, false, false, false] rfl rfl (by kernel_rfl) (fun _ _ _ h => h) (Or.inl ⟨by rfl, ?_⟩) ?_ ?_
        rotate_left
        · intro w'
          go_simp
          with_reducible rfl
        rotate_left
        · simp only [Act.put, List.setIfInBounds_toArray, List.set_cons_zero, List.set_cons_succ, i64_w, i32_w]
          rfl
        refine one_ (i := 11) (N := some 87) #[true, true, true, true, true, true, true, true, true, true, true, true, false, false, false, false, false, false] rfl rfl (by kernel_rfl) (by decide) (fun K hK => ?_)
        refine goes_ Tryd.func52 (by kernel_rfl) rfl #[.slice Ay my.length (c0 - 100)] (by rfl) rfl rfl (by (try simp only [List.map_toArray, List.map_cons, List.map_nil]); first | done | rfl) ?_
        with_reducible refine (thwartref01_Get.calls k Ay (c0 - 100) my q qe _ (Kd.C_below HRy.out HB.out) HCy.out HGy.out).mono ?_
        rintro e w8 ⟨rfl, hb⟩
        refine ⟨_, rfl, ?_⟩
        have n0_ := Aside0.mk (below_step HB.out hb)
        have n1_ := Aside0.mk (blk_below BG.out hb)
        have n2_ := Aside0.mk (blk_below BH.out hb)
        have n3_ := Aside0.mk (blk_below BF.out hb)
        have n4_ := Aside0.mk (blk_below BT.out hb)
        have n5_ := Aside0.mk (blk_below BN.out hb)
        clear hb HB BG BH BF BT BN
        have HB := n0_
        have BG := n1_
        have BH := n2_
        have BF := n3_
        have BT := n4_
        have BN := n5_
        clear n0_ n1_ n2_ n3_ n4_ n5_
        refine hK.out _ _ ⟨(blk_cell BF.out 0).trans rfl, (blk_cell BT.out 0).trans rfl⟩ (fun hHeld => ?_)
        clear hK K
        refine norm_ (a' := ?_) ?_ ?_
        rotate_left
        · show Act.put _ (some 87) _ = _
          simp only [Act.put, List.setIfInBounds_toArray, List.set_cons_zero, List.set_cons_succ, i64_w, i32_w]
          rfl
        refine pure_ (i := 12) (N := some 75) (v := ?_) (a' := ?_) #[true, true, true, true, true, true, true, true, true, true, true, true, true, false, false, false, false, false] rfl rfl (by kernel_rfl) (fun _ _ _ h => h) (Or.inl ⟨by rfl, ?_⟩) ?_ ?_
        rotate_left
        · intro w'
          go_simp
          with_reducible rfl
        rotate_left
        · simp only [Act.put, List.setIfInBounds_toArray, List.set_cons_zero, List.set_cons_succ, i64_w, i32_w]
          rfl
        refine pure_ (i := 13) (N := some 88) (v := ?_) (a' := ?_) #[true, true, true, true, true, true, true, true, true, true, true, true, true, true, false, false, false, false] rfl rfl (by kernel_rfl) (fun _ _ _ h => h) (Or.inl ⟨by rfl, ?_⟩) ?_ ?_
        rotate_left
        · intro w'
          go_simp
          with_reducible rfl
        rotate_left
        · simp only [Act.put, List.setIfInBounds_toArray, List.set_cons_zero, List.set_cons_succ, i64_w, i32_w]
          rfl
        refine pure_ (i := 14) (N := some 89) (v := ?_) (a' := ?_) #[true, true, true, true, true, true, true, true, true, true, true, true, true, true, true, false, false, false] rfl rfl (by kernel_rfl) (fun _ _ _ h => h) (Or.inl ⟨by rfl, ?_⟩) ?_ ?_
        rotate_left
        · intro w'
          go_simp
          with_reducible rfl
        rotate_left
        · simp only [Act.put, List.setIfInBounds_toArray, List.set_cons_zero, List.set_cons_succ, i64_w, i32_w]
          rfl
        refine pure_ (i := 15) (N := some 90) (v := ?_) (a' := ?_) #[true, true, true, true, true, true, true, true, true, true, true, true, true, true, true, true, false, false] rfl rfl (by kernel_rfl) (fun _ _ _ h => h) (Or.inl ⟨by rfl, ?_⟩) ?_ ?_
        rotate_left
        · intro w'
          go_simp
          with_reducible rfl
        rotate_left
        · simp only [Act.put, List.setIfInBounds_toArray, List.set_cons_zero, List.set_cons_succ, i64_w, i32_w]
          rfl
        refine one_ (i := 16) (N := none) #[true, true, true, true, true, true, true, true, true, true, true, true, true, true, true, true, true, false] rfl rfl (by kernel_rfl) (by decide) (fun K hK => ?_)
        have hn_ := (blk_cell BN.out 0).trans (rfl : _ = some (.int .i64 0 : Value))
        have fn_ := blk_frozen BN.out 0
        refine skip_ (w1 := ?_) (by rfl) rfl ?_ ?_
        rotate_left
        · go_simp
          rfl
        refine hK.out _ _ ⟨(blk_cell (blk_far BF.out (p := ⟨gn, 0, none⟩) NFN.out (.int .i64 q)) 0).trans rfl, (blk_cell (blk_far BT.out (p := ⟨gn, 0, none⟩) NTN.out (.int .i64 q)) 0).trans rfl⟩ (fun hHeld => ?_)
        clear hK K hn_ fn_
        have n0_ := Aside0.mk (below_set (j := 0) (v := .int .i64 q) HB.out GN.out)
        have n1_ := Aside0.mk ((blk_far BG.out (p := ⟨gn, 0, none⟩) NGN.out (.int .i64 q)))
        have n2_ := Aside0.mk ((blk_far BH.out (p := ⟨gn, 0, none⟩) NHN.out (.int .i64 q)))
        have n3_ := Aside0.mk ((blk_far BF.out (p := ⟨gn, 0, none⟩) NFN.out (.int .i64 q)))
        have n4_ := Aside0.mk ((blk_far BT.out (p := ⟨gn, 0, none⟩) NTN.out (.int .i64 q)))
        have n5_ := Aside0.mk (show _ = some (Obj.cells (arrV ([] ++ [q])) 97 (0, 0)) from blk_put BN.out 0 (.int .i64 q) rfl)
        clear HB BG BH BF BT BN
        have HB := n0_
        have BG := n1_
        have BH := n2_
        have BF := n3_
        have BT := n4_
        have BN := n5_
        clear n0_ n1_ n2_ n3_ n4_ n5_
        generalize World.setCell w8 ⟨gn, 0, none⟩ (.int .i64 q) = w9 at HB BG BH BF BT BN hHeld ⊢
        refine pure_ (i := 17) (N := some 7) (v := ?_) (a' := ?_) #[true, true, true, true, true, true, true, true, true, true, true, true, true, true, true, true, true, true] rfl rfl (by kernel_rfl) (fun _ _ _ h => h) (Or.inl ⟨by rfl, ?_⟩) ?_ ?_
        rotate_left
        · intro w'
          go_simp
          with_reducible rfl
        rotate_left
        · simp only [Act.put, List.setIfInBounds_toArray, List.set_cons_zero, List.set_cons_succ, i64_w, i32_w]
          rfl
        refine done_ (by kernel_rfl) ?_
        by_cases ce : ¬ qe = 0
        · have hx := HX.out
          rw [if_neg ce] at hx
          obtain ⟨rfl, rfl⟩ := Prod.mk.inj (Option.some.inj hx)
          have h := HH.out
          clear HH HX hx
          rw [if_neg ce] at h
          unfold noHead at h
          simp only [Option.some.injEq, Prod.mk.injEq] at h
          obtain ⟨rfl, rfl, rfl, rfl, rfl, rfl, rfl, rfl, rfl, rfl⟩ := h
          have b1 : (qe != 0) = true := bne_iff_ne.2 ce
          clear ce
          have hg0 := (blk_cell BG.out 0).trans (rfl : _ = some (.string (⟨#[]⟩ : ByteArray) : Value))
          have fg0 := blk_frozen BG.out 0
          have hg1 := (blk_cell BG.out 1).trans (rfl : _ = some (.string (⟨#[]⟩ : ByteArray) : Value))
          have fg1 := blk_frozen BG.out 1
          have hg2 := (blk_cell BG.out 2).trans (rfl : _ = some (.int .i64 0 : Value))
          have fg2 := blk_frozen BG.out 2
          have hg3 := (blk_cell BG.out 3).trans (rfl : _ = some (.int .i64 0 : Value))
          have fg3 := blk_frozen BG.out 3
          have hg4 := (blk_cell BG.out 4).trans (rfl : _ = some (.int .i64 0 : Value))
          have fg4 := blk_frozen BG.out 4
          have hg5 := (blk_cell BG.out 5).trans (rfl : _ = some (.int .i64 0 : Value))
          have fg5 := blk_frozen BG.out 5
          have hg6 := (blk_cell BG.out 6).trans (rfl : _ = some (.int .i64 0 : Value))
          have fg6 := blk_frozen BG.out 6
          have hg7 := (blk_cell BG.out 7).trans (rfl : _ = some (.int .u8 0 : Value))
          have fg7 := blk_frozen BG.out 7
          have hg8 := (blk_cell BG.out 8).trans (rfl : _ = some (.string (⟨#[]⟩ : ByteArray) : Value))
          have fg8 := blk_frozen BG.out 8
          go_wp2
          refine bodyPost_ret (results_ct rfl _ _ gg 62 #[.string (⟨#[]⟩ : ByteArray), .string (⟨#[]⟩ : ByteArray), .int .i64 0, .int .i64 0, .int .i64 0, .int .i64 0, .int .i64 0, .int .u8 0, .string (⟨#[]⟩ : ByteArray)] (0, 0) _ rfl (by have h_ := (blk_set (blk_set (blk_set (blk_set (blk_set (blk_set (blk_set (blk_set (blk_set BG.out 0 (.string (⟨#[]⟩ : ByteArray))) 1 (.string (⟨#[]⟩ : ByteArray))) 2 (.int .i64 0)) 3 (.int .i64 0)) 4 (.int .i64 0)) 5 (.int .i64 0)) 6 (.int .i64 0)) 7 (.int .u8 0)) 8 (.string (⟨#[]⟩ : ByteArray))); exact h_) Tryd.underlying62 rfl (by kernel_rfl)) rfl ?_
          exact ⟨rfl, (by repeat (first | (with_reducible first | exact HB.out | apply below_alloc | apply pw_below_drewN | apply below_drew1 | refine below_set ?_ GG.out | refine below_set ?_ GH.out) | exact HB.out))⟩
        have ce' := Decidable.of_not_not ce
        subst ce'
        clear ce
        go_wp2
        go_roundw
        case rel => exact ⟨1, [] ++ [q], 0, by omega, by first | rfl | go_num, rfl, ⟨rfl⟩, ⟨by have h_ := HX.out; rw [if_pos rfl] at h_; exact h_⟩, HB, BG, BH, BF, BT, BN⟩
        case measure => simp [intOf]
      · skip
        obtain ⟨x0, acc1, rfl⟩ : ∃ x t, acc0 = x :: t := List.exists_cons_of_length_pos (by have h_ := HA.out; (try simp only [List.length_cons] at h_); omega)
        obtain rfl : acc1 = [] := List.eq_nil_of_length_eq_zero (by have h_ := HA.out; (try simp only [List.length_cons] at h_); omega)
        clear HA
        have hx := HX.out
        rw [show numPairs.drop 1 = (108, 116) :: numPairs.drop 2 from rfl, ref_nums] at hx
        clear HX
        obtain ⟨⟨q, qe⟩, hg, hx⟩ := Option.bind_eq_some_iff.1 hx
        dsimp only at hg hx
        unfold cutAt at hg
        obtain ⟨Ay, hcuty, hAy, hCy⟩ := print_mid_int (P := Tryd.prog) (k := .u8) 22 5 Tryd.underlying22 hi5 hs5 (some ⟨ab, ao, none⟩) c0 l0 108 116 (by decide) (by decide) (by have := HL.out; omega) HC0.out
        rw [show ((108 : Int)).toNat = 108 from rfl, show ((116 : Int)).toNat = 116 from rfl] at hcuty hAy hCy
        generalize (l0.take 116).drop 108 = my at hcuty hAy hCy hg
        have HRy := Aside0.mk (show Kd.C (Kd.int .u8) w Ay my.length my from Kd.C_of_reads (enc := Value.int .u8) (d := (0 : Int)) (h1 := fun _ => rfl) (hAy w (Kd.reads_of_C (enc := Value.int .u8) (d := (0 : Int)) (h1 := fun _ => rfl) HR0.out)))
        have HCy := Aside0.mk hCy
        have HGy := Aside0.mk hg
        have HX := Aside0.mk hx
        clear hAy hCy hg hx
        go_wp2
        have n0_ := Aside0.mk (below_drew1 HB.out)
        have n1_ := Aside0.mk (blk_drew BG.out)
        have n2_ := Aside0.mk (blk_drew BH.out)
        have n3_ := Aside0.mk (blk_drew BF.out)
        have n4_ := Aside0.mk (blk_drew BT.out)
        have n5_ := Aside0.mk (blk_drew BN.out)
        clear HB BG BH BF BT BN
        have HB := n0_
        have BG := n1_
        have BH := n2_
        have BF := n3_
        have BT := n4_
        have BN := n5_
        clear n0_ n1_ n2_ n3_ n4_ n5_
        refine start_ (n := 18) (S := fun w' => w'.cell? ⟨gf, 1, none⟩ = some (.int .i64 108) ∧ w'.cell? ⟨gf + 1, 1, none⟩ = some (.int .i64 116)) (ds := []) #[false, false, false, false, false, false, false, false, false, false, false, false, false, false, false, false, false, false] (by kernel_rfl) rfl rfl ⟨(blk_cell BF.out 1).trans rfl, (blk_cell BT.out 1).trans rfl⟩ (fun hHeld => ?_)
        generalize World.drew wr = wx at HB BG BH BF BT BN hHeld ⊢
        refine pure_ (i := 0) (N := some 76) (v := ?_) (a' := ?_) #[true, false, false, false, false, false, false, false, false, false, false, false, false, false, false, false, false, false] rfl rfl (by kernel_rfl) (fun _ _ _ h => h) (Or.inl ⟨by rfl, ?_⟩) ?_ ?_
        rotate_left
        · intro w'
          go_simp
          with_reducible rfl
        rotate_left
        · simp only [Act.put, List.setIfInBounds_toArray, List.set_cons_zero, List.set_cons_succ, i64_w, i32_w]
          rfl
        refine pure_ (i := 1) (N := some 77) (v := ?_) (a' := ?_) #[true, true, false, false, false, false, false, false, false, false, false, false, false, false, false, false, false, false] rfl rfl (by kernel_rfl) (fun _ _ _ h => h) (Or.inl ⟨by rfl, ?_⟩) ?_ ?_
        rotate_left
        · intro w'
          go_simp
          with_reducible rfl
        rotate_left
        · simp only [Act.put, List.setIfInBounds_toArray, List.set_cons_zero, List.set_cons_succ, i64_w, i32_w]
          rfl
        refine pure_ (i := 2) (N := some 78) (v := ?_) (a' := ?_) #[true, true, true, false, false, false, false, false, false, false, false, false, false, false, false, false, false, false] rfl rfl (by kernel_rfl) (fun _ _ _ h => h) (Or.inl ⟨by rfl, ?_⟩) ?_ ?_
        rotate_left
        · intro w'
          go_simp
          with_reducible rfl
        rotate_left
        · simp only [Act.put, List.setIfInBounds_toArray, List.set_cons_zero, List.set_cons_succ, i64_w, i32_w]
          rfl
        refine pure_ (i := 3) (N := some 79) (v := ?_) (a' := ?_) #[true, true, true, true, false, false, false, false, false, false, false, false, false, false, false, false, false, false] rfl rfl (by kernel_rfl) (fun _ _ _ h => h) (Or.inl ⟨by rfl, ?_⟩) ?_ ?_
        rotate_left
        · intro w'
          go_simp
          with_reducible rfl
        rotate_left
        · simp only [Act.put, List.setIfInBounds_toArray, List.set_cons_zero, List.set_cons_succ, i64_w, i32_w]
          rfl
        refine pure_ (i := 4) (N := some 80) (v := ?_) (a' := ?_) #[true, true, true, true, true, false, false, false, false, false, false, false, false, false, false, false, false, false] rfl rfl (by kernel_rfl) (fun _ _ _ h => h) (Or.inl ⟨by rfl, ?_⟩) ?_ ?_
        rotate_left
        · intro w'
          go_simp
          with_reducible rfl
        rotate_left
        · simp only [Act.put, List.setIfInBounds_toArray, List.set_cons_zero, List.set_cons_succ, i64_w, i32_w]
          rfl
        refine take_ (i := 5) (N := some 81) (v := ?_) (a' := ?_) #[true, true, true, true, true, true, false, false, false, false, false, false, false, false, false, false, false, false] rfl rfl (by kernel_rfl) (fun _ _ _ h => h) (Or.inl ⟨by rfl, ?_⟩) hHeld ?_ ?_
        rotate_left
        · rintro w' ⟨s0, s1⟩
          go_simp
          with_reducible rfl
        rotate_left
        · simp only [Act.put, List.setIfInBounds_toArray, List.set_cons_zero, List.set_cons_succ, i64_w, i32_w]
          rfl
        refine pure_ (i := 6) (N := some 82) (v := ?_) (a' := ?_) #[true, true, true, true, true, true, true, false, false, false, false, false, false, false, false, false, false, false] rfl rfl (by kernel_rfl) (fun _ _ _ h => h) (Or.inl ⟨by rfl, ?_⟩) ?_ ?_
        rotate_left
        · intro w'
          go_simp
          with_reducible rfl
        rotate_left
        · simp only [Act.put, List.setIfInBounds_toArray, List.set_cons_zero, List.set_cons_succ, i64_w, i32_w]
          rfl
        refine pure_ (i := 7) (N := some 83) (v := ?_) (a' := ?_) #[true, true, true, true, true, true, true, true, false, false, false, false, false, false, false, false, false, false] rfl rfl (by kernel_rfl) (fun _ _ _ h => h) (Or.inl ⟨by rfl, ?_⟩) ?_ ?_
        rotate_left
        · intro w'
          go_simp
          with_reducible rfl
        rotate_left
        · simp only [Act.put, List.setIfInBounds_toArray, List.set_cons_zero, List.set_cons_succ, i64_w, i32_w]
          rfl
        refine pure_ (i := 8) (N := some 84) (v := ?_) (a' := ?_) #[true, true, true, true, true, true, true, true, true, false, false, false, false, false, false, false, false, false] rfl rfl (by kernel_rfl) (fun _ _ _ h => h) (Or.inl ⟨by rfl, ?_⟩) ?_ ?_
        rotate_left
        · intro w'
          go_simp
          with_reducible rfl
        rotate_left
        · simp only [Act.put, List.setIfInBounds_toArray, List.set_cons_zero, List.set_cons_succ, i64_w, i32_w]
          rfl
        refine take_ (i := 9) (N := some 85) (v := ?_) (a' := ?_) #[true, true, true, true, true, true, true, true, true, true, false, false, false, false, false, false, false, false] rfl rfl (by kernel_rfl) (fun _ _ _ h => h) (Or.inl ⟨by rfl, ?_⟩) hHeld ?_ ?_
        rotate_left
        · rintro w' ⟨s0, s1⟩
          go_simp
          with_reducible rfl
        rotate_left
        · simp only [Act.put, List.setIfInBounds_toArray, List.set_cons_zero, List.set_cons_succ, i64_w, i32_w]
          rfl
        refine pure_ (i := 10) (N := some 86) (v := ?_) (a' := ?_) #[true, true, true, true, true, true, true, true, true, true, true, false, false, false, false, false, false, false] rfl rfl (by kernel_rfl) (fun _ _ _ h => h) (Or.inl ⟨by rfl, ?_⟩) ?_ ?_
        rotate_left
        · intro w'
          go_simp
          with_reducible rfl
        rotate_left
        · simp only [Act.put, List.setIfInBounds_toArray, List.set_cons_zero, List.set_cons_succ, i64_w, i32_w]
          rfl
        refine one_ (i := 11) (N := some 87) #[true, true, true, true, true, true, true, true, true, true, true, true, false, false, false, false, false, false] rfl rfl (by kernel_rfl) (by decide) (fun K hK => ?_)
        refine goes_ Tryd.func52 (by kernel_rfl) rfl #[.slice Ay my.length (c0 - 108)] (by rfl) rfl rfl (by (try simp only [List.map_toArray, List.map_cons, List.map_nil]); first | done | rfl) ?_
        with_reducible refine (thwartref01_Get.calls k Ay (c0 - 108) my q qe _ (Kd.C_below HRy.out HB.out) HCy.out HGy.out).mono ?_
        rintro e w8 ⟨rfl, hb⟩
        refine ⟨_, rfl, ?_⟩
        have n0_ := Aside0.mk (below_step HB.out hb)
        have n1_ := Aside0.mk (blk_below BG.out hb)
        have n2_ := Aside0.mk (blk_below BH.out hb)
        have n3_ := Aside0.mk (blk_below BF.out hb)
        have n4_ := Aside0.mk (blk_below BT.out hb)
        have n5_ := Aside0.mk (blk_below BN.out hb)
        clear hb HB BG BH BF BT BN
        have HB := n0_
        have BG := n1_
        have BH := n2_
        have BF := n3_
        have BT := n4_
        have BN := n5_
        clear n0_ n1_ n2_ n3_ n4_ n5_
        refine hK.out _ _ ⟨(blk_cell BF.out 1).trans rfl, (blk_cell BT.out 1).trans rfl⟩ (fun hHeld => ?_)
        clear hK K
        refine norm_ (a' := ?_) ?_ ?_
        rotate_left
        · show Act.put _ (some 87) _ = _
          simp only [Act.put, List.setIfInBounds_toArray, List.set_cons_zero, List.set_cons_succ, i64_w, i32_w]
          rfl
        refine pure_ (i := 12) (N := some 75) (v := ?_) (a' := ?_) #[true, true, true, true, true, true, true, true, true, true, true, true, true, false, false, false, false, false] rfl rfl (by kernel_rfl) (fun _ _ _ h => h) (Or.inl ⟨by rfl, ?_⟩) ?_ ?_
        rotate_left
        · intro w'
          go_simp
          with_reducible rfl
        rotate_left
        · simp only [Act.put, List.setIfInBounds_toArray, List.set_cons_zero, List.set_cons_succ, i64_w, i32_w]
          rfl
        refine pure_ (i := 13) (N := some 88) (v := ?_) (a' := ?_) #[true, true, true, true, true, true, true, true, true, true, true, true, true, true, false, false, false, false] rfl rfl (by kernel_rfl) (fun _ _ _ h => h) (Or.inl ⟨by rfl, ?_⟩) ?_ ?_
        rotate_left
        · intro w'
          go_simp
          with_reducible rfl
        rotate_left
        · simp only [Act.put, List.setIfInBounds_toArray, List.set_cons_zero, List.set_cons_succ, i64_w, i32_w]
          rfl
        refine pure_ (i := 14) (N := some 89) (v := ?_) (a' := ?_) #[true, true, true, true, true, true, true, true, true, true, true, true, true, true, true, false, false, false] rfl rfl (by kernel_rfl) (fun _ _ _ h => h) (Or.inl ⟨by rfl, ?_⟩) ?_ ?_
        rotate_left
        · intro w'
          go_simp
          with_reducible rfl
        rotate_left
        · simp only [Act.put, List.setIfInBounds_toArray, List.set_cons_zero, List.set_cons_succ, i64_w, i32_w]
          rfl
        refine pure_ (i := 15) (N := some 90) (v := ?_) (a' := ?_) #[true, true, true, true, true, true, true, true, true, true, true, true, true, true, true, true, false, false] rfl rfl (by kernel_rfl) (fun _ _ _ h => h) (Or.inl ⟨by rfl, ?_⟩) ?_ ?_
        rotate_left
        · intro w'
          go_simp
          with_reducible rfl
        rotate_left
        · simp only [Act.put, List.setIfInBounds_toArray, List.set_cons_zero, List.set_cons_succ, i64_w, i32_w]
          rfl
        refine one_ (i := 16) (N := none) #[true, true, true, true, true, true, true, true, true, true, true, true, true, true, true, true, true, false] rfl rfl (by kernel_rfl) (by decide) (fun K hK => ?_)
        have hn_ := (blk_cell BN.out 1).trans (rfl : _ = some (.int .i64 0 : Value))
        have fn_ := blk_frozen BN.out 1
        refine skip_ (w1 := ?_) (by rfl) rfl ?_ ?_
        rotate_left
        · go_simp
          rfl
        refine hK.out _ _ ⟨(blk_cell (blk_far BF.out (p := ⟨gn, 1, none⟩) NFN.out (.int .i64 q)) 1).trans rfl, (blk_cell (blk_far BT.out (p := ⟨gn, 1, none⟩) NTN.out (.int .i64 q)) 1).trans rfl⟩ (fun hHeld => ?_)
        clear hK K hn_ fn_
        have n0_ := Aside0.mk (below_set (j := 1) (v := .int .i64 q) HB.out GN.out)
        have n1_ := Aside0.mk ((blk_far BG.out (p := ⟨gn, 1, none⟩) NGN.out (.int .i64 q)))
        have n2_ := Aside0.mk ((blk_far BH.out (p := ⟨gn, 1, none⟩) NHN.out (.int .i64 q)))
        have n3_ := Aside0.mk ((blk_far BF.out (p := ⟨gn, 1, none⟩) NFN.out (.int .i64 q)))
        have n4_ := Aside0.mk ((blk_far BT.out (p := ⟨gn, 1, none⟩) NTN.out (.int .i64 q)))
        have n5_ := Aside0.mk (show _ = some (Obj.cells (arrV ([x0] ++ [q])) 97 (0, 0)) from blk_put BN.out 1 (.int .i64 q) rfl)
        clear HB BG BH BF BT BN
        have HB := n0_
        have BG := n1_
        have BH := n2_
        have BF := n3_
        have BT := n4_
        have BN := n5_
        clear n0_ n1_ n2_ n3_ n4_ n5_
        generalize World.setCell w8 ⟨gn, 1, none⟩ (.int .i64 q) = w9 at HB BG BH BF BT BN hHeld ⊢
        refine pure_ (i := 17) (N := some 7) (v := ?_) (a' := ?_) #[true, true, true, true, true, true, true, true, true, true, true, true, true, true, true, true, true, true] rfl rfl (by kernel_rfl) (fun _ _ _ h => h) (Or.inl ⟨by rfl, ?_⟩) ?_ ?_
        rotate_left
        · intro w'
          go_simp
          with_reducible rfl
        rotate_left
        · simp only [Act.put, List.setIfInBounds_toArray, List.set_cons_zero, List.set_cons_succ, i64_w, i32_w]
          rfl
        refine done_ (by kernel_rfl) ?_
        by_cases ce : ¬ qe = 0
        · have hx := HX.out
          rw [if_neg ce] at hx
          obtain ⟨rfl, rfl⟩ := Prod.mk.inj (Option.some.inj hx)
          have h := HH.out
          clear HH HX hx
          rw [if_neg ce] at h
          unfold noHead at h
          simp only [Option.some.injEq, Prod.mk.injEq] at h
          obtain ⟨rfl, rfl, rfl, rfl, rfl, rfl, rfl, rfl, rfl, rfl⟩ := h
          have b1 : (qe != 0) = true := bne_iff_ne.2 ce
          clear ce
          have hg0 := (blk_cell BG.out 0).trans (rfl : _ = some (.string (⟨#[]⟩ : ByteArray) : Value))
          have fg0 := blk_frozen BG.out 0
          have hg1 := (blk_cell BG.out 1).trans (rfl : _ = some (.string (⟨#[]⟩ : ByteArray) : Value))
          have fg1 := blk_frozen BG.out 1
          have hg2 := (blk_cell BG.out 2).trans (rfl : _ = some (.int .i64 0 : Value))
          have fg2 := blk_frozen BG.out 2
          have hg3 := (blk_cell BG.out 3).trans (rfl : _ = some (.int .i64 0 : Value))
          have fg3 := blk_frozen BG.out 3
          have hg4 := (blk_cell BG.out 4).trans (rfl : _ = some (.int .i64 0 : Value))
          have fg4 := blk_frozen BG.out 4
          have hg5 := (blk_cell BG.out 5).trans (rfl : _ = some (.int .i64 0 : Value))
          have fg5 := blk_frozen BG.out 5
          have hg6 := (blk_cell BG.out 6).trans (rfl : _ = some (.int .i64 0 : Value))
          have fg6 := blk_frozen BG.out 6
          have hg7 := (blk_cell BG.out 7).trans (rfl : _ = some (.int .u8 0 : Value))
          have fg7 := blk_frozen BG.out 7
          have hg8 := (blk_cell BG.out 8).trans (rfl : _ = some (.string (⟨#[]⟩ : ByteArray) : Value))
          have fg8 := blk_frozen BG.out 8
          go_wp2
          refine bodyPost_ret (results_ct rfl _ _ gg 62 #[.string (⟨#[]⟩ : ByteArray), .string (⟨#[]⟩ : ByteArray), .int .i64 0, .int .i64 0, .int .i64 0, .int .i64 0, .int .i64 0, .int .u8 0, .string (⟨#[]⟩ : ByteArray)] (0, 0) _ rfl (by have h_ := (blk_set (blk_set (blk_set (blk_set (blk_set (blk_set (blk_set (blk_set (blk_set BG.out 0 (.string (⟨#[]⟩ : ByteArray))) 1 (.string (⟨#[]⟩ : ByteArray))) 2 (.int .i64 0)) 3 (.int .i64 0)) 4 (.int .i64 0)) 5 (.int .i64 0)) 6 (.int .i64 0)) 7 (.int .u8 0)) 8 (.string (⟨#[]⟩ : ByteArray))); exact h_) Tryd.underlying62 rfl (by kernel_rfl)) rfl ?_
          exact ⟨rfl, (by repeat (first | (with_reducible first | exact HB.out | apply below_alloc | apply pw_below_drewN | apply below_drew1 | refine below_set ?_ GG.out | refine below_set ?_ GH.out) | exact HB.out))⟩
        have ce' := Decidable.of_not_not ce
        subst ce'
        clear ce
        go_wp2
        go_roundw
        case rel => exact ⟨2, [x0] ++ [q], 0, by omega, by first | rfl | go_num, rfl, ⟨rfl⟩, ⟨by have h_ := HX.out; rw [if_pos rfl] at h_; exact h_⟩, HB, BG, BH, BF, BT, BN⟩
        case measure => simp [intOf]
      · skip
        obtain ⟨x0, acc1, rfl⟩ : ∃ x t, acc0 = x :: t := List.exists_cons_of_length_pos (by have h_ := HA.out; (try simp only [List.length_cons] at h_); omega)
        obtain ⟨x1, acc2, rfl⟩ : ∃ x t, acc1 = x :: t := List.exists_cons_of_length_pos (by have h_ := HA.out; (try simp only [List.length_cons] at h_); omega)
        obtain rfl : acc2 = [] := List.eq_nil_of_length_eq_zero (by have h_ := HA.out; (try simp only [List.length_cons] at h_); omega)
        clear HA
        have hx := HX.out
        rw [show numPairs.drop 2 = (116, 124) :: numPairs.drop 3 from rfl, ref_nums] at hx
        clear HX
        obtain ⟨⟨q, qe⟩, hg, hx⟩ := Option.bind_eq_some_iff.1 hx
        dsimp only at hg hx
        unfold cutAt at hg
        obtain ⟨Ay, hcuty, hAy, hCy⟩ := print_mid_int (P := Tryd.prog) (k := .u8) 22 5 Tryd.underlying22 hi5 hs5 (some ⟨ab, ao, none⟩) c0 l0 116 124 (by decide) (by decide) (by have := HL.out; omega) HC0.out
        rw [show ((116 : Int)).toNat = 116 from rfl, show ((124 : Int)).toNat = 124 from rfl] at hcuty hAy hCy
        generalize (l0.take 124).drop 116 = my at hcuty hAy hCy hg
        have HRy := Aside0.mk (show Kd.C (Kd.int .u8) w Ay my.length my from Kd.C_of_reads (enc := Value.int .u8) (d := (0 : Int)) (h1 := fun _ => rfl) (hAy w (Kd.reads_of_C (enc := Value.int .u8) (d := (0 : Int)) (h1 := fun _ => rfl) HR0.out)))
        have HCy := Aside0.mk hCy
        have HGy := Aside0.mk hg
        have HX := Aside0.mk hx
        clear hAy hCy hg hx
        go_wp2
        have n0_ := Aside0.mk (below_drew1 HB.out)
        have n1_ := Aside0.mk (blk_drew BG.out)
        have n2_ := Aside0.mk (blk_drew BH.out)
        have n3_ := Aside0.mk (blk_drew BF.out)
        have n4_ := Aside0.mk (blk_drew BT.out)
        have n5_ := Aside0.mk (blk_drew BN.out)
        clear HB BG BH BF BT BN
        have HB := n0_
        have BG := n1_
        have BH := n2_
        have BF := n3_
        have BT := n4_
        have BN := n5_
        clear n0_ n1_ n2_ n3_ n4_ n5_
        refine start_ (n := 18) (S := fun w' => w'.cell? ⟨gf, 2, none⟩ = some (.int .i64 116) ∧ w'.cell? ⟨gf + 1, 2, none⟩ = some (.int .i64 124)) (ds := []) #[false, false, false, false, false, false, false, false, false, false, false, false, false, false, false, false, false, false] (by kernel_rfl) rfl rfl ⟨(blk_cell BF.out 2).trans rfl, (blk_cell BT.out 2).trans rfl⟩ (fun hHeld => ?_)
        generalize World.drew wr = wx at HB BG BH BF BT BN hHeld ⊢
        refine pure_ (i := 0) (N := some 76) (v := ?_) (a' := ?_) #[true, false, false, false, false, false, false, false, false, false, false, false, false, false, false, false, false, false] rfl rfl (by kernel_rfl) (fun _ _ _ h => h) (Or.inl ⟨by rfl, ?_⟩) ?_ ?_
        rotate_left
        · intro w'
          go_simp
          with_reducible rfl
        rotate_left
        · simp only [Act.put, List.setIfInBounds_toArray, List.set_cons_zero, List.set_cons_succ, i64_w, i32_w]
          rfl
        refine pure_ (i := 1) (N := some 77) (v := ?_) (a' := ?_) #[true, true, false, false, false, false, false, false, false, false, false, false, false, false, false, false, false, false] rfl rfl (by kernel_rfl) (fun _ _ _ h => h) (Or.inl ⟨by rfl, ?_⟩) ?_ ?_
        rotate_left
        · intro w'
          go_simp
          with_reducible rfl
        rotate_left
        · simp only [Act.put, List.setIfInBounds_toArray, List.set_cons_zero, List.set_cons_succ, i64_w, i32_w]
          rfl
        refine pure_ (i := 2) (N := some 78) (v := ?_) (a' := ?_) #[true, true, true, false, false, false, false, false, false, false, false, false, false, false, false, false, false, false] rfl rfl (by kernel_rfl) (fun _ _ _ h => h) (Or.inl ⟨by rfl, ?_⟩) ?_ ?_
        rotate_left
        · intro w'
          go_simp
          with_reducible rfl
        rotate_left
        · simp only [Act.put, List.setIfInBounds_toArray, List.set_cons_zero, List.set_cons_succ, i64_w, i32_w]
          rfl
        refine pure_ (i := 3) (N := some 79) (v := ?_) (a' := ?_) #[true, true, true, true, false, false, false, false, false, false, false, false, false, false, false, false, false, false] rfl rfl (by kernel_rfl) (fun _ _ _ h => h) (Or.inl ⟨by rfl, ?_⟩) ?_ ?_
        rotate_left
        · intro w'
          go_simp
          with_reducible rfl
        rotate_left
        · simp only [Act.put, List.setIfInBounds_toArray, List.set_cons_zero, List.set_cons_succ, i64_w, i32_w]
          rfl
        refine pure_ (i := 4) (N := some 80) (v := ?_) (a' := ?_) #[true, true, true, true, true, false, false, false, false, false, false, false, false, false, false, false, false, false] rfl rfl (by kernel_rfl) (fun _ _ _ h => h) (Or.inl ⟨by rfl, ?_⟩) ?_ ?_
        rotate_left
        · intro w'
          go_simp
          with_reducible rfl
        rotate_left
        · simp only [Act.put, List.setIfInBounds_toArray, List.set_cons_zero, List.set_cons_succ, i64_w, i32_w]
          rfl
        refine take_ (i := 5) (N := some 81) (v := ?_) (a' := ?_) #[true, true, true, true, true, true, false, false, false, false, false, false, false, false, false, false, false, false] rfl rfl (by kernel_rfl) (fun _ _ _ h => h) (Or.inl ⟨by rfl, ?_⟩) hHeld ?_ ?_
        rotate_left
        · rintro w' ⟨s0, s1⟩
          go_simp
          with_reducible rfl
        rotate_left
        · simp only [Act.put, List.setIfInBounds_toArray, List.set_cons_zero, List.set_cons_succ, i64_w, i32_w]
          rfl
        refine pure_ (i := 6) (N := some 82) (v := ?_) (a' := ?_) #[true, true, true, true, true, true, true, false, false, false, false, false, false, false, false, false, false, false] rfl rfl (by kernel_rfl) (fun _ _ _ h => h) (Or.inl ⟨by rfl, ?_⟩) ?_ ?_
        rotate_left
        · intro w'
          go_simp
          with_reducible rfl
        rotate_left
        · simp only [Act.put, List.setIfInBounds_toArray, List.set_cons_zero, List.set_cons_succ, i64_w, i32_w]
          rfl
        refine pure_ (i := 7) (N := some 83) (v := ?_) (a' := ?_) #[true, true, true, true, true, true, true, true, false, false, false, false, false, false, false, false, false, false] rfl rfl (by kernel_rfl) (fun _ _ _ h => h) (Or.inl ⟨by rfl, ?_⟩) ?_ ?_
        rotate_left
        · intro w'
          go_simp
          with_reducible rfl
        rotate_left
        · simp only [Act.put, List.setIfInBounds_toArray, List.set_cons_zero, List.set_cons_succ, i64_w, i32_w]
          rfl
        refine pure_ (i := 8) (N := some 84) (v := ?_) (a' := ?_) #[true, true, true, true, true, true, true, true, true, false, false, false, false, false, false, false, false, false] rfl rfl (by kernel_rfl) (fun _ _ _ h => h) (Or.inl ⟨by rfl, ?_⟩) ?_ ?_
        rotate_left
        · intro w'
          go_simp
          with_reducible rfl
        rotate_left
        · simp only [Act.put, List.setIfInBounds_toArray, List.set_cons_zero, List.set_cons_succ, i64_w, i32_w]
          rfl
        refine take_ (i := 9) (N := some 85) (v := ?_) (a' := ?_) #[true, true, true, true, true, true, true, true, true, true, false, false, false, false, false, false, false, false] rfl rfl (by kernel_rfl) (fun _ _ _ h => h) (Or.inl ⟨by rfl, ?_⟩) hHeld ?_ ?_
        rotate_left
        · rintro w' ⟨s0, s1⟩
          go_simp
          with_reducible rfl
        rotate_left
        · simp only [Act.put, List.setIfInBounds_toArray, List.set_cons_zero, List.set_cons_succ, i64_w, i32_w]
          rfl
        refine pure_ (i := 10) (N := some 86) (v := ?_) (a' := ?_) #[true, true, true, true, true, true, true, true, true, true, true, false, false, false, false, false, false, false] rfl rfl (by kernel_rfl) (fun _ _ _ h => h) (Or.inl ⟨by rfl, ?_⟩) ?_ ?_
        rotate_left
        · intro w'
          go_simp
          with_reducible rfl
        rotate_left
        · simp only [Act.put, List.setIfInBounds_toArray, List.set_cons_zero, List.set_cons_succ, i64_w, i32_w]
          rfl
        refine one_ (i := 11) (N := some 87) #[true, true, true, true, true, true, true, true, true, true, true, true, false, false, false, false, false, false] rfl rfl (by kernel_rfl) (by decide) (fun K hK => ?_)
        refine goes_ Tryd.func52 (by kernel_rfl) rfl #[.slice Ay my.length (c0 - 116)] (by rfl) rfl rfl (by (try simp only [List.map_toArray, List.map_cons, List.map_nil]); first | done | rfl) ?_
        with_reducible refine (thwartref01_Get.calls k Ay (c0 - 116) my q qe _ (Kd.C_below HRy.out HB.out) HCy.out HGy.out).mono ?_
        rintro e w8 ⟨rfl, hb⟩
        refine ⟨_, rfl, ?_⟩
        have n0_ := Aside0.mk (below_step HB.out hb)
        have n1_ := Aside0.mk (blk_below BG.out hb)
        have n2_ := Aside0.mk (blk_below BH.out hb)
        have n3_ := Aside0.mk (blk_below BF.out hb)
        have n4_ := Aside0.mk (blk_below BT.out hb)
        have n5_ := Aside0.mk (blk_below BN.out hb)
        clear hb HB BG BH BF BT BN
        have HB := n0_
        have BG := n1_
        have BH := n2_
        have BF := n3_
        have BT := n4_
        have BN := n5_
        clear n0_ n1_ n2_ n3_ n4_ n5_
        refine hK.out _ _ ⟨(blk_cell BF.out 2).trans rfl, (blk_cell BT.out 2).trans rfl⟩ (fun hHeld => ?_)
        clear hK K
        refine norm_ (a' := ?_) ?_ ?_
        rotate_left
        · show Act.put _ (some 87) _ = _
          simp only [Act.put, List.setIfInBounds_toArray, List.set_cons_zero, List.set_cons_succ, i64_w, i32_w]
          rfl
        refine pure_ (i := 12) (N := some 75) (v := ?_) (a' := ?_) #[true, true, true, true, true, true, true, true, true, true, true, true, true, false, false, false, false, false] rfl rfl (by kernel_rfl) (fun _ _ _ h => h) (Or.inl ⟨by rfl, ?_⟩) ?_ ?_
        rotate_left
        · intro w'
          go_simp
          with_reducible rfl
        rotate_left
        · simp only [Act.put, List.setIfInBounds_toArray, List.set_cons_zero, List.set_cons_succ, i64_w, i32_w]
          rfl
        refine pure_ (i := 13) (N := some 88) (v := ?_) (a' := ?_) #[true, true, true, true, true, true, true, true, true, true, true, true, true, true, false, false, false, false] rfl rfl (by kernel_rfl) (fun _ _ _ h => h) (Or.inl ⟨by rfl, ?_⟩) ?_ ?_
        rotate_left
        · intro w'
          go_simp
          with_reducible rfl
        rotate_left
        · simp only [Act.put, List.setIfInBounds_toArray, List.set_cons_zero, List.set_cons_succ, i64_w, i32_w]
          rfl
        refine pure_ (i := 14) (N := some 89) (v := ?_) (a' := ?_) #[true, true, true, true, true, true, true, true, true, true, true, true, true, true, true, false, false, false] rfl rfl (by kernel_rfl) (fun _ _ _ h => h) (Or.inl ⟨by rfl, ?_⟩) ?_ ?_
        rotate_left
        · intro w'
          go_simp
          with_reducible rfl
        rotate_left
        · simp only [Act.put, List.setIfInBounds_toArray, List.set_cons_zero, List.set_cons_succ, i64_w, i32_w]
          rfl
        refine pure_ (i := 15) (N := some 90) (v := ?_) (a' := ?_) #[true, true, true, true, true, true, true, true, true, true, true, true, true, true, true, true, false, false] rfl rfl (by kernel_rfl) (fun _ _ _ h => h) (Or.inl ⟨by rfl, ?_⟩) ?_ ?_
        rotate_left
        · intro w'
          go_simp
          with_reducible rfl
        rotate_left
        · simp only [Act.put, List.setIfInBounds_toArray, List.set_cons_zero, List.set_cons_succ, i64_w, i32_w]
          rfl
        refine one_ (i := 16) (N := none) #[true, true, true, true, true, true, true, true, true, true, true, true, true, true, true, true, true, false] rfl rfl (by kernel_rfl) (by decide) (fun K hK => ?_)
        have hn_ := (blk_cell BN.out 2).trans (rfl : _ = some (.int .i64 0 : Value))
        have fn_ := blk_frozen BN.out 2
        refine skip_ (w1 := ?_) (by rfl) rfl ?_ ?_
        rotate_left
        · go_simp
          rfl
        refine hK.out _ _ ⟨(blk_cell (blk_far BF.out (p := ⟨gn, 2, none⟩) NFN.out (.int .i64 q)) 2).trans rfl, (blk_cell (blk_far BT.out (p := ⟨gn, 2, none⟩) NTN.out (.int .i64 q)) 2).trans rfl⟩ (fun hHeld => ?_)
        clear hK K hn_ fn_
        have n0_ := Aside0.mk (below_set (j := 2) (v := .int .i64 q) HB.out GN.out)
        have n1_ := Aside0.mk ((blk_far BG.out (p := ⟨gn, 2, none⟩) NGN.out (.int .i64 q)))
        have n2_ := Aside0.mk ((blk_far BH.out (p := ⟨gn, 2, none⟩) NHN.out (.int .i64 q)))
        have n3_ := Aside0.mk ((blk_far BF.out (p := ⟨gn, 2, none⟩) NFN.out (.int .i64 q)))
        have n4_ := Aside0.mk ((blk_far BT.out (p := ⟨gn, 2, none⟩) NTN.out (.int .i64 q)))
        have n5_ := Aside0.mk (show _ = some (Obj.cells (arrV ([x0, x1] ++ [q])) 97 (0, 0)) from blk_put BN.out 2 (.int .i64 q) rfl)
        clear HB BG BH BF BT BN
        have HB := n0_
        have BG := n1_
        have BH := n2_
        have BF := n3_
        have BT := n4_
        have BN := n5_
        clear n0_ n1_ n2_ n3_ n4_ n5_
        generalize World.setCell w8 ⟨gn, 2, none⟩ (.int .i64 q) = w9 at HB BG BH BF BT BN hHeld ⊢
        refine pure_ (i := 17) (N := some 7) (v := ?_) (a' := ?_) #[true, true, true, true, true, true, true, true, true, true, true, true, true, true, true, true, true, true] rfl rfl (by kernel_rfl) (fun _ _ _ h => h) (Or.inl ⟨by rfl, ?_⟩) ?_ ?_
        rotate_left
        · intro w'
          go_simp
          with_reducible rfl
        rotate_left
        · simp only [Act.put, List.setIfInBounds_toArray, List.set_cons_zero, List.set_cons_succ, i64_w, i32_w]
          rfl
        refine done_ (by kernel_rfl) ?_
        by_cases ce : ¬ qe = 0
        · have hx := HX.out
          rw [if_neg ce] at hx
          obtain ⟨rfl, rfl⟩ := Prod.mk.inj (Option.some.inj hx)
          have h := HH.out
          clear HH HX hx
          rw [if_neg ce] at h
          unfold noHead at h
          simp only [Option.some.injEq, Prod.mk.injEq] at h
          obtain ⟨rfl, rfl, rfl, rfl, rfl, rfl, rfl, rfl, rfl, rfl⟩ := h
          have b1 : (qe != 0) = true := bne_iff_ne.2 ce
          clear ce
          have hg0 := (blk_cell BG.out 0).trans (rfl : _ = some (.string (⟨#[]⟩ : ByteArray) : Value))
          have fg0 := blk_frozen BG.out 0
          have hg1 := (blk_cell BG.out 1).trans (rfl : _ = some (.string (⟨#[]⟩ : ByteArray) : Value))
          have fg1 := blk_frozen BG.out 1
          have hg2 := (blk_cell BG.out 2).trans (rfl : _ = some (.int .i64 0 : Value))
          have fg2 := blk_frozen BG.out 2
          have hg3 := (blk_cell BG.out 3).trans (rfl : _ = some (.int .i64 0 : Value))
          have fg3 := blk_frozen BG.out 3
          have hg4 := (blk_cell BG.out 4).trans (rfl : _ = some (.int .i64 0 : Value))
          have fg4 := blk_frozen BG.out 4
          have hg5 := (blk_cell BG.out 5).trans (rfl : _ = some (.int .i64 0 : Value))
          have fg5 := blk_frozen BG.out 5
          have hg6 := (blk_cell BG.out 6).trans (rfl : _ = some (.int .i64 0 : Value))
          have fg6 := blk_frozen BG.out 6
          have hg7 := (blk_cell BG.out 7).trans (rfl : _ = some (.int .u8 0 : Value))
          have fg7 := blk_frozen BG.out 7
          have hg8 := (blk_cell BG.out 8).trans (rfl : _ = some (.string (⟨#[]⟩ : ByteArray) : Value))
          have fg8 := blk_frozen BG.out 8
          go_wp2
          refine bodyPost_ret (results_ct rfl _ _ gg 62 #[.string (⟨#[]⟩ : ByteArray), .string (⟨#[]⟩ : ByteArray), .int .i64 0, .int .i64 0, .int .i64 0, .int .i64 0, .int .i64 0, .int .u8 0, .string (⟨#[]⟩ : ByteArray)] (0, 0) _ rfl (by have h_ := (blk_set (blk_set (blk_set (blk_set (blk_set (blk_set (blk_set (blk_set (blk_set BG.out 0 (.string (⟨#[]⟩ : ByteArray))) 1 (.string (⟨#[]⟩ : ByteArray))) 2 (.int .i64 0)) 3 (.int .i64 0)) 4 (.int .i64 0)) 5 (.int .i64 0)) 6 (.int .i64 0)) 7 (.int .u8 0)) 8 (.string (⟨#[]⟩ : ByteArray))); exact h_) Tryd.underlying62 rfl (by kernel_rfl)) rfl ?_
          exact ⟨rfl, (by repeat (first | (with_reducible first | exact HB.out | apply below_alloc | apply pw_below_drewN | apply below_drew1 | refine below_set ?_ GG.out | refine below_set ?_ GH.out) | exact HB.out))⟩
        have ce' := Decidable.of_not_not ce
        subst ce'
        clear ce
        go_wp2
        go_roundw
        case rel => exact ⟨3, [x0, x1] ++ [q], 0, by omega, by first | rfl | go_num, rfl, ⟨rfl⟩, ⟨by have h_ := HX.out; rw [if_pos rfl] at h_; exact h_⟩, HB, BG, BH, BF, BT, BN⟩
        case measure => simp [intOf]
      · skip
        obtain ⟨x0, acc1, rfl⟩ : ∃ x t, acc0 = x :: t := List.exists_cons_of_length_pos (by have h_ := HA.out; (try simp only [List.length_cons] at h_); omega)
        obtain ⟨x1, acc2, rfl⟩ : ∃ x t, acc1 = x :: t := List.exists_cons_of_length_pos (by have h_ := HA.out; (try simp only [List.length_cons] at h_); omega)
        obtain ⟨x2, acc3, rfl⟩ : ∃ x t, acc2 = x :: t := List.exists_cons_of_length_pos (by have h_ := HA.out; (try simp only [List.length_cons] at h_); omega)
        obtain rfl : acc3 = [] := List.eq_nil_of_length_eq_zero (by have h_ := HA.out; (try simp only [List.length_cons] at h_); omega)
        clear HA
        have hx := HX.out
        rw [show numPairs.drop 3 = (124, 136) :: numPairs.drop 4 from rfl, ref_nums] at hx
        clear HX
        obtain ⟨⟨q, qe⟩, hg, hx⟩ := Option.bind_eq_some_iff.1 hx
        dsimp only at hg hx
        unfold cutAt at hg
        obtain ⟨Ay, hcuty, hAy, hCy⟩ := print_mid_int (P := Tryd.prog) (k := .u8) 22 5 Tryd.underlying22 hi5 hs5 (some ⟨ab, ao, none⟩) c0 l0 124 136 (by decide) (by decide) (by have := HL.out; omega) HC0.out
        rw [show ((124 : Int)).toNat = 124 from rfl, show ((136 : Int)).toNat = 136 from rfl] at hcuty hAy hCy
        generalize (l0.take 136).drop 124 = my at hcuty hAy hCy hg
        have HRy := Aside0.mk (show Kd.C (Kd.int .u8) w Ay my.length my from Kd.C_of_reads (enc := Value.int .u8) (d := (0 : Int)) (h1 := fun _ => rfl) (hAy w (Kd.reads_of_C (enc := Value.int .u8) (d := (0 : Int)) (h1 := fun _ => rfl) HR0.out)))
        have HCy := Aside0.mk hCy
        have HGy := Aside0.mk hg
        have HX := Aside0.mk hx
        clear hAy hCy hg hx
        go_wp2
        have n0_ := Aside0.mk (below_drew1 HB.out)
        have n1_ := Aside0.mk (blk_drew BG.out)
        have n2_ := Aside0.mk (blk_drew BH.out)
        have n3_ := Aside0.mk (blk_drew BF.out)
        have n4_ := Aside0.mk (blk_drew BT.out)
        have n5_ := Aside0.mk (blk_drew BN.out)
        clear HB BG BH BF BT BN
        have HB := n0_
        have BG := n1_
        have BH := n2_
        have BF := n3_
        have BT := n4_
        have BN := n5_
        clear n0_ n1_ n2_ n3_ n4_ n5_
        refine start_ (n := 18) (S := fun w' => w'.cell? ⟨gf, 3, none⟩ = some (.int .i64 124) ∧ w'.cell? ⟨gf + 1, 3, none⟩ = some (.int .i64 136)) (ds := []) #[false, false, false, false, false, false, false, false, false, false, false, false, false, false, false, false, false, false] (by kernel_rfl) rfl rfl ⟨(blk_cell BF.out 3).trans rfl, (blk_cell BT.out 3).trans rfl⟩ (fun hHeld => ?_)
        generalize World.drew wr = wx at HB BG BH BF BT BN hHeld ⊢
        refine pure_ (i := 0) (N := some 76) (v := ?_) (a' := ?_) #[true, false, false, false, false, false, false, false, false, false, false, false, false, false, false, false, false, false] rfl rfl (by kernel_rfl) (fun _ _ _ h => h) (Or.inl ⟨by rfl, ?_⟩) ?_ ?_
        rotate_left
        · intro w'
          go_simp
          with_reducible rfl
        rotate_left
        · simp only [Act.put, List.setIfInBounds_toArray, List.set_cons_zero, List.set_cons_succ, i64_w, i32_w]
          rfl
        refine pure_ (i := 1) (N := some 77) (v := ?_) (a' := ?_) #[true, true, false, false, false, false, false, false, false, false, false, false, false, false, false, false, false, false] rfl rfl (by kernel_rfl) (fun _ _ _ h => h) (Or.inl ⟨by rfl, ?_⟩) ?_ ?_
        rotate_left
        · intro w'
          go_simp
          with_reducible rfl
        rotate_left
        · simp only [Act.put, List.setIfInBounds_toArray, List.set_cons_zero, List.set_cons_succ, i64_w, i32_w]
          rfl
        refine pure_ (i := 2) (N := some 78) (v := ?_) (a' := ?_) #[true, true, true, false, false, false, false, false, false, false, false, false, false, false, false, false, false, false] rfl rfl (by kernel_rfl) (fun _ _ _ h => h) (Or.inl ⟨by rfl, ?_⟩) ?_ ?_
        rotate_left
        · intro w'
          go_simp
          with_reducible rfl
        rotate_left
        · simp only [Act.put, List.setIfInBounds_toArray, List.set_cons_zero, List.set_cons_succ, i64_w, i32_w]
          rfl
        refine pure_ (i := 3) (N := some 79) (v := ?_) (a' := ?_) #[true, true, true, true, false, false, false, false, false, false, false, false, false, false, false, false, false, false] rfl rfl (by kernel_rfl) (fun _ _ _ h => h) (Or.inl ⟨by rfl, ?_⟩) ?_ ?_
        rotate_left
        · intro w'
          go_simp
          with_reducible rfl
        rotate_left
        · simp only [Act.put, List.setIfInBounds_toArray, List.set_cons_zero, List.set_cons_succ, i64_w, i32_w]
          rfl
        refine pure_ (i := 4) (N := some 80) (v := ?_) (a' := ?_) #[true, true, true, true, true, false, false, false, false, false, false, false, false, false, false, false, false, false] rfl rfl (by kernel_rfl) (fun _ _ _ h => h) (Or.inl ⟨by rfl, ?_⟩) ?_ ?_
        rotate_left
        · intro w'
          go_simp
          with_reducible rfl
        rotate_left
        · simp only [Act.put, List.setIfInBounds_toArray, List.set_cons_zero, List.set_cons_succ, i64_w, i32_w]
          rfl
        refine take_ (i := 5) (N := some 81) (v := ?_) (a' := ?_) #[true, true, true, true, true, true, false, false, false, false, false, false, false, false, false, false, false, false] rfl rfl (by kernel_rfl) (fun _ _ _ h => h) (Or.inl ⟨by rfl, ?_⟩) hHeld ?_ ?_
        rotate_left
        · rintro w' ⟨s0, s1⟩
          go_simp
          with_reducible rfl
        rotate_left
        · simp only [Act.put, List.setIfInBounds_toArray, List.set_cons_zero, List.set_cons_succ, i64_w, i32_w]
          rfl
        refine pure_ (i := 6) (N := some 82) (v := ?_) (a' := ?_) #[true, true, true, true, true, true, true, false, false, false, false, false, false, false, false, false, false, false] rfl rfl (by kernel_rfl) (fun _ _ _ h => h) (Or.inl ⟨by rfl, ?_⟩) ?_ ?_
        rotate_left
        · intro w'
          go_simp
          with_reducible rfl
        rotate_left
        · simp only [Act.put, List.setIfInBounds_toArray, List.set_cons_zero, List.set_cons_succ, i64_w, i32_w]
          rfl
        refine pure_ (i := 7) (N := some 83) (v := ?_) (a' := ?_) #[true, true, true, true, true, true, true, true, false, false, false, false, false, false, false, false, false, false] rfl rfl (by kernel_rfl) (fun _ _ _ h => h) (Or.inl ⟨by rfl, ?_⟩) ?_ ?_
        rotate_left
        · intro w'
          go_simp
          with_reducible rfl
        rotate_left
        · simp only [Act.put, List.setIfInBounds_toArray, List.set_cons_zero, List.set_cons_succ, i64_w, i32_w]
          rfl
        refine pure_ (i := 8) (N := some 84) (v := ?_) (a' := ?_) #[true, true, true, true, true, true, true, true, true, false, false, false, false, false, false, false, false, false] rfl rfl (by kernel_rfl) (fun _ _ _ h => h) (Or.inl ⟨by rfl, ?_⟩) ?_ ?_
        rotate_left
        · intro w'
          go_simp
          with_reducible rfl
        rotate_left
        · simp only [Act.put, List.setIfInBounds_toArray, List.set_cons_zero, List.set_cons_succ, i64_w, i32_w]
          rfl
        refine take_ (i := 9) (N := some 85) (v := ?_) (a' := ?_) #[true, true, true, true, true, true, true, true, true, true, false, false, false, false, false, false, false, false] rfl rfl (by kernel_rfl) (fun _ _ _ h => h) (Or.inl ⟨by rfl, ?_⟩) hHeld ?_ ?_
        rotate_left
        · rintro w' ⟨s0, s1⟩
          go_simp
          with_reducible rfl
        rotate_left
        · simp only [Act.put, List.setIfInBounds_toArray, List.set_cons_zero, List.set_cons_succ, i64_w, i32_w]
          rfl
        refine pure_ (i := 10) (N := some 86) (v := ?_) (a' := ?_) #[true, true, true, true, true, true, true, true, true, true, true, false, false, false, false, false, false, false] rfl rfl (by kernel_rfl) (fun _ _ _ h => h) (Or.inl ⟨by rfl, ?_⟩) ?_ ?_
        rotate_left
        · intro w'
          go_simp
          with_reducible rfl
        rotate_left
        · simp only [Act.put, List.setIfInBounds_toArray, List.set_cons_zero, List.set_cons_succ, i64_w, i32_w]
          rfl
        refine one_ (i := 11) (N := some 87) #[true, true, true, true, true, true, true, true, true, true, true, true, false, false, false, false, false, false] rfl rfl (by kernel_rfl) (by decide) (fun K hK => ?_)
        refine goes_ Tryd.func52 (by kernel_rfl) rfl #[.slice Ay my.length (c0 - 124)] (by rfl) rfl rfl (by (try simp only [List.map_toArray, List.map_cons, List.map_nil]); first | done | rfl) ?_
        with_reducible refine (thwartref01_Get.calls k Ay (c0 - 124) my q qe _ (Kd.C_below HRy.out HB.out) HCy.out HGy.out).mono ?_
        rintro e w8 ⟨rfl, hb⟩
        refine ⟨_, rfl, ?_⟩
        have n0_ := Aside0.mk (below_step HB.out hb)
        have n1_ := Aside0.mk (blk_below BG.out hb)
        have n2_ := Aside0.mk (blk_below BH.out hb)
        have n3_ := Aside0.mk (blk_below BF.out hb)
        have n4_ := Aside0.mk (blk_below BT.out hb)
        have n5_ := Aside0.mk (blk_below BN.out hb)
        clear hb HB BG BH BF BT BN
        have HB := n0_
        have BG := n1_
        have BH := n2_
        have BF := n3_
        have BT := n4_
        have BN := n5_
        clear n0_ n1_ n2_ n3_ n4_ n5_
        refine hK.out _ _ ⟨(blk_cell BF.out 3).trans rfl, (blk_cell BT.out 3).trans rfl⟩ (fun hHeld => ?_)
        clear hK K
        refine norm_ (a' := ?_) ?_ ?_
        rotate_left
        · show Act.put _ (some 87) _ = _
          simp only [Act.put, List.setIfInBounds_toArray, List.set_cons_zero, List.set_cons_succ, i64_w, i32_w]
          rfl
        refine pure_ (i := 12) (N := some 75) (v := ?_) (a' := ?_) #[true, true, true, true, true, true, true, true, true, true, true, true, true, false, false, false, false, false] rfl rfl (by kernel_rfl) (fun _ _ _ h => h) (Or.inl ⟨by rfl, ?_⟩) ?_ ?_
        rotate_left
        · intro w'
          go_simp
          with_reducible rfl
        rotate_left
        · simp only [Act.put, List.setIfInBounds_toArray, List.set_cons_zero, List.set_cons_succ, i64_w, i32_w]
          rfl
        refine pure_ (i := 13) (N := some 88) (v := ?_) (a' := ?_) #[true, true, true, true, true, true, true, true, true, true, true, true, true, true, false, false, false, false] rfl rfl (by kernel_rfl) (fun _ _ _ h => h) (Or.inl ⟨by rfl, ?_⟩) ?_ ?_
        rotate_left
        · intro w'
          go_simp
          with_reducible rfl
        rotate_left
        · simp only [Act.put, List.setIfInBounds_toArray, List.set_cons_zero, List.set_cons_succ, i64_w, i32_w]
          rfl
        refine pure_ (i := 14) (N := some 89) (v := ?_) (a' := ?_) #[true, true, true, true, true, true, true, true, true, true, true, true, true, true, true, false, false, false] rfl rfl (by kernel_rfl) (fun _ _ _ h => h) (Or.inl ⟨by rfl, ?_⟩) ?_ ?_
        rotate_left
        · intro w'
          go_simp
          with_reducible rfl
        rotate_left
        · simp only [Act.put, List.setIfInBounds_toArray, List.set_cons_zero, List.set_cons_succ, i64_w, i32_w]
          rfl
        refine pure_ (i := 15) (N := some 90) (v := ?_) (a' := ?_) #[true, true, true, true, true, true, true, true, true, true, true, true, true, true, true, true, false, false] rfl rfl (by kernel_rfl) (fun _ _ _ h => h) (Or.inl ⟨by rfl, ?_⟩) ?_ ?_
        rotate_left
        · intro w'
          go_simp
          with_reducible rfl
        rotate_left
        · simp only [Act.put, List.setIfInBounds_toArray, List.set_cons_zero, List.set_cons_succ, i64_w, i32_w]
          rfl
        refine one_ (i := 16) (N := none) #[true, true, true, true, true, true, true, true, true, true, true, true, true, true, true, true, true, false] rfl rfl (by kernel_rfl) (by decide) (fun K hK => ?_)
        have hn_ := (blk_cell BN.out 3).trans (rfl : _ = some (.int .i64 0 : Value))
        have fn_ := blk_frozen BN.out 3
        refine skip_ (w1 := ?_) (by rfl) rfl ?_ ?_
        rotate_left
        · go_simp
          rfl
        refine hK.out _ _ ⟨(blk_cell (blk_far BF.out (p := ⟨gn, 3, none⟩) NFN.out (.int .i64 q)) 3).trans rfl, (blk_cell (blk_far BT.out (p := ⟨gn, 3, none⟩) NTN.out (.int .i64 q)) 3).trans rfl⟩ (fun hHeld => ?_)
        clear hK K hn_ fn_
        have n0_ := Aside0.mk (below_set (j := 3) (v := .int .i64 q) HB.out GN.out)
        have n1_ := Aside0.mk ((blk_far BG.out (p := ⟨gn, 3, none⟩) NGN.out (.int .i64 q)))
        have n2_ := Aside0.mk ((blk_far BH.out (p := ⟨gn, 3, none⟩) NHN.out (.int .i64 q)))
        have n3_ := Aside0.mk ((blk_far BF.out (p := ⟨gn, 3, none⟩) NFN.out (.int .i64 q)))
        have n4_ := Aside0.mk ((blk_far BT.out (p := ⟨gn, 3, none⟩) NTN.out (.int .i64 q)))
        have n5_ := Aside0.mk (show _ = some (Obj.cells (arrV ([x0, x1, x2] ++ [q])) 97 (0, 0)) from blk_put BN.out 3 (.int .i64 q) rfl)
        clear HB BG BH BF BT BN
        have HB := n0_
        have BG := n1_
        have BH := n2_
        have BF := n3_
        have BT := n4_
        have BN := n5_
        clear n0_ n1_ n2_ n3_ n4_ n5_
        generalize World.setCell w8 ⟨gn, 3, none⟩ (.int .i64 q) = w9 at HB BG BH BF BT BN hHeld ⊢
        refine pure_ (i := 17) (N := some 7) (v := ?_) (a' := ?_) #[true, true, true, true, true, true, true, true, true, true, true, true, true, true, true, true, true, true] rfl rfl (by kernel_rfl) (fun _ _ _ h => h) (Or.inl ⟨by rfl, ?_⟩) ?_ ?_
        rotate_left
        · intro w'
          go_simp
          with_reducible rfl
        rotate_left
        · simp only [Act.put, List.setIfInBounds_toArray, List.set_cons_zero, List.set_cons_succ, i64_w, i32_w]
          rfl
        refine done_ (by kernel_rfl) ?_
        by_cases ce : ¬ qe = 0
        · have hx := HX.out
          rw [if_neg ce] at hx
          obtain ⟨rfl, rfl⟩ := Prod.mk.inj (Option.some.inj hx)
          have h := HH.out
          clear HH HX hx
          rw [if_neg ce] at h
          unfold noHead at h
          simp only [Option.some.injEq, Prod.mk.injEq] at h
          obtain ⟨rfl, rfl, rfl, rfl, rfl, rfl, rfl, rfl, rfl, rfl⟩ := h
          have b1 : (qe != 0) = true := bne_iff_ne.2 ce
          clear ce
          have hg0 := (blk_cell BG.out 0).trans (rfl : _ = some (.string (⟨#[]⟩ : ByteArray) : Value))
          have fg0 := blk_frozen BG.out 0
          have hg1 := (blk_cell BG.out 1).trans (rfl : _ = some (.string (⟨#[]⟩ : ByteArray) : Value))
          have fg1 := blk_frozen BG.out 1
          have hg2 := (blk_cell BG.out 2).trans (rfl : _ = some (.int .i64 0 : Value))
          have fg2 := blk_frozen BG.out 2
          have hg3 := (blk_cell BG.out 3).trans (rfl : _ = some (.int .i64 0 : Value))
          have fg3 := blk_frozen BG.out 3
          have hg4 := (blk_cell BG.out 4).trans (rfl : _ = some (.int .i64 0 : Value))
          have fg4 := blk_frozen BG.out 4
          have hg5 := (blk_cell BG.out 5).trans (rfl : _ = some (.int .i64 0 : Value))
          have fg5 := blk_frozen BG.out 5
          have hg6 := (blk_cell BG.out 6).trans (rfl : _ = some (.int .i64 0 : Value))
          have fg6 := blk_frozen BG.out 6
          have hg7 := (blk_cell BG.out 7).trans (rfl : _ = some (.int .u8 0 : Value))
          have fg7 := blk_frozen BG.out 7
          have hg8 := (blk_cell BG.out 8).trans (rfl : _ = some (.string (⟨#[]⟩ : ByteArray) : Value))
          have fg8 := blk_frozen BG.out 8
          go_wp2
          refine bodyPost_ret (results_ct rfl _ _ gg 62 #[.string (⟨#[]⟩ : ByteArray), .string (⟨#[]⟩ : ByteArray), .int .i64 0, .int .i64 0, .int .i64 0, .int .i64 0, .int .i64 0, .int .u8 0, .string (⟨#[]⟩ : ByteArray)] (0, 0) _ rfl (by have h_ := (blk_set (blk_set (blk_set (blk_set (blk_set (blk_set (blk_set (blk_set (blk_set BG.out 0 (.string (⟨#[]⟩ : ByteArray))) 1 (.string (⟨#[]⟩ : ByteArray))) 2 (.int .i64 0)) 3 (.int .i64 0)) 4 (.int .i64 0)) 5 (.int .i64 0)) 6 (.int .i64 0)) 7 (.int .u8 0)) 8 (.string (⟨#[]⟩ : ByteArray))); exact h_) Tryd.underlying62 rfl (by kernel_rfl)) rfl ?_
          exact ⟨rfl, (by repeat (first | (with_reducible first | exact HB.out | apply below_alloc | apply pw_below_drewN | apply below_drew1 | refine below_set ?_ GG.out | refine below_set ?_ GH.out) | exact HB.out))⟩
        have ce' := Decidable.of_not_not ce
        subst ce'
        clear ce
        go_wp2
        go_roundw
        case rel => exact ⟨4, [x0, x1, x2] ++ [q], 0, by omega, by first | rfl | go_num, rfl, ⟨rfl⟩, ⟨by have h_ := HX.out; rw [if_pos rfl] at h_; exact h_⟩, HB, BG, BH, BF, BT, BN⟩
        case measure => simp [intOf]
      · skip
        obtain ⟨x0, acc1, rfl⟩ : ∃ x t, acc0 = x :: t := List.exists_cons_of_length_pos (by have h_ := HA.out; (try simp only [List.length_cons] at h_); omega)
        obtain ⟨x1, acc2, rfl⟩ : ∃ x t, acc1 = x :: t := List.exists_cons_of_length_pos (by have h_ := HA.out; (try simp only [List.length_cons] at h_); omega)
        obtain ⟨x2, acc3, rfl⟩ : ∃ x t, acc2 = x :: t := List.exists_cons_of_length_pos (by have h_ := HA.out; (try simp only [List.length_cons] at h_); omega)
        obtain ⟨x3, acc4, rfl⟩ : ∃ x t, acc3 = x :: t := List.exists_cons_of_length_pos (by have h_ := HA.out; (try simp only [List.length_cons] at h_); omega)
        obtain rfl : acc4 = [] := List.eq_nil_of_length_eq_zero (by have h_ := HA.out; (try simp only [List.length_cons] at h_); omega)
        clear HA
        have hx := HX.out
        rw [show numPairs.drop 4 = (136, 148) :: numPairs.drop 5 from rfl, ref_nums] at hx
        clear HX
        obtain ⟨⟨q, qe⟩, hg, hx⟩ := Option.bind_eq_some_iff.1 hx
        dsimp only at hg hx
        unfold cutAt at hg
        obtain ⟨Ay, hcuty, hAy, hCy⟩ := print_mid_int (P := Tryd.prog) (k := .u8) 22 5 Tryd.underlying22 hi5 hs5 (some ⟨ab, ao, none⟩) c0 l0 136 148 (by decide) (by decide) (by have := HL.out; omega) HC0.out
        rw [show ((136 : Int)).toNat = 136 from rfl, show ((148 : Int)).toNat = 148 from rfl] at hcuty hAy hCy
        generalize (l0.take 148).drop 136 = my at hcuty hAy hCy hg
        have HRy := Aside0.mk (show Kd.C (Kd.int .u8) w Ay my.length my from Kd.C_of_reads (enc := Value.int .u8) (d := (0 : Int)) (h1 := fun _ => rfl) (hAy w (Kd.reads_of_C (enc := Value.int .u8) (d := (0 : Int)) (h1 := fun _ => rfl) HR0.out)))
        have HCy := Aside0.mk hCy
        have HGy := Aside0.mk hg
        have HX := Aside0.mk hx
        clear hAy hCy hg hx
        go_wp2
        have n0_ := Aside0.mk (below_drew1 HB.out)
        have n1_ := Aside0.mk (blk_drew BG.out)
        have n2_ := Aside0.mk (blk_drew BH.out)
        have n3_ := Aside0.mk (blk_drew BF.out)
        have n4_ := Aside0.mk (blk_drew BT.out)
        have n5_ := Aside0.mk (blk_drew BN.out)
        clear HB BG BH BF BT BN
        have HB := n0_
        have BG := n1_
        have BH := n2_
        have BF := n3_
        have BT := n4_
        have BN := n5_
        clear n0_ n1_ n2_ n3_ n4_ n5_
        refine start_ (n := 18) (S := fun w' => w'.cell? ⟨gf, 4, none⟩ = some (.int .i64 136) ∧ w'.cell? ⟨gf + 1, 4, none⟩ = some (.int .i64 148)) (ds := []) #[false, false, false, false, false, false, false, false, false, false, false, false, false, false, false, false, false, false] (by kernel_rfl) rfl rfl ⟨(blk_cell BF.out 4).trans rfl, (blk_cell BT.out 4).trans rfl⟩ (fun hHeld => ?_)
        generalize World.drew wr = wx at HB BG BH BF BT BN hHeld ⊢
        refine pure_ (i := 0) (N := some 76) (v := ?_) (a' := ?_) #[true, false, false, false, false, false, false, false, false, false, false, false, false, false, false, false, false, false] rfl rfl (by kernel_rfl) (fun _ _ _ h => h) (Or.inl ⟨by rfl, ?_⟩) ?_ ?_
        rotate_left
        · intro w'
          go_simp
          with_reducible rfl
        rotate_left
        · simp only [Act.put, List.setIfInBounds_toArray, List.set_cons_zero, List.set_cons_succ, i64_w, i32_w]
          rfl
        refine pure_ (i := 1) (N := some 77) (v := ?_) (a' := ?_) #[true, true, false, false, false, false, false, false, false, false, false, false, false, false, false, false, false, false] rfl rfl (by kernel_rfl) (fun _ _ _ h => h) (Or.inl ⟨by rfl, ?_⟩) ?_ ?_
        rotate_left
        · intro w'
          go_simp
          with_reducible rfl
        rotate_left
        · simp only [Act.put, List.setIfInBounds_toArray, List.set_cons_zero, List.set_cons_succ, i64_w, i32_w]
          rfl
        refine pure_ (i := 2) (N := some 78) (v := ?_) (a' := ?_) #[true, true, true, false, false, false, false, false, false, false, false, false, false, false, false, false, false, false] rfl rfl (by kernel_rfl) (fun _ _ _ h => h) (Or.inl ⟨by rfl, ?_⟩) ?_ ?_
        rotate_left
        · intro w'
          go_simp
          with_reducible rfl
        rotate_left
        · simp only [Act.put, List.setIfInBounds_toArray, List.set_cons_zero, List.set_cons_succ, i64_w, i32_w]
          rfl
        refine pure_ (i := 3) (N := some 79) (v := ?_) (a' := ?_) #[true, true, true, true, false, false, false, false, false, false, false, false, false, false, false, false, false, false] rfl rfl (by kernel_rfl) (fun _ _ _ h => h) (Or.inl ⟨by rfl, ?_⟩) ?_ ?_
        rotate_left
        · intro w'
          go_simp
          with_reducible rfl
        rotate_left
        · simp only [Act.put, List.setIfInBounds_toArray, List.set_cons_zero, List.set_cons_succ, i64_w, i32_w]
          rfl
        refine pure_ (i := 4) (N := some 80) (v := ?_) (a' := ?_) #[true, true, true, true, true, false, false, false, false, false, false, false, false, false, false, false, false, false] rfl rfl (by kernel_rfl) (fun _ _ _ h => h) (Or.inl ⟨by rfl, ?_⟩) ?_ ?_
        rotate_left
        · intro w'
          go_simp
          with_reducible rfl
        rotate_left
        · simp only [Act.put, List.setIfInBounds_toArray, List.set_cons_zero, List.set_cons_succ, i64_w, i32_w]
          rfl
        refine take_ (i := 5) (N := some 81) (v := ?_) (a' := ?_) #[true, true, true, true, true, true, false, false, false, false, false, false, false, false, false, false, false, false] rfl rfl (by kernel_rfl) (fun _ _ _ h => h) (Or.inl ⟨by rfl, ?_⟩) hHeld ?_ ?_
        rotate_left
        · rintro w' ⟨s0, s1⟩
          go_simp
          with_reducible rfl
        rotate_left
        · simp only [Act.put, List.setIfInBounds_toArray, List.set_cons_zero, List.set_cons_succ, i64_w, i32_w]
          rfl
        refine pure_ (i := 6) (N := some 82) (v := ?_) (a' := ?_) #[true, true, true, true, true, true, true, false, false, false, false, false, false, false, false, false, false, false] rfl rfl (by kernel_rfl) (fun _ _ _ h => h) (Or.inl ⟨by rfl, ?_⟩) ?_ ?_
        rotate_left
        · intro w'
          go_simp
          with_reducible rfl
        rotate_left
        · simp only [Act.put, List.setIfInBounds_toArray, List.set_cons_zero, List.set_cons_succ, i64_w, i32_w]
          rfl
        refine pure_ (i := 7) (N := some 83) (v := ?_) (a' := ?_) #[true, true, true, true, true, true, true, true, false, false, false, false, false, false, false, false, false, false] rfl rfl (by kernel_rfl) (fun _ _ _ h => h) (Or.inl ⟨by rfl, ?_⟩) ?_ ?_
        rotate_left
        · intro w'
          go_simp
          with_reducible rfl
        rotate_left
        · simp only [Act.put, List.setIfInBounds_toArray, List.set_cons_zero, List.set_cons_succ, i64_w, i32_w]
          rfl
        refine pure_ (i := 8) (N := some 84) (v := ?_) (a' := ?_) #[true, true, true, true, true, true, true, true, true, false, false, false, false, false, false, false, false, false] rfl rfl (by kernel_rfl) (fun _ _ _ h => h) (Or.inl ⟨by rfl, ?_⟩) ?_ ?_
        rotate_left
        · intro w'
          go_simp
          with_reducible rfl
        rotate_left
        · simp only [Act.put, List.setIfInBounds_toArray, List.set_cons_zero, List.set_cons_succ, i64_w, i32_w]
          rfl
        refine take_ (i := 9) (N := some 85) (v := ?_) (a' := ?_) #[true, true, true, true, true, true, true, true, true, true, false, false, false, false, false, false, false, false] rfl rfl (by kernel_rfl) (fun _ _ _ h => h) (Or.inl ⟨by rfl, ?_⟩) hHeld ?_ ?_
        rotate_left
        · rintro w' ⟨s0, s1⟩
          go_simp
          with_reducible rfl
        rotate_left
        · simp only [Act.put, List.setIfInBounds_toArray, List.set_cons_zero, List.set_cons_succ, i64_w, i32_w]
          rfl
        refine pure_ (i := 10) (N := some 86) (v := ?_) (a' := ?_) #[true, true, true, true, true, true, true, true, true, true, true, false, false, false, false, false, false, false] rfl rfl (by kernel_rfl) (fun _ _ _ h => h) (Or.inl ⟨by rfl, ?_⟩) ?_ ?_
        rotate_left
        · intro w'
          go_simp
          with_reducible rfl
        rotate_left
        · simp only [Act.put, List.setIfInBounds_toArray, List.set_cons_zero, List.set_cons_succ, i64_w, i32_w]
          rfl
        refine one_ (i := 11) (N := some 87) #[true, true, true, true, true, true, true, true, true, true, true, true, false, false, false, false, false, false] rfl rfl (by kernel_rfl) (by decide) (fun K hK => ?_)
        refine goes_ Tryd.func52 (by kernel_rfl) rfl #[.slice Ay my.length (c0 - 136)] (by rfl) rfl rfl (by (try simp only [List.map_toArray, List.map_cons, List.map_nil]); first | done | rfl) ?_
        with_reducible refine (thwartref01_Get.calls k Ay (c0 - 136) my q qe _ (Kd.C_below HRy.out HB.out) HCy.out HGy.out).mono ?_
        rintro e w8 ⟨rfl, hb⟩
        refine ⟨_, rfl, ?_⟩
        have n0_ := Aside0.mk (below_step HB.out hb)
        have n1_ := Aside0.mk (blk_below BG.out hb)
        have n2_ := Aside0.mk (blk_below BH.out hb)
        have n3_ := Aside0.mk (blk_below BF.out hb)
        have n4_ := Aside0.mk (blk_below BT.out hb)
        have n5_ := Aside0.mk (blk_below BN.out hb)
        clear hb HB BG BH BF BT BN
        have HB := n0_
        have BG := n1_
        have BH := n2_
        have BF := n3_
        have BT := n4_
        have BN := n5_
        clear n0_ n1_ n2_ n3_ n4_ n5_
        refine hK.out _ _ ⟨(blk_cell BF.out 4).trans rfl, (blk_cell BT.out 4).trans rfl⟩ (fun hHeld => ?_)
        clear hK K
        refine norm_ (a' := ?_) ?_ ?_
        rotate_left
        · show Act.put _ (some 87) _ = _
          simp only [Act.put, List.setIfInBounds_toArray, List.set_cons_zero, List.set_cons_succ, i64_w, i32_w]
          rfl
        refine pure_ (i := 12) (N := some 75) (v := ?_) (a' := ?_) #[true, true, true, true, true, true, true, true, true, true, true, true, true, false, false, false, false, false] rfl rfl (by kernel_rfl) (fun _ _ _ h => h) (Or.inl ⟨by rfl, ?_⟩) ?_ ?_
        rotate_left
        · intro w'
          go_simp
          with_reducible rfl
        rotate_left
        · simp only [Act.put, List.setIfInBounds_toArray, List.set_cons_zero, List.set_cons_succ, i64_w, i32_w]
          rfl
        refine pure_ (i := 13) (N := some 88) (v := ?_) (a' := ?_) #[true, true, true, true, true, true, true, true, true, true, true, true, true, true, false, false, false, false] rfl rfl (by kernel_rfl) (fun _ _ _ h => h) (Or.inl ⟨by rfl, ?_⟩) ?_ ?_
        rotate_left
        · intro w'
          go_simp
          with_reducible rfl
        rotate_left
        · simp only [Act.put, List.setIfInBounds_toArray, List.set_cons_zero, List.set_cons_succ, i64_w, i32_w]
          rfl
        refine pure_ (i := 14) (N := some 89) (v := ?_) (a' := ?_) #[true, true, true, true, true, true, true, true, true, true, true, true, true, true, true, false, false, false] rfl rfl (by kernel_rfl) (fun _ _ _ h => h) (Or.inl ⟨by rfl, ?_⟩) ?_ ?_
        rotate_left
        · intro w'
          go_simp
          with_reducible rfl
        rotate_left
        · simp only [Act.put, List.setIfInBounds_toArray, List.set_cons_zero, List.set_cons_succ, i64_w, i32_w]
          rfl
        refine pure_ (i := 15) (N := some 90) (v := ?_) (a' := ?_) #[true, true, true, true, true, true, true, true, true, true, true, true, true, true, true, true, false, false] rfl rfl (by kernel_rfl) (fun _ _ _ h => h) (Or.inl ⟨by rfl, ?_⟩) ?_ ?_
        rotate_left
        · intro w'
          go_simp
          with_reducible rfl
        rotate_left
        · simp only [Act.put, List.setIfInBounds_toArray, List.set_cons_zero, List.set_cons_succ, i64_w, i32_w]
          rfl
        refine one_ (i := 16) (N := none) #[true, true, true, true, true, true, true, true, true, true, true, true, true, true, true, true, true, false] rfl rfl (by kernel_rfl) (by decide) (fun K hK => ?_)
        have hn_ := (blk_cell BN.out 4).trans (rfl : _ = some (.int .i64 0 : Value))
        have fn_ := blk_frozen BN.out 4
        refine skip_ (w1 := ?_) (by rfl) rfl ?_ ?_
        rotate_left
        · go_simp
          rfl
        refine hK.out _ _ ⟨(blk_cell (blk_far BF.out (p := ⟨gn, 4, none⟩) NFN.out (.int .i64 q)) 4).trans rfl, (blk_cell (blk_far BT.out (p := ⟨gn, 4, none⟩) NTN.out (.int .i64 q)) 4).trans rfl⟩ (fun hHeld => ?_)
        clear hK K hn_ fn_
        have n0_ := Aside0.mk (below_set (j := 4) (v := .int .i64 q) HB.out GN.out)
        have n1_ := Aside0.mk ((blk_far BG.out (p := ⟨gn, 4, none⟩) NGN.out (.int .i64 q)))
        have n2_ := Aside0.mk ((blk_far BH.out (p := ⟨gn, 4, none⟩) NHN.out (.int .i64 q)))
        have n3_ := Aside0.mk ((blk_far BF.out (p := ⟨gn, 4, none⟩) NFN.out (.int .i64 q)))
        have n4_ := Aside0.mk ((blk_far BT.out (p := ⟨gn, 4, none⟩) NTN.out (.int .i64 q)))
        have n5_ := Aside0.mk (show _ = some (Obj.cells (arrV ([x0, x1, x2, x3] ++ [q])) 97 (0, 0)) from blk_put BN.out 4 (.int .i64 q) rfl)
        clear HB BG BH BF BT BN
        have HB := n0_
        have BG := n1_
        have BH := n2_
        have BF := n3_
        have BT := n4_
        have BN := n5_
        clear n0_ n1_ n2_ n3_ n4_ n5_
        generalize World.setCell w8 ⟨gn, 4, none⟩ (.int .i64 q) = w9 at HB BG BH BF BT BN hHeld ⊢
        refine pure_ (i := 17) (N := some 7) (v := ?_) (a' := ?_) #[true, true, true, true, true, true, true, true, true, true, true, true, true, true, true, true, true, true] rfl rfl (by kernel_rfl) (fun _ _ _ h => h) (Or.inl ⟨by rfl, ?_⟩) ?_ ?_
        rotate_left
        · intro w'
          go_simp
          with_reducible rfl
        rotate_left
        · simp only [Act.put, List.setIfInBounds_toArray, List.set_cons_zero, List.set_cons_succ, i64_w, i32_w]
          rfl
        refine done_ (by kernel_rfl) ?_
        by_cases ce : ¬ qe = 0
        · have hx := HX.out
          rw [if_neg ce] at hx
          obtain ⟨rfl, rfl⟩ := Prod.mk.inj (Option.some.inj hx)
          have h := HH.out
          clear HH HX hx
          rw [if_neg ce] at h
          unfold noHead at h
          simp only [Option.some.injEq, Prod.mk.injEq] at h
          obtain ⟨rfl, rfl, rfl, rfl, rfl, rfl, rfl, rfl, rfl, rfl⟩ := h
          have b1 : (qe != 0) = true := bne_iff_ne.2 ce
          clear ce
          have hg0 := (blk_cell BG.out 0).trans (rfl : _ = some (.string (⟨#[]⟩ : ByteArray) : Value))
          have fg0 := blk_frozen BG.out 0
          have hg1 := (blk_cell BG.out 1).trans (rfl : _ = some (.string (⟨#[]⟩ : ByteArray) : Value))
          have fg1 := blk_frozen BG.out 1
          have hg2 := (blk_cell BG.out 2).trans (rfl : _ = some (.int .i64 0 : Value))
          have fg2 := blk_frozen BG.out 2
          have hg3 := (blk_cell BG.out 3).trans (rfl : _ = some (.int .i64 0 : Value))
          have fg3 := blk_frozen BG.out 3
          have hg4 := (blk_cell BG.out 4).trans (rfl : _ = some (.int .i64 0 : Value))
          have fg4 := blk_frozen BG.out 4
          have hg5 := (blk_cell BG.out 5).trans (rfl : _ = some (.int .i64 0 : Value))
          have fg5 := blk_frozen BG.out 5
          have hg6 := (blk_cell BG.out 6).trans (rfl : _ = some (.int .i64 0 : Value))
          have fg6 := blk_frozen BG.out 6
          have hg7 := (blk_cell BG.out 7).trans (rfl : _ = some (.int .u8 0 : Value))
          have fg7 := blk_frozen BG.out 7
          have hg8 := (blk_cell BG.out 8).trans (rfl : _ = some (.string (⟨#[]⟩ : ByteArray) : Value))
          have fg8 := blk_frozen BG.out 8
          go_wp2
          refine bodyPost_ret (results_ct rfl _ _ gg 62 #[.string (⟨#[]⟩ : ByteArray), .string (⟨#[]⟩ : ByteArray), .int .i64 0, .int .i64 0, .int .i64 0, .int .i64 0, .int .i64 0, .int .u8 0, .string (⟨#[]⟩ : ByteArray)] (0, 0) _ rfl (by have h_ := (blk_set (blk_set (blk_set (blk_set (blk_set (blk_set (blk_set (blk_set (blk_set BG.out 0 (.string (⟨#[]⟩ : ByteArray))) 1 (.string (⟨#[]⟩ : ByteArray))) 2 (.int .i64 0)) 3 (.int .i64 0)) 4 (.int .i64 0)) 5 (.int .i64 0)) 6 (.int .i64 0)) 7 (.int .u8 0)) 8 (.string (⟨#[]⟩ : ByteArray))); exact h_) Tryd.underlying62 rfl (by kernel_rfl)) rfl ?_
          exact ⟨rfl, (by repeat (first | (with_reducible first | exact HB.out | apply below_alloc | apply pw_below_drewN | apply below_drew1 | refine below_set ?_ GG.out | refine below_set ?_ GH.out) | exact HB.out))⟩
        have ce' := Decidable.of_not_not ce
        subst ce'
        clear ce
        go_wp2
        go_roundw
        case rel => exact ⟨5, [x0, x1, x2, x3] ++ [q], 0, by omega, by first | rfl | go_num, rfl, ⟨rfl⟩, ⟨by have h_ := HX.out; rw [if_pos rfl] at h_; exact h_⟩, HB, BG, BH, BF, BT, BN⟩
        case measure => simp [intOf]
      · skip
        obtain ⟨x0, acc1, rfl⟩ : ∃ x t, acc0 = x :: t := List.exists_cons_of_length_pos (by have h_ := HA.out; (try simp only [List.length_cons] at h_); omega)
        obtain ⟨x1, acc2, rfl⟩ : ∃ x t, acc1 = x :: t := List.exists_cons_of_length_pos (by have h_ := HA.out; (try simp only [List.length_cons] at h_); omega)
        obtain ⟨x2, acc3, rfl⟩ : ∃ x t, acc2 = x :: t := List.exists_cons_of_length_pos (by have h_ := HA.out; (try simp only [List.length_cons] at h_); omega)
        obtain ⟨x3, acc4, rfl⟩ : ∃ x t, acc3 = x :: t := List.exists_cons_of_length_pos (by have h_ := HA.out; (try simp only [List.length_cons] at h_); omega)
        obtain ⟨x4, acc5, rfl⟩ : ∃ x t, acc4 = x :: t := List.exists_cons_of_length_pos (by have h_ := HA.out; (try simp only [List.length_cons] at h_); omega)
        obtain rfl : acc5 = [] := List.eq_nil_of_length_eq_zero (by have h_ := HA.out; (try simp only [List.length_cons] at h_); omega)
        clear HA
        have hx := HX.out
        clear HX
        obtain ⟨rfl, rfl⟩ := Prod.mk.inj (Option.some.inj (show some ([x0, x1, x2, x3, x4], (0 : Int)) = some (xs, xe) from hx))
        clear hx
        have h := HH.out
        clear HH
        rw [if_pos rfl, show rd [x0, x1, x2, x3, x4] 0 = x0 from rfl, show rd [x0, x1, x2, x3, x4] 1 = x1 from rfl, show rd [x0, x1, x2, x3, x4] 2 = x2 from rfl, show rd [x0, x1, x2, x3, x4] 3 = x3 from rfl, show rd [x0, x1, x2, x3, x4] 4 = x4 from rfl] at h
        have HH := Aside0.mk h
        clear h
        go_wp2
        have n0_ := Aside0.mk (below_drew1 HB.out)
        have n1_ := Aside0.mk (blk_drew BG.out)
        have n2_ := Aside0.mk (blk_drew BH.out)
        have n3_ := Aside0.mk (blk_drew BN.out)
        clear HB BG BH BN
        have HB := n0_
        have BG := n1_
        have BH := n2_
        have BN := n3_
        clear n0_ n1_ n2_ n3_
        refine start_ (n := 15) (S := fun w' => w'.cell? ⟨gn, 0, none⟩ = some (.int .i64 x0) ∧ w'.cell? ⟨gn, 1, none⟩ = some (.int .i64 x1) ∧ w'.cell? ⟨gn, 2, none⟩ = some (.int .i64 x2) ∧ w'.cell? ⟨gn, 3, none⟩ = some (.int .i64 x3) ∧ w'.cell? ⟨gn, 4, none⟩ = some (.int .i64 x4)) (ds := []) #[false, false, false, false, false, false, false, false, false, false, false, false, false, false, false] (by kernel_rfl) rfl rfl ⟨(blk_cell BN.out 0).trans rfl, (blk_cell BN.out 1).trans rfl, (blk_cell BN.out 2).trans rfl, (blk_cell BN.out 3).trans rfl, (blk_cell BN.out 4).trans rfl⟩ (fun hHeld => ?_)
        generalize World.drew wr = wx at HB BG BH BN hHeld ⊢
        refine pure_ (i := 0) (N := some 95) (v := ?_) (a' := ?_) #[true, false, false, false, false, false, false, false, false, false, false, false, false, false, false] rfl rfl (by kernel_rfl) (fun _ _ _ h => h) (Or.inl ⟨by rfl, ?_⟩) ?_ ?_
        rotate_left
        · intro w'
          go_simp
          with_reducible rfl
        rotate_left
        · simp only [Act.put, List.setIfInBounds_toArray, List.set_cons_zero, List.set_cons_succ, i64_w, i32_w]
          rfl
        refine take_ (i := 1) (N := some 96) (v := ?_) (a' := ?_) #[true, true, false, false, false, false, false, false, false, false, false, false, false, false, false] rfl rfl (by kernel_rfl) (fun _ _ _ h => h) (Or.inl ⟨by rfl, ?_⟩) hHeld ?_ ?_
        rotate_left
        · rintro w' ⟨s0, s1, s2, s3, s4⟩
          go_simp
          with_reducible rfl
        rotate_left
        · simp only [Act.put, List.setIfInBounds_toArray, List.set_cons_zero, List.set_cons_succ, i64_w, i32_w]
          rfl
        refine pure_ (i := 2) (N := some 97) (v := ?_) (a' := ?_) #[true, true, true, false, false, false, false, false, false, false, false, false, false, false, false] rfl rfl (by kernel_rfl) (fun _ _ _ h => h) (Or.inl ⟨by rfl, ?_⟩) ?_ ?_
        rotate_left
        · intro w'
          go_simp
          with_reducible rfl
        rotate_left
        · simp only [Act.put, List.setIfInBounds_toArray, List.set_cons_zero, List.set_cons_succ, i64_w, i32_w]
          rfl
        refine take_ (i := 3) (N := some 98) (v := ?_) (a' := ?_) #[true, true, true, true, false, false, false, false, false, false, false, false, false, false, false] rfl rfl (by kernel_rfl) (fun _ _ _ h => h) (Or.inl ⟨by rfl, ?_⟩) hHeld ?_ ?_
        rotate_left
        · rintro w' ⟨s0, s1, s2, s3, s4⟩
          go_simp
          with_reducible rfl
        rotate_left
        · simp only [Act.put, List.setIfInBounds_toArray, List.set_cons_zero, List.set_cons_succ, i64_w, i32_w]
          rfl
        refine pure_ (i := 4) (N := some 99) (v := ?_) (a' := ?_) #[true, true, true, true, true, false, false, false, false, false, false, false, false, false, false] rfl rfl (by kernel_rfl) (fun _ _ _ h => h) (Or.inl ⟨by rfl, ?_⟩) ?_ ?_
        rotate_left
        · intro w'
          go_simp
          with_reducible rfl
        rotate_left
        · simp only [Act.put, List.setIfInBounds_toArray, List.set_cons_zero, List.set_cons_succ, i64_w, i32_w]
          rfl
        refine take_ (i := 5) (N := some 100) (v := ?_) (a' := ?_) #[true, true, true, true, true, true, false, false, false, false, false, false, false, false, false] rfl rfl (by kernel_rfl) (fun _ _ _ h => h) (Or.inl ⟨by rfl, ?_⟩) hHeld ?_ ?_
        rotate_left
        · rintro w' ⟨s0, s1, s2, s3, s4⟩
          go_simp
          with_reducible rfl
        rotate_left
        · simp only [Act.put, List.setIfInBounds_toArray, List.set_cons_zero, List.set_cons_succ, i64_w, i32_w]
          rfl
        refine pure_ (i := 6) (N := some 101) (v := ?_) (a' := ?_) #[true, true, true, true, true, true, true, false, false, false, false, false, false, false, false] rfl rfl (by kernel_rfl) (fun _ _ _ h => h) (Or.inl ⟨by rfl, ?_⟩) ?_ ?_
        rotate_left
        · intro w'
          go_simp
          with_reducible rfl
        rotate_left
        · simp only [Act.put, List.setIfInBounds_toArray, List.set_cons_zero, List.set_cons_succ, i64_w, i32_w]
          rfl
        refine take_ (i := 7) (N := some 102) (v := ?_) (a' := ?_) #[true, true, true, true, true, true, true, true, false, false, false, false, false, false, false] rfl rfl (by kernel_rfl) (fun _ _ _ h => h) (Or.inl ⟨by rfl, ?_⟩) hHeld ?_ ?_
        rotate_left
        · rintro w' ⟨s0, s1, s2, s3, s4⟩
          go_simp
          with_reducible rfl
        rotate_left
        · simp only [Act.put, List.setIfInBounds_toArray, List.set_cons_zero, List.set_cons_succ, i64_w, i32_w]
          rfl
        refine pure_ (i := 8) (N := some 103) (v := ?_) (a' := ?_) #[true, true, true, true, true, true, true, true, true, false, false, false, false, false, false] rfl rfl (by kernel_rfl) (fun _ _ _ h => h) (Or.inl ⟨by rfl, ?_⟩) ?_ ?_
        rotate_left
        · intro w'
          go_simp
          with_reducible rfl
        rotate_left
        · simp only [Act.put, List.setIfInBounds_toArray, List.set_cons_zero, List.set_cons_succ, i64_w, i32_w]
          rfl
        refine pure_ (i := 9) (N := some 104) (v := ?_) (a' := ?_) #[true, true, true, true, true, true, true, true, true, true, false, false, false, false, false] rfl rfl (by kernel_rfl) (fun _ _ _ h => h) (Or.inl ⟨by rfl, ?_⟩) ?_ ?_
        rotate_left
        · intro w'
          go_simp
          with_reducible rfl
        rotate_left
        · simp only [Act.put, List.setIfInBounds_toArray, List.set_cons_zero, List.set_cons_succ, i64_w, i32_w]
          rfl
        refine take_ (i := 10) (N := some 105) (v := ?_) (a' := ?_) #[true, true, true, true, true, true, true, true, true, true, true, false, false, false, false] rfl rfl (by kernel_rfl) (fun _ _ _ h => h) (Or.inl ⟨by rfl, ?_⟩) hHeld ?_ ?_
        rotate_left
        · rintro w' ⟨s0, s1, s2, s3, s4⟩
          go_simp
          with_reducible rfl
        rotate_left
        · simp only [Act.put, List.setIfInBounds_toArray, List.set_cons_zero, List.set_cons_succ, i64_w, i32_w]
          rfl
        refine pure_ (i := 11) (N := some 106) (v := ?_) (a' := ?_) #[true, true, true, true, true, true, true, true, true, true, true, true, false, false, false] rfl rfl (by kernel_rfl) (fun _ _ _ h => h) (Or.inl ⟨by rfl, ?_⟩) ?_ ?_
        rotate_left
        · intro w'
          go_simp
          with_reducible rfl
        rotate_left
        · simp only [Act.put, List.setIfInBounds_toArray, List.set_cons_zero, List.set_cons_succ, i64_w, i32_w]
          rfl
        have hh0 := (blk_cell BH.out 0).trans (rfl : _ = some (.string p_ : Value))
        have fh0 := blk_frozen BH.out 0
        have hh1 := (blk_cell BH.out 1).trans (rfl : _ = some (.string n_ : Value))
        have fh1 := blk_frozen BH.out 1
        have hh2 := (blk_cell BH.out 2).trans (rfl : _ = some (.int .i64 0 : Value))
        have fh2 := blk_frozen BH.out 2
        have hh3 := (blk_cell BH.out 3).trans (rfl : _ = some (.int .i64 0 : Value))
        have fh3 := blk_frozen BH.out 3
        have hh4 := (blk_cell BH.out 4).trans (rfl : _ = some (.int .i64 0 : Value))
        have fh4 := blk_frozen BH.out 4
        have hh5 := (blk_cell BH.out 5).trans (rfl : _ = some (.int .i64 0 : Value))
        have fh5 := blk_frozen BH.out 5
        have hh6 := (blk_cell BH.out 6).trans (rfl : _ = some (.int .i64 0 : Value))
        have fh6 := blk_frozen BH.out 6
        have hh7 := (blk_cell BH.out 7).trans (rfl : _ = some (.int .u8 ty : Value))
        have fh7 := blk_frozen BH.out 7
        have hh8 := (blk_cell BH.out 8).trans (rfl : _ = some (.string l_ : Value))
        have fh8 := blk_frozen BH.out 8
        refine one_ (i := 12) (N := none) #[true, true, true, true, true, true, true, true, true, true, true, true, true, false, false] rfl rfl (by kernel_rfl) (by decide) (fun K hK => ?_)
        refine skip_ (w1 := ?_) (by rfl) rfl ?_ ?_
        rotate_left
        · go_simp
          rfl
        refine hK.out _ _ ⟨(blk_cell (blk_far (blk_far (blk_far (blk_far BN.out (p := ⟨gh, 2, none⟩) NHN.out.symm (.int .i64 x0)) (p := ⟨gh, 3, none⟩) NHN.out.symm (.int .i64 x1)) (p := ⟨gh, 4, none⟩) NHN.out.symm (.int .i64 x2)) (p := ⟨gh, 5, none⟩) NHN.out.symm (.int .i64 x4)) 0).trans rfl, (blk_cell (blk_far (blk_far (blk_far (blk_far BN.out (p := ⟨gh, 2, none⟩) NHN.out.symm (.int .i64 x0)) (p := ⟨gh, 3, none⟩) NHN.out.symm (.int .i64 x1)) (p := ⟨gh, 4, none⟩) NHN.out.symm (.int .i64 x2)) (p := ⟨gh, 5, none⟩) NHN.out.symm (.int .i64 x4)) 1).trans rfl, (blk_cell (blk_far (blk_far (blk_far (blk_far BN.out (p := ⟨gh, 2, none⟩) NHN.out.symm (.int .i64 x0)) (p := ⟨gh, 3, none⟩) NHN.out.symm (.int .i64 x1)) (p := ⟨gh, 4, none⟩) NHN.out.symm (.int .i64 x2)) (p := ⟨gh, 5, none⟩) NHN.out.symm (.int .i64 x4)) 2).trans rfl, (blk_cell (blk_far (blk_far (blk_far (blk_far BN.out (p := ⟨gh, 2, none⟩) NHN.out.symm (.int .i64 x0)) (p := ⟨gh, 3, none⟩) NHN.out.symm (.int .i64 x1)) (p := ⟨gh, 4, none⟩) NHN.out.symm (.int .i64 x2)) (p := ⟨gh, 5, none⟩) NHN.out.symm (.int .i64 x4)) 3).trans rfl, (blk_cell (blk_far (blk_far (blk_far (blk_far BN.out (p := ⟨gh, 2, none⟩) NHN.out.symm (.int .i64 x0)) (p := ⟨gh, 3, none⟩) NHN.out.symm (.int .i64 x1)) (p := ⟨gh, 4, none⟩) NHN.out.symm (.int .i64 x2)) (p := ⟨gh, 5, none⟩) NHN.out.symm (.int .i64 x4)) 4).trans rfl⟩ (fun hHeld => ?_)
        clear hK K
        refine pure_ (i := 13) (N := some 107) (v := ?_) (a' := ?_) #[true, true, true, true, true, true, true, true, true, true, true, true, true, true, false] rfl rfl (by kernel_rfl) (fun _ _ _ h => h) (Or.inl ⟨by rfl, ?_⟩) ?_ ?_
        rotate_left
        · intro w'
          go_simp
          with_reducible rfl
        rotate_left
        · simp only [Act.put, List.setIfInBounds_toArray, List.set_cons_zero, List.set_cons_succ, i64_w, i32_w]
          rfl
        refine one_ (i := 14) (N := none) #[true, true, true, true, true, true, true, true, true, true, true, true, true, true, true] rfl rfl (by kernel_rfl) (by decide) (fun K hK => ?_)
        refine skip_ (w1 := ?_) (by rfl) rfl ?_ ?_
        rotate_left
        · go_simp
          rfl
        refine hK.out _ _ ⟨(blk_cell (blk_far (blk_far (blk_far (blk_far (blk_far BN.out (p := ⟨gh, 2, none⟩) NHN.out.symm (.int .i64 x0)) (p := ⟨gh, 3, none⟩) NHN.out.symm (.int .i64 x1)) (p := ⟨gh, 4, none⟩) NHN.out.symm (.int .i64 x2)) (p := ⟨gh, 5, none⟩) NHN.out.symm (.int .i64 x4)) (p := ⟨gh, 6, none⟩) NHN.out.symm (.int .i64 x3)) 0).trans rfl, (blk_cell (blk_far (blk_far (blk_far (blk_far (blk_far BN.out (p := ⟨gh, 2, none⟩) NHN.out.symm (.int .i64 x0)) (p := ⟨gh, 3, none⟩) NHN.out.symm (.int .i64 x1)) (p := ⟨gh, 4, none⟩) NHN.out.symm (.int .i64 x2)) (p := ⟨gh, 5, none⟩) NHN.out.symm (.int .i64 x4)) (p := ⟨gh, 6, none⟩) NHN.out.symm (.int .i64 x3)) 1).trans rfl, (blk_cell (blk_far (blk_far (blk_far (blk_far (blk_far BN.out (p := ⟨gh, 2, none⟩) NHN.out.symm (.int .i64 x0)) (p := ⟨gh, 3, none⟩) NHN.out.symm (.int .i64 x1)) (p := ⟨gh, 4, none⟩) NHN.out.symm (.int .i64 x2)) (p := ⟨gh, 5, none⟩) NHN.out.symm (.int .i64 x4)) (p := ⟨gh, 6, none⟩) NHN.out.symm (.int .i64 x3)) 2).trans rfl, (blk_cell (blk_far (blk_far (blk_far (blk_far (blk_far BN.out (p := ⟨gh, 2, none⟩) NHN.out.symm (.int .i64 x0)) (p := ⟨gh, 3, none⟩) NHN.out.symm (.int .i64 x1)) (p := ⟨gh, 4, none⟩) NHN.out.symm (.int .i64 x2)) (p := ⟨gh, 5, none⟩) NHN.out.symm (.int .i64 x4)) (p := ⟨gh, 6, none⟩) NHN.out.symm (.int .i64 x3)) 3).trans rfl, (blk_cell (blk_far (blk_far (blk_far (blk_far (blk_far BN.out (p := ⟨gh, 2, none⟩) NHN.out.symm (.int .i64 x0)) (p := ⟨gh, 3, none⟩) NHN.out.symm (.int .i64 x1)) (p := ⟨gh, 4, none⟩) NHN.out.symm (.int .i64 x2)) (p := ⟨gh, 5, none⟩) NHN.out.symm (.int .i64 x4)) (p := ⟨gh, 6, none⟩) NHN.out.symm (.int .i64 x3)) 4).trans rfl⟩ (fun hHeld => ?_)
        clear hK K
        refine done_ (by kernel_rfl) ?_
        clear hHeld hh0 fh0 hh1 fh1 hh2 fh2 hh3 fh3 hh4 fh4 hh5 fh5 hh6 fh6 hh7 fh7 hh8 fh8 BF BT
        have n0_ := Aside0.mk ((below_set (j := 6) (v := .int .i64 x3) (below_set (j := 5) (v := .int .i64 x4) (below_set (j := 4) (v := .int .i64 x2) (below_set (j := 3) (v := .int .i64 x1) (below_set (j := 2) (v := .int .i64 x0) HB.out GH.out) GH.out) GH.out) GH.out) GH.out))
        have n1_ := Aside0.mk ((blk_far (blk_far (blk_far (blk_far (blk_far BG.out (p := ⟨gh, 2, none⟩) NGH.out (.int .i64 x0)) (p := ⟨gh, 3, none⟩) NGH.out (.int .i64 x1)) (p := ⟨gh, 4, none⟩) NGH.out (.int .i64 x2)) (p := ⟨gh, 5, none⟩) NGH.out (.int .i64 x4)) (p := ⟨gh, 6, none⟩) NGH.out (.int .i64 x3)))
        have n2_ := Aside0.mk (show _ = some (Obj.cells #[.string p_, .string n_, .int .i64 x0, .int .i64 x1, .int .i64 x2, .int .i64 x4, .int .i64 x3, .int .u8 ty, .string l_] 62 (0, 0)) from by have h_ := (blk_set (blk_set (blk_set (blk_set (blk_set BH.out 2 (.int .i64 x0)) 3 (.int .i64 x1)) 4 (.int .i64 x2)) 5 (.int .i64 x4)) 6 (.int .i64 x3)); exact h_)
        clear HB BG BH BN
        have HB := n0_
        have BG := n1_
        have BH := n2_
        clear n0_ n1_ n2_
        generalize (World.setCell (World.setCell (World.setCell (World.setCell (World.setCell wx ⟨gh, 2, none⟩ (.int .i64 x0)) ⟨gh, 3, none⟩ (.int .i64 x1)) ⟨gh, 4, none⟩ (.int .i64 x2)) ⟨gh, 5, none⟩ (.int .i64 x4)) ⟨gh, 6, none⟩ (.int .i64 x3)) = w12 at HB BG BH ⊢
        have hh7 := (blk_cell BH.out 7).trans (rfl : _ = some (.int .u8 ty : Value))
        have h := HH.out
        clear HH
        obtain ⟨b, hT, h⟩ := Option.bind_eq_some_iff.1 h
        have HT := Aside0.mk hT
        clear hT
        cases b with
        | false =>
          rw [if_neg (by decide)] at h
          unfold noHead at h
          simp only [Option.some.injEq, Prod.mk.injEq] at h
          obtain ⟨rfl, rfl, rfl, rfl, rfl, rfl, rfl, rfl, rfl, rfl⟩ := h
          go_wp2_with ((go_at_call 53; (with_reducible refine (thwartref05_IsType.calls ty false _ HT.out).mono ?_); rintro e w13 ⟨rfl, hd⟩; have hb := drawn_below hd; have n0_ := Aside0.mk (below_step HB.out hb); have n1_ := Aside0.mk (blk_below BG.out hb); have n2_ := Aside0.mk (blk_below BH.out hb); clear HB BG BH hb hd hh7; have HB := n0_; have BG := n1_; have BH := n2_; clear n0_ n1_ n2_; have hg0 := (blk_cell BG.out 0).trans (rfl : _ = some (.string (⟨#[]⟩ : ByteArray) : Value)); have fg0 := blk_frozen BG.out 0; have hg1 := (blk_cell BG.out 1).trans (rfl : _ = some (.string (⟨#[]⟩ : ByteArray) : Value)); have fg1 := blk_frozen BG.out 1; have hg2 := (blk_cell BG.out 2).trans (rfl : _ = some (.int .i64 0 : Value)); have fg2 := blk_frozen BG.out 2; have hg3 := (blk_cell BG.out 3).trans (rfl : _ = some (.int .i64 0 : Value)); have fg3 := blk_frozen BG.out 3; have hg4 := (blk_cell BG.out 4).trans (rfl : _ = some (.int .i64 0 : Value)); have fg4 := blk_frozen BG.out 4; have hg5 := (blk_cell BG.out 5).trans (rfl : _ = some (.int .i64 0 : Value)); have fg5 := blk_frozen BG.out 5; have hg6 := (blk_cell BG.out 6).trans (rfl : _ = some (.int .i64 0 : Value)); have fg6 := blk_frozen BG.out 6; have hg7 := (blk_cell BG.out 7).trans (rfl : _ = some (.int .u8 0 : Value)); have fg7 := blk_frozen BG.out 7; have hg8 := (blk_cell BG.out 8).trans (rfl : _ = some (.string (⟨#[]⟩ : ByteArray) : Value)); have fg8 := blk_frozen BG.out 8))
          refine bodyPost_ret (results_ct rfl _ _ gg 62 #[.string (⟨#[]⟩ : ByteArray), .string (⟨#[]⟩ : ByteArray), .int .i64 0, .int .i64 0, .int .i64 0, .int .i64 0, .int .i64 0, .int .u8 0, .string (⟨#[]⟩ : ByteArray)] (0, 0) _ rfl (by have h_ := (blk_set (blk_set (blk_set (blk_set (blk_set (blk_set (blk_set (blk_set (blk_set BG.out 0 (.string (⟨#[]⟩ : ByteArray))) 1 (.string (⟨#[]⟩ : ByteArray))) 2 (.int .i64 0)) 3 (.int .i64 0)) 4 (.int .i64 0)) 5 (.int .i64 0)) 6 (.int .i64 0)) 7 (.int .u8 0)) 8 (.string (⟨#[]⟩ : ByteArray))); exact h_) Tryd.underlying62 rfl (by kernel_rfl)) rfl ?_
          exact ⟨rfl, (by repeat (first | (with_reducible first | exact HB.out | apply below_alloc | apply pw_below_drewN | apply below_drew1 | refine below_set ?_ GG.out | refine below_set ?_ GH.out) | exact HB.out))⟩
        | true =>
          rw [if_pos rfl] at h
          obtain ⟨c, hB, h⟩ := Option.bind_eq_some_iff.1 h
          have HBw := Aside0.mk hB
          clear hB
          cases c with
          | true =>
            rw [if_pos rfl] at h
            unfold noHead at h
            simp only [Option.some.injEq, Prod.mk.injEq] at h
            obtain ⟨rfl, rfl, rfl, rfl, rfl, rfl, rfl, rfl, rfl, rfl⟩ := h
            go_wp2_with (first | (go_at_call 53; (with_reducible refine (thwartref05_IsType.calls ty true _ HT.out).mono ?_); rintro e w13 ⟨rfl, hd⟩; have hb := drawn_below hd; have n0_ := Aside0.mk (below_step HB.out hb); have n1_ := Aside0.mk (blk_below BG.out hb); have n2_ := Aside0.mk (blk_below BH.out hb); clear HB BG BH hb hd hh7; have HB := n0_; have BG := n1_; have BH := n2_; clear n0_ n1_ n2_; have hh0 := (blk_cell BH.out 0).trans (rfl : _ = some (.string p_ : Value)); have fh0 := blk_frozen BH.out 0; have hh1 := (blk_cell BH.out 1).trans (rfl : _ = some (.string n_ : Value)); have fh1 := blk_frozen BH.out 1; have hh2 := (blk_cell BH.out 2).trans (rfl : _ = some (.int .i64 x0 : Value)); have fh2 := blk_frozen BH.out 2; have hh3 := (blk_cell BH.out 3).trans (rfl : _ = some (.int .i64 x1 : Value)); have fh3 := blk_frozen BH.out 3; have hh4 := (blk_cell BH.out 4).trans (rfl : _ = some (.int .i64 x2 : Value)); have fh4 := blk_frozen BH.out 4; have hh5 := (blk_cell BH.out 5).trans (rfl : _ = some (.int .i64 x4 : Value)); have fh5 := blk_frozen BH.out 5; have hh6 := (blk_cell BH.out 6).trans (rfl : _ = some (.int .i64 x3 : Value)); have fh6 := blk_frozen BH.out 6; have hh7 := (blk_cell BH.out 7).trans (rfl : _ = some (.int .u8 ty : Value)); have fh7 := blk_frozen BH.out 7; have hh8 := (blk_cell BH.out 8).trans (rfl : _ = some (.string l_ : Value)); have fh8 := blk_frozen BH.out 8) | (go_at_call 54; (with_reducible refine (thwartref05_below.calls p_ n_ x0 x1 x2 x4 x3 ty l_ true _ HBw.out).mono ?_); rintro e w14 ⟨rfl, hb⟩; have n0_ := Aside0.mk (below_step HB.out hb); have n1_ := Aside0.mk (blk_below BG.out hb); have n2_ := Aside0.mk (blk_below BH.out hb); clear HB BG BH hb hh0 fh0 hh1 fh1 hh2 fh2 hh3 fh3 hh4 fh4 hh5 fh5 hh6 fh6 hh7 fh7 hh8 fh8; have HB := n0_; have BG := n1_; have BH := n2_; clear n0_ n1_ n2_; have hg0 := (blk_cell BG.out 0).trans (rfl : _ = some (.string (⟨#[]⟩ : ByteArray) : Value)); have fg0 := blk_frozen BG.out 0; have hg1 := (blk_cell BG.out 1).trans (rfl : _ = some (.string (⟨#[]⟩ : ByteArray) : Value)); have fg1 := blk_frozen BG.out 1; have hg2 := (blk_cell BG.out 2).trans (rfl : _ = some (.int .i64 0 : Value)); have fg2 := blk_frozen BG.out 2; have hg3 := (blk_cell BG.out 3).trans (rfl : _ = some (.int .i64 0 : Value)); have fg3 := blk_frozen BG.out 3; have hg4 := (blk_cell BG.out 4).trans (rfl : _ = some (.int .i64 0 : Value)); have fg4 := blk_frozen BG.out 4; have hg5 := (blk_cell BG.out 5).trans (rfl : _ = some (.int .i64 0 : Value)); have fg5 := blk_frozen BG.out 5; have hg6 := (blk_cell BG.out 6).trans (rfl : _ = some (.int .i64 0 : Value)); have fg6 := blk_frozen BG.out 6; have hg7 := (blk_cell BG.out 7).trans (rfl : _ = some (.int .u8 0 : Value)); have fg7 := blk_frozen BG.out 7; have hg8 := (blk_cell BG.out 8).trans (rfl : _ = some (.string (⟨#[]⟩ : ByteArray) : Value)); have fg8 := blk_frozen BG.out 8; have hh0 := (blk_cell BH.out 0).trans (rfl : _ = some (.string p_ : Value)); have fh0 := blk_frozen BH.out 0; have hh1 := (blk_cell BH.out 1).trans (rfl : _ = some (.string n_ : Value)); have fh1 := blk_frozen BH.out 1; have hh2 := (blk_cell BH.out 2).trans (rfl : _ = some (.int .i64 x0 : Value)); have fh2 := blk_frozen BH.out 2; have hh3 := (blk_cell BH.out 3).trans (rfl : _ = some (.int .i64 x1 : Value)); have fh3 := blk_frozen BH.out 3; have hh4 := (blk_cell BH.out 4).trans (rfl : _ = some (.int .i64 x2 : Value)); have fh4 := blk_frozen BH.out 4; have hh5 := (blk_cell BH.out 5).trans (rfl : _ = some (.int .i64 x4 : Value)); have fh5 := blk_frozen BH.out 5; have hh6 := (blk_cell BH.out 6).trans (rfl : _ = some (.int .i64 x3 : Value)); have fh6 := blk_frozen BH.out 6; have hh7 := (blk_cell BH.out 7).trans (rfl : _ = some (.int .u8 ty : Value)); have fh7 := blk_frozen BH.out 7; have hh8 := (blk_cell BH.out 8).trans (rfl : _ = some (.string l_ : Value)); have fh8 := blk_frozen BH.out 8))
            refine bodyPost_ret (results_ct rfl _ _ gg 62 #[.string (⟨#[]⟩ : ByteArray), .string (⟨#[]⟩ : ByteArray), .int .i64 0, .int .i64 0, .int .i64 0, .int .i64 0, .int .i64 0, .int .u8 0, .string (⟨#[]⟩ : ByteArray)] (0, 0) _ rfl (by have h_ := (blk_set (blk_set (blk_set (blk_set (blk_set (blk_set (blk_set (blk_set (blk_set BG.out 0 (.string (⟨#[]⟩ : ByteArray))) 1 (.string (⟨#[]⟩ : ByteArray))) 2 (.int .i64 0)) 3 (.int .i64 0)) 4 (.int .i64 0)) 5 (.int .i64 0)) 6 (.int .i64 0)) 7 (.int .u8 0)) 8 (.string (⟨#[]⟩ : ByteArray))); exact h_) Tryd.underlying62 rfl (by kernel_rfl)) rfl ?_
            exact ⟨rfl, (by repeat (first | (with_reducible first | exact HB.out | apply below_alloc | apply pw_below_drewN | apply below_drew1 | refine below_set ?_ GG.out | refine below_set ?_ GH.out) | exact HB.out))⟩
          | false =>
            rw [if_neg (by decide)] at h
            simp only [Option.some.injEq, Prod.mk.injEq] at h
            obtain ⟨rfl, rfl, rfl, rfl, rfl, rfl, rfl, rfl, rfl, rfl⟩ := h
            go_wp2_with (first | (go_at_call 53; (with_reducible refine (thwartref05_IsType.calls ty true _ HT.out).mono ?_); rintro e w13 ⟨rfl, hd⟩; have hb := drawn_below hd; have n0_ := Aside0.mk (below_step HB.out hb); have n1_ := Aside0.mk (blk_below BG.out hb); have n2_ := Aside0.mk (blk_below BH.out hb); clear HB BG BH hb hd hh7; have HB := n0_; have BG := n1_; have BH := n2_; clear n0_ n1_ n2_; have hh0 := (blk_cell BH.out 0).trans (rfl : _ = some (.string p_ : Value)); have fh0 := blk_frozen BH.out 0; have hh1 := (blk_cell BH.out 1).trans (rfl : _ = some (.string n_ : Value)); have fh1 := blk_frozen BH.out 1; have hh2 := (blk_cell BH.out 2).trans (rfl : _ = some (.int .i64 x0 : Value)); have fh2 := blk_frozen BH.out 2; have hh3 := (blk_cell BH.out 3).trans (rfl : _ = some (.int .i64 x1 : Value)); have fh3 := blk_frozen BH.out 3; have hh4 := (blk_cell BH.out 4).trans (rfl : _ = some (.int .i64 x2 : Value)); have fh4 := blk_frozen BH.out 4; have hh5 := (blk_cell BH.out 5).trans (rfl : _ = some (.int .i64 x4 : Value)); have fh5 := blk_frozen BH.out 5; have hh6 := (blk_cell BH.out 6).trans (rfl : _ = some (.int .i64 x3 : Value)); have fh6 := blk_frozen BH.out 6; have hh7 := (blk_cell BH.out 7).trans (rfl : _ = some (.int .u8 ty : Value)); have fh7 := blk_frozen BH.out 7; have hh8 := (blk_cell BH.out 8).trans (rfl : _ = some (.string l_ : Value)); have fh8 := blk_frozen BH.out 8) | (go_at_call 54; (with_reducible refine (thwartref05_below.calls p_ n_ x0 x1 x2 x4 x3 ty l_ false _ HBw.out).mono ?_); rintro e w14 ⟨rfl, hb⟩; have n0_ := Aside0.mk (below_step HB.out hb); have n1_ := Aside0.mk (blk_below BG.out hb); have n2_ := Aside0.mk (blk_below BH.out hb); clear HB BG BH hb hh0 fh0 hh1 fh1 hh2 fh2 hh3 fh3 hh4 fh4 hh5 fh5 hh6 fh6 hh7 fh7 hh8 fh8; have HB := n0_; have BG := n1_; have BH := n2_; clear n0_ n1_ n2_; have hg0 := (blk_cell BG.out 0).trans (rfl : _ = some (.string (⟨#[]⟩ : ByteArray) : Value)); have fg0 := blk_frozen BG.out 0; have hg1 := (blk_cell BG.out 1).trans (rfl : _ = some (.string (⟨#[]⟩ : ByteArray) : Value)); have fg1 := blk_frozen BG.out 1; have hg2 := (blk_cell BG.out 2).trans (rfl : _ = some (.int .i64 0 : Value)); have fg2 := blk_frozen BG.out 2; have hg3 := (blk_cell BG.out 3).trans (rfl : _ = some (.int .i64 0 : Value)); have fg3 := blk_frozen BG.out 3; have hg4 := (blk_cell BG.out 4).trans (rfl : _ = some (.int .i64 0 : Value)); have fg4 := blk_frozen BG.out 4; have hg5 := (blk_cell BG.out 5).trans (rfl : _ = some (.int .i64 0 : Value)); have fg5 := blk_frozen BG.out 5; have hg6 := (blk_cell BG.out 6).trans (rfl : _ = some (.int .i64 0 : Value)); have fg6 := blk_frozen BG.out 6; have hg7 := (blk_cell BG.out 7).trans (rfl : _ = some (.int .u8 0 : Value)); have fg7 := blk_frozen BG.out 7; have hg8 := (blk_cell BG.out 8).trans (rfl : _ = some (.string (⟨#[]⟩ : ByteArray) : Value)); have fg8 := blk_frozen BG.out 8; have hh0 := (blk_cell BH.out 0).trans (rfl : _ = some (.string p_ : Value)); have fh0 := blk_frozen BH.out 0; have hh1 := (blk_cell BH.out 1).trans (rfl : _ = some (.string n_ : Value)); have fh1 := blk_frozen BH.out 1; have hh2 := (blk_cell BH.out 2).trans (rfl : _ = some (.int .i64 x0 : Value)); have fh2 := blk_frozen BH.out 2; have hh3 := (blk_cell BH.out 3).trans (rfl : _ = some (.int .i64 x1 : Value)); have fh3 := blk_frozen BH.out 3; have hh4 := (blk_cell BH.out 4).trans (rfl : _ = some (.int .i64 x2 : Value)); have fh4 := blk_frozen BH.out 4; have hh5 := (blk_cell BH.out 5).trans (rfl : _ = some (.int .i64 x4 : Value)); have fh5 := blk_frozen BH.out 5; have hh6 := (blk_cell BH.out 6).trans (rfl : _ = some (.int .i64 x3 : Value)); have fh6 := blk_frozen BH.out 6; have hh7 := (blk_cell BH.out 7).trans (rfl : _ = some (.int .u8 ty : Value)); have fh7 := blk_frozen BH.out 7; have hh8 := (blk_cell BH.out 8).trans (rfl : _ = some (.string l_ : Value)); have fh8 := blk_frozen BH.out 8))
            refine bodyPost_ret (results_ct rfl _ _ gg 62 #[.string p_, .string n_, .int .i64 x0, .int .i64 x1, .int .i64 x2, .int .i64 x4, .int .i64 x3, .int .u8 ty, .string l_] (0, 0) _ rfl (by have h_ := (blk_set (blk_set (blk_set (blk_set (blk_set (blk_set (blk_set (blk_set (blk_set BG.out 0 (.string p_)) 1 (.string n_)) 2 (.int .i64 x0)) 3 (.int .i64 x1)) 4 (.int .i64 x2)) 5 (.int .i64 x4)) 6 (.int .i64 x3)) 7 (.int .u8 ty)) 8 (.string l_)); exact h_) Tryd.underlying62 rfl (by kernel_rfl)) rfl ?_
            exact ⟨rfl, (by repeat (first | (with_reducible first | exact HB.out | apply below_alloc | apply pw_below_drewN | apply below_drew1 | refine below_set ?_ GG.out | refine below_set ?_ GH.out) | exact HB.out))⟩
theorem ref_nums_mono (l : List Int) : ∀ (t : List (Nat × Nat)) (acc : List Int) k, LeO (ref_nums k l t acc) (ref_nums (k + 1) l t acc) := by
  intro t
  induction t with
  | nil => intro acc k; exact LeO.refl _
  | cons ab t ih =>
    intro acc k
    unfold ref_nums
    exact LeO.bind (thwartref01_Get.mono _ _) (fun _ => LeO.ite (ih _ k) (LeO.refl _))
theorem ref05_Parse.mono : ∀ l k, LeO (ref05_Parse.f k l) (ref05_Parse.f (k + 1) l) := by
  intro l k
  unfold ref05_Parse.f
  repeat' first
    | (with_reducible exact thwartref03_Check.mono _ _)
    | (with_reducible exact thwartref02_Get.mono _ _)
    | (with_reducible exact ref_nums_mono _ _ _ _)
    | (with_reducible exact LeO.refl _)
    | (with_reducible refine LeO.bind ?_ (fun _ => ?_))
    | (with_reducible refine LeO.ite ?_ ?_)
    | exact LeO.refl _
end Go.Proofs.YthjljkdiglpbaaaDoor.Hand

-- HHeadP
/- HeadParses, by hand, out of the printed walk: its ways meet, and part behind the calls. -/
namespace Go.Proofs.YthjljkdiglpbaaaDoor.P
open Go.RowKit Go.Proofs.YthjljkdiglpbaaaDoorW.PrintWords Go.Proofs.YthjljkdiglpbaaaDoorW.PrintLast Go.Proofs.YthjljkdiglpbaaaDoorW.PrintMore Go.Proofs.YthjljkdiglpbaaaDoor.Hand
attribute [local go_sem] max2_int min2_int max_two min_two max_three min_three max_four min_four   -- for this text's walks alone
set_option linter.unusedVariables false
set_option linter.unusedSimpArgs false

def thwartlaw05_HeadParses.rest (k : Nat) (l0 : List Int) : Option (Bool) := (head_Parse.f k l0).bind fun bt234 => ((ref05_Parse.f k l0).bind fun bt245 => ((thwartlaw05_theirs.f bt245.1 bt245.2.1 bt245.2.2.1 bt245.2.2.2.1 bt245.2.2.2.2.1 bt245.2.2.2.2.2.1 bt245.2.2.2.2.2.2.1 bt245.2.2.2.2.2.2.2.1 bt245.2.2.2.2.2.2.2.2.1).bind fun bt256 => ((head_Same.f bt234.1 bt234.2.1 bt234.2.2.1 bt234.2.2.2.1 bt234.2.2.2.2.1 bt234.2.2.2.2.2.1 bt234.2.2.2.2.2.2.1 bt234.2.2.2.2.2.2.2.1 bt234.2.2.2.2.2.2.2.2.1 bt256.1 bt256.2.1 bt256.2.2.1 bt256.2.2.2.1 bt256.2.2.2.2.1 bt256.2.2.2.2.2.1 bt256.2.2.2.2.2.2.1 bt256.2.2.2.2.2.2.2.1 bt256.2.2.2.2.2.2.2.2).bind fun t265 => (if t265 = true then (if bt234.2.2.2.2.2.2.2.2.2 = bt245.2.2.2.2.2.2.2.2.2 then ((thwartlaw05_alive.f k).bind fun t266 => (some t266)) else (some false)) else (some false)))))
def thwartlaw05_HeadParses.f (k : Nat) (l0 : List Int) (a1 : Bool) : Option (Bool) := if (l0.length : Int) > 1000 then ((thwartlaw05_alive.f k).bind fun t233 => (some t233)) else (if a1 = true ∧ (l0.length : Int) = 512 then ((thwartref03_Put.f k l0).bind fun bt163 => thwartlaw05_HeadParses.rest k bt163.1) else thwartlaw05_HeadParses.rest k l0)
def thwartlaw05_HeadParses.T7 : Bool × List (List Nat × List Nat) := (true, [([], []), ([], []), ([1], [1]), ([0, 2, 2], [0, 2]), ([3, 3], [3]), ([4], [4]), ([4], [4]), ([5, 6, 4], [4, 5, 6]), ([4, 7], [4, 7]), ([8, 4], [8]), ([9, 9], [9]), ([9, 10], [9, 10]), ([11, 10, 0, 1, 2, 3, 4, 5, 6, 7, 8, 9, 10, 11], [11])])
def thwartlaw05_HeadParses.B7 : List Nat := [0, 0, 2, 7, 15, 31, 31, 127, 255, 511, 1023, 2047, 4095]
theorem thwartlaw05_HeadParses.tab7 : rtab .any (opsOf Tryd.f6 7) = thwartlaw05_HeadParses.T7 := by kernel_rfl
theorem thwartlaw05_HeadParses.bits7 : waitsOk thwartlaw05_HeadParses.T7.2 thwartlaw05_HeadParses.B7 = true := by kernel_rfl
set_option maxHeartbeats 8000000 in
set_option maxRecDepth 100000 in
theorem thwartlaw05_HeadParses.calls (k : Nat) (A0 : Option Addr) (c0 : Nat) (l0 : List Int) (a1 : Bool) (r : Bool) (w : World) (hr0 : Kd.C (Kd.int .u8) w A0 l0.length l0) (hc0 : l0.length ≤ c0) (h : thwartlaw05_HeadParses.f k l0 a1 = some r) :
    Calls Tryd.prog 6 #[.slice A0 l0.length c0, .bool a1] w fun e w' => e = .returned (.bool r) ∧ Below w.heap.size w w' := by
  have hu57 := Tryd.underlying57
  have hu62 := Tryd.underlying62
  have HR0 := Aside0.mk hr0
  have HC0 := Aside0.mk hc0
  clear hr0 hc0
  have HB := Aside0.mk (Below.refl w.heap.size w)
  unfold thwartlaw05_HeadParses.f at h
  have H := h
  clear h
  by_cases c3 : (l0.length : Int) > 1000
  · rw [if_pos c3] at H
    have c3b0 : decide (1000 < (l0.length : Int)) = true := decide_eq_true c3
    have c3b1 : decide (1000 < l0.length) = true := decide_eq_true (by omega)
    clear c3
    replace H := Option.bind_eq_some_iff.mp H
    obtain ⟨t233, A40, H⟩ := H
    replace H : (some t233) = some r := H
    have A4 := Aside0.mk A40
    clear A40
    obtain rfl := Option.some.inj H
    go_enter Tryd.func6, Tryd.ntmps6
    go_wp2_with (first | ((with_reducible refine gate_callee (f := 24) rfl ?_); refine goesL_ (some 12) rfl rfl Tryd.func24 (by kernel_rfl) rfl #[] rfl (by (try simp only [List.map_toArray, List.map_cons, List.map_nil]); first | done | rfl | (simp only [List.length_drop, List.length_take]; rfl)) ?_; (with_reducible refine (thwartlaw05_alive.calls k  t233 _ A4.out).mono ?_); rintro e w5 ⟨rfl, hb⟩; refine ⟨_, rfl, ?_⟩; have n0_ := Aside0.mk (below_step (by repeat (first | (with_reducible first | exact HB.out | apply below_alloc | apply pw_below_drewN | apply below_drew1) | exact HB.out)) hb); clear HB; have HB := n0_; clear n0_; (try clear hb); (try clear hb2); (try clear hk); (try clear hi)))
    go_ret
    exact ⟨by first | rfl | (simp [errW_none, errW_some] <;> rfl) | (simp [*, errW_none, errW_some] <;> rfl), by repeat (first | (with_reducible first | exact HB.out | apply below_alloc | apply pw_below_drewN | apply below_drew1) | exact HB.out)⟩
  · rw [if_neg c3] at H
    have c3b0 : decide (1000 < (l0.length : Int)) = false := decide_eq_false c3
    have c3b1 : decide (1000 < l0.length) = false := decide_eq_false (by omega)
    clear c3
    have HH := Aside0.mk H
    clear H
    go_enter Tryd.func6, Tryd.ntmps6
    go_upto_region 3 with (fail)
    (try simp only [Act.put, List.setIfInBounds_toArray, List.set_cons_zero, List.set_cons_succ])
    go_cut [18] (fun v18 wc => w = wc ∧ ∃ x18 : Bool, v18 = .bool x18 ∧ Aside0 (x18 = (a1 && ((l0.length : Int) == 512))))
    case first =>
      cases a1
      · go_wp2
        go_meet
        case rel => exact ⟨rfl, false, rfl, ⟨rfl⟩⟩
      · go_wp2
        go_meet
        case rel => exact ⟨rfl, _, rfl, ⟨rfl⟩⟩
    case rest =>
      obtain ⟨rfl, x18, rfl, hx18⟩ := hcut
      go_upto_if 18 with (fail)
      go_cut [0] (fun v0 wc => ∃ (A : Option Addr) (c : Nat) (m : List Int), v0 = .slice A m.length c ∧ Aside0 (thwartlaw05_HeadParses.rest k m = some r) ∧ Aside0 (Kd.C (Kd.int .u8) wc A m.length m) ∧ Aside0 (m.length ≤ c) ∧ Aside0 (Below w.heap.size w wc))
      case first =>
        have H := HH.out
        clear HH
        by_cases c4 : a1 = true ∧ (l0.length : Int) = 512
        · rw [if_pos c4] at H
          obtain rfl : x18 = true := by rw [hx18.out, c4.1, c4.2]; rfl
          clear hx18 c4
          obtain ⟨⟨t163, t164⟩, A70, H⟩ := Option.bind_eq_some_iff.mp H
          have A7 := Aside0.mk A70
          have H' := Aside0.mk H
          clear A70 H
          go_wp2_with ((with_reducible refine gate_callee (f := 25) rfl ?_); refine goesL_ (some 21) rfl rfl Tryd.func25 (by kernel_rfl) rfl #[.slice A0 l0.length c0] rfl (by (try simp only [List.map_toArray, List.map_cons, List.map_nil]); first | done | rfl | (simp only [List.length_drop, List.length_take]; rfl)) ?_; (with_reducible refine (thwartref03_Put.calls k _ _ l0 t163 t164 _ ?side1 ?side2 A7.out).mono ?_); (case side1 => repeat (first | exact HR0.out | (with_reducible refine Kd.C_alloc ?_ _) | (with_reducible refine Kd.C_drewN ?_ _) | (with_reducible refine Kd.C_drew ?_))); (case side2 => exact HC0.out); rintro e w15 ⟨v165, rfl, ho0, hb⟩; refine ⟨_, rfl, ?_⟩; have n0_ := Aside0.mk (Kd.R_lower ho0 (below_size (by repeat (first | (with_reducible first | exact HB.out | apply below_alloc | apply pw_below_drewN | apply below_drew1) | exact HB.out)))); have n1_ := Aside0.mk (below_step (by repeat (first | (with_reducible first | exact HB.out | apply below_alloc | apply pw_below_drewN | apply below_drew1) | exact HB.out)) hb); clear HB; have HO166 := n0_; have HB := n1_; clear n0_ n1_; (try clear hb); (try clear hb2); (try clear hk); (try clear hi); (try clear ho0); obtain ⟨Ao16, co16, eo16⟩ := Kd.R_slice HO166.out; subst eo16)
          go_meet
          case rel => exact ⟨Ao16, co16, t163, rfl, H', ⟨(Kd.R_reads' HO166.out).2.2⟩, ⟨(Kd.R_reads' HO166.out).2.1⟩, HB⟩
        · rw [if_neg c4] at H
          obtain rfl : x18 = false := by
            rw [hx18.out, Bool.and_eq_false_iff]
            by_cases ha : a1 = true
            · exact .inr (beq_eq_false_iff_ne.2 (fun e => c4 ⟨ha, e⟩))
            · exact .inl (by simpa using ha)
          clear hx18 c4
          have H' := Aside0.mk H
          clear H
          go_wp2
          go_meet
          case rel => exact ⟨A0, c0, l0, rfl, H', HR0, HC0, HB⟩
      case rest =>
        obtain ⟨A1, c1, l1, rfl, HA, n1_, n2_, HBW⟩ := hcut
        clear HR0 HC0 HB HH hx18
        have HR0 := n1_
        have HC0 := n2_
        clear n1_ n2_
        have HB := Aside0.mk (Below.refl wc.heap.size wc)
        have H := HA.out
        clear HA
        unfold thwartlaw05_HeadParses.rest at H
        replace H := Option.bind_eq_some_iff.mp H
        obtain ⟨⟨t234, t235, t236, t237, t238, t239, t240, t241, t242, t243⟩, A60, H⟩ := H
        replace H : ((ref05_Parse.f k l1).bind fun bt245 => ((thwartlaw05_theirs.f bt245.1 bt245.2.1 bt245.2.2.1 bt245.2.2.2.1 bt245.2.2.2.2.1 bt245.2.2.2.2.2.1 bt245.2.2.2.2.2.2.1 bt245.2.2.2.2.2.2.2.1 bt245.2.2.2.2.2.2.2.2.1).bind fun bt256 => ((head_Same.f t234 t235 t236 t237 t238 t239 t240 t241 t242 bt256.1 bt256.2.1 bt256.2.2.1 bt256.2.2.2.1 bt256.2.2.2.2.1 bt256.2.2.2.2.2.1 bt256.2.2.2.2.2.2.1 bt256.2.2.2.2.2.2.2.1 bt256.2.2.2.2.2.2.2.2).bind fun t265 => (if t265 = true then (if t243 = bt245.2.2.2.2.2.2.2.2.2 then ((thwartlaw05_alive.f k).bind fun t266 => (some t266)) else (some false)) else (some false))))) = some r := H
        have A6 := Aside0.mk A60
        clear A60
        replace H := Option.bind_eq_some_iff.mp H
        obtain ⟨⟨t245, t246, t247, t248, t249, t250, t251, t252, t253, t254⟩, A70, H⟩ := H
        replace H : ((thwartlaw05_theirs.f t245 t246 t247 t248 t249 t250 t251 t252 t253).bind fun bt256 => ((head_Same.f t234 t235 t236 t237 t238 t239 t240 t241 t242 bt256.1 bt256.2.1 bt256.2.2.1 bt256.2.2.2.1 bt256.2.2.2.2.1 bt256.2.2.2.2.2.1 bt256.2.2.2.2.2.2.1 bt256.2.2.2.2.2.2.2.1 bt256.2.2.2.2.2.2.2.2).bind fun t265 => (if t265 = true then (if t243 = t254 then ((thwartlaw05_alive.f k).bind fun t266 => (some t266)) else (some false)) else (some false)))) = some r := H
        have A7 := Aside0.mk A70
        clear A70
        replace H := Option.bind_eq_some_iff.mp H
        obtain ⟨⟨t256, t257, t258, t259, t260, t261, t262, t263, t264⟩, A80, H⟩ := H
        replace H : ((head_Same.f t234 t235 t236 t237 t238 t239 t240 t241 t242 t256 t257 t258 t259 t260 t261 t262 t263 t264).bind fun t265 => (if t265 = true then (if t243 = t254 then ((thwartlaw05_alive.f k).bind fun t266 => (some t266)) else (some false)) else (some false))) = some r := H
        have A8 := Aside0.mk A80
        clear A80
        replace H := Option.bind_eq_some_iff.mp H
        obtain ⟨t265, A90, H⟩ := H
        replace H : (if t265 = true then (if t243 = t254 then ((thwartlaw05_alive.f k).bind fun t266 => (some t266)) else (some false)) else (some false)) = some r := H
        have A9 := Aside0.mk A90
        clear A90
        try go_wp2_with (first | ((with_reducible refine gate_callee (f := 26) rfl ?_); refine goesL_ (some 26) rfl rfl Tryd.func26 (by kernel_rfl) rfl #[.slice A1 l1.length c1] rfl (by (try simp only [List.map_toArray, List.map_cons, List.map_nil]); first | done | rfl | (simp only [List.length_drop, List.length_take]; rfl)) ?_; (with_reducible refine (head_Parse.calls k _ _ l1 t234 t235 t236 t237 t238 t239 t240 t241 t242 t243 _ ?side1 ?side2 A6.out).mono ?_); (case side1 => repeat (first | exact HR0.out | (with_reducible refine Kd.C_alloc ?_ _) | (with_reducible refine Kd.C_drewN ?_ _) | (with_reducible refine Kd.C_drew ?_))); (case side2 => exact HC0.out); rintro e w13 ⟨rfl, hb⟩; refine ⟨_, rfl, ?_⟩; have n0_ := Aside0.mk (below_step (by repeat (first | (with_reducible first | exact HB.out | apply below_alloc | apply pw_below_drewN | apply below_drew1) | exact HB.out)) hb); clear HB; have HB := n0_; clear n0_; (try clear hb); (try clear hb2); (try clear hk); (try clear hi)) | ((with_reducible refine gate_dst (N := 5) rfl ?_); (try (refine gate_guard (by rfl) ?_; dsimp only)); refine box_event ?hg (N := 5) ?hd (cs := #[.string (⟨#[]⟩ : ByteArray), .string (⟨#[]⟩ : ByteArray), .int .i64 0, .int .i64 0, .int .i64 0, .int .i64 0, .int .i64 0, .int .u8 0, .string (⟨#[]⟩ : ByteArray)]) (t := 57) ?hr ?_; (case hd => rfl); (case hg => rfl); (case hr => first | (go_simp; done) | (go_simp; rfl)); intro gb244 hg w14 hbox hb; have n0_ := Aside0.mk (below_step (by repeat (first | (with_reducible first | exact HB.out | apply below_alloc | apply pw_below_drewN | apply below_drew1) | exact HB.out)) hb); have n1_ := Aside0.mk (hbox); have n2_ := Aside0.mk ((by rw [hg]; exact (below_size (by repeat (first | (with_reducible first | exact HB.out | apply below_alloc | apply pw_below_drewN | apply below_drew1) | exact HB.out))) : wc.heap.size ≤ gb244)); have n3_ := Aside0.mk ((by rw [hg]; exact (below_size (by repeat (first | (with_reducible first | exact HB.out | apply below_alloc | apply pw_below_drewN | apply below_drew1) | exact HB.out))) : wc.heap.size ≤ gb244)); clear HB; have HB := n0_; have BK244 := n1_; have GW244 := n2_; have GE244 := n3_; clear n0_ n1_ n2_ n3_; clear hb hbox hg; have hcz15_0 : w14.cell? ⟨gb244, 0, none⟩ = some (.string (⟨#[]⟩ : ByteArray)) := (blk_cell BK244.out 0).trans rfl; have hcz15_1 : w14.cell? ⟨gb244, 1, none⟩ = some (.string (⟨#[]⟩ : ByteArray)) := (blk_cell BK244.out 1).trans rfl; have hcz15_2 : w14.cell? ⟨gb244, 2, none⟩ = some (.int .i64 0) := (blk_cell BK244.out 2).trans rfl; have hcz15_3 : w14.cell? ⟨gb244, 3, none⟩ = some (.int .i64 0) := (blk_cell BK244.out 3).trans rfl; have hcz15_4 : w14.cell? ⟨gb244, 4, none⟩ = some (.int .i64 0) := (blk_cell BK244.out 4).trans rfl; have hcz15_5 : w14.cell? ⟨gb244, 5, none⟩ = some (.int .i64 0) := (blk_cell BK244.out 5).trans rfl; have hcz15_6 : w14.cell? ⟨gb244, 6, none⟩ = some (.int .i64 0) := (blk_cell BK244.out 6).trans rfl; have hcz15_7 : w14.cell? ⟨gb244, 7, none⟩ = some (.int .u8 0) := (blk_cell BK244.out 7).trans rfl; have hcz15_8 : w14.cell? ⟨gb244, 8, none⟩ = some (.string (⟨#[]⟩ : ByteArray)) := (blk_cell BK244.out 8).trans rfl; have hfz15_0 := blk_frozen BK244.out 0; have hfz15_1 := blk_frozen BK244.out 1; have hfz15_2 := blk_frozen BK244.out 2; have hfz15_3 := blk_frozen BK244.out 3; have hfz15_4 := blk_frozen BK244.out 4; have hfz15_5 := blk_frozen BK244.out 5; have hfz15_6 := blk_frozen BK244.out 6; have hfz15_7 := blk_frozen BK244.out 7; have hfz15_8 := blk_frozen BK244.out 8) | ((with_reducible refine gate_callee (f := 27) rfl ?_); refine goesL_ (some 31) rfl rfl Tryd.func27 (by kernel_rfl) rfl #[.slice A1 l1.length c1] rfl (by (try simp only [List.map_toArray, List.map_cons, List.map_nil]); first | done | rfl | (simp only [List.length_drop, List.length_take]; rfl)) ?_; (with_reducible refine (ref05_Parse.calls k _ _ l1 t245 t246 t247 t248 t249 t250 t251 t252 t253 t254 _ ?side1 ?side2 A7.out).mono ?_); (case side1 => exact Kd.C_below HR0.out (by repeat (first | (with_reducible first | exact HB.out | apply below_alloc | apply pw_below_drewN | apply below_drew1 | refine below_set ?_ GE244.out) | exact HB.out))); (case side2 => exact HC0.out); rintro e w16 ⟨rfl, hb⟩; refine ⟨_, rfl, ?_⟩; have n0_ := Aside0.mk (blk_below (g := gb244) (o := .cells #[.string t234, .string t235, .int .i64 t236, .int .i64 t237, .int .i64 t238, .int .i64 t239, .int .i64 t240, .int .u8 t241, .string t242] 57 (0, 0)) (by (with_reducible repeat (first | refine blk_drewN ?_ _ | refine blk_drew ?_ | refine blk_alloc ?_ _)); refine blk_put (cs := #[.string t234, .string t235, .int .i64 t236, .int .i64 t237, .int .i64 t238, .int .i64 t239, .int .i64 t240, .int .u8 t241, .string (⟨#[]⟩ : ByteArray)]) ?_ 8 _ rfl; (with_reducible repeat (first | refine blk_drewN ?_ _ | refine blk_drew ?_ | refine blk_alloc ?_ _)); refine blk_put (cs := #[.string t234, .string t235, .int .i64 t236, .int .i64 t237, .int .i64 t238, .int .i64 t239, .int .i64 t240, .int .u8 0, .string (⟨#[]⟩ : ByteArray)]) ?_ 7 _ rfl; (with_reducible repeat (first | refine blk_drewN ?_ _ | refine blk_drew ?_ | refine blk_alloc ?_ _)); refine blk_put (cs := #[.string t234, .string t235, .int .i64 t236, .int .i64 t237, .int .i64 t238, .int .i64 t239, .int .i64 0, .int .u8 0, .string (⟨#[]⟩ : ByteArray)]) ?_ 6 _ rfl; (with_reducible repeat (first | refine blk_drewN ?_ _ | refine blk_drew ?_ | refine blk_alloc ?_ _)); refine blk_put (cs := #[.string t234, .string t235, .int .i64 t236, .int .i64 t237, .int .i64 t238, .int .i64 0, .int .i64 0, .int .u8 0, .string (⟨#[]⟩ : ByteArray)]) ?_ 5 _ rfl; (with_reducible repeat (first | refine blk_drewN ?_ _ | refine blk_drew ?_ | refine blk_alloc ?_ _)); refine blk_put (cs := #[.string t234, .string t235, .int .i64 t236, .int .i64 t237, .int .i64 0, .int .i64 0, .int .i64 0, .int .u8 0, .string (⟨#[]⟩ : ByteArray)]) ?_ 4 _ rfl; (with_reducible repeat (first | refine blk_drewN ?_ _ | refine blk_drew ?_ | refine blk_alloc ?_ _)); refine blk_put (cs := #[.string t234, .string t235, .int .i64 t236, .int .i64 0, .int .i64 0, .int .i64 0, .int .i64 0, .int .u8 0, .string (⟨#[]⟩ : ByteArray)]) ?_ 3 _ rfl; (with_reducible repeat (first | refine blk_drewN ?_ _ | refine blk_drew ?_ | refine blk_alloc ?_ _)); refine blk_put (cs := #[.string t234, .string t235, .int .i64 0, .int .i64 0, .int .i64 0, .int .i64 0, .int .i64 0, .int .u8 0, .string (⟨#[]⟩ : ByteArray)]) ?_ 2 _ rfl; (with_reducible repeat (first | refine blk_drewN ?_ _ | refine blk_drew ?_ | refine blk_alloc ?_ _)); refine blk_put (cs := #[.string t234, .string (⟨#[]⟩ : ByteArray), .int .i64 0, .int .i64 0, .int .i64 0, .int .i64 0, .int .i64 0, .int .u8 0, .string (⟨#[]⟩ : ByteArray)]) ?_ 1 _ rfl; (with_reducible repeat (first | refine blk_drewN ?_ _ | refine blk_drew ?_ | refine blk_alloc ?_ _)); refine blk_put (cs := #[.string (⟨#[]⟩ : ByteArray), .string (⟨#[]⟩ : ByteArray), .int .i64 0, .int .i64 0, .int .i64 0, .int .i64 0, .int .i64 0, .int .u8 0, .string (⟨#[]⟩ : ByteArray)]) ?_ 0 _ rfl; (with_reducible repeat (first | refine blk_drewN ?_ _ | refine blk_drew ?_ | refine blk_alloc ?_ _)); exact BK244.out) hb); have n1_ := Aside0.mk (below_step (by repeat (first | (with_reducible first | exact HB.out | apply below_alloc | apply pw_below_drewN | apply below_drew1 | refine below_set ?_ GE244.out) | exact HB.out)) hb); clear BK244; clear HB; have BK244 := n0_; have HB := n1_; clear n0_ n1_; (try clear hb); (try clear hb2); (try clear hk); (try clear hi)) | ((with_reducible refine gate_dst (N := 7) rfl ?_); (try (refine gate_guard (by rfl) ?_; dsimp only)); refine box_event ?hg (N := 7) ?hd (cs := #[.string (⟨#[]⟩ : ByteArray), .string (⟨#[]⟩ : ByteArray), .int .i64 0, .int .i64 0, .int .i64 0, .int .i64 0, .int .i64 0, .int .u8 0, .string (⟨#[]⟩ : ByteArray)]) (t := 62) ?hr ?_; (case hd => rfl); (case hg => rfl); (case hr => first | (go_simp; done) | (go_simp; rfl)); intro gb255 hg w17 hbox hb; have n0_ := Aside0.mk (blk_below (g := gb244) (o := .cells #[.string t234, .string t235, .int .i64 t236, .int .i64 t237, .int .i64 t238, .int .i64 t239, .int .i64 t240, .int .u8 t241, .string t242] 57 (0, 0)) (by (with_reducible repeat (first | refine blk_drewN ?_ _ | refine blk_drew ?_ | refine blk_alloc ?_ _)); exact BK244.out) hb); have n1_ := Aside0.mk (below_step (by repeat (first | (with_reducible first | exact HB.out | apply below_alloc | apply pw_below_drewN | apply below_drew1 | refine below_set ?_ GE244.out) | exact HB.out)) hb); have n2_ := Aside0.mk (hbox); have n3_ := Aside0.mk ((by rw [hg]; exact (below_size (by repeat (first | (with_reducible first | exact HB.out | apply below_alloc | apply pw_below_drewN | apply below_drew1 | refine below_set ?_ GE244.out) | exact HB.out))) : wc.heap.size ≤ gb255)); have n4_ := Aside0.mk ((by rw [hg]; exact (below_size (by repeat (first | (with_reducible first | exact HB.out | apply below_alloc | apply pw_below_drewN | apply below_drew1 | refine below_set ?_ GE244.out) | exact HB.out))) : wc.heap.size ≤ gb255)); have n5_ := Aside0.mk ((by rw [hg]; exact Nat.ne_of_lt (blk_lt (g := gb244) (o := .cells #[.string t234, .string t235, .int .i64 t236, .int .i64 t237, .int .i64 t238, .int .i64 t239, .int .i64 t240, .int .u8 t241, .string t242] 57 (0, 0)) (by (with_reducible repeat (first | refine blk_drewN ?_ _ | refine blk_drew ?_ | refine blk_alloc ?_ _)); exact BK244.out)) : gb244 ≠ gb255)); have n6_ := Aside0.mk ((by rw [hg]; exact Nat.ne_of_gt (blk_lt (g := gb244) (o := .cells #[.string t234, .string t235, .int .i64 t236, .int .i64 t237, .int .i64 t238, .int .i64 t239, .int .i64 t240, .int .u8 t241, .string t242] 57 (0, 0)) (by (with_reducible repeat (first | refine blk_drewN ?_ _ | refine blk_drew ?_ | refine blk_alloc ?_ _)); exact BK244.out)) : gb255 ≠ gb244)); clear BK244; clear HB; have BK244 := n0_; have HB := n1_; have BK255 := n2_; have GW255 := n3_; have GE255 := n4_; have NB244_255 := n5_; have NB255_244 := n6_; clear n0_ n1_ n2_ n3_ n4_ n5_ n6_; clear hb hbox hg; have hnb18 := NB255_244.out; have hnc18 := NB244_255.out; have hcz19_0 : w17.cell? ⟨gb255, 0, none⟩ = some (.string (⟨#[]⟩ : ByteArray)) := (blk_cell BK255.out 0).trans rfl; have hcz19_1 : w17.cell? ⟨gb255, 1, none⟩ = some (.string (⟨#[]⟩ : ByteArray)) := (blk_cell BK255.out 1).trans rfl; have hcz19_2 : w17.cell? ⟨gb255, 2, none⟩ = some (.int .i64 0) := (blk_cell BK255.out 2).trans rfl; have hcz19_3 : w17.cell? ⟨gb255, 3, none⟩ = some (.int .i64 0) := (blk_cell BK255.out 3).trans rfl; have hcz19_4 : w17.cell? ⟨gb255, 4, none⟩ = some (.int .i64 0) := (blk_cell BK255.out 4).trans rfl; have hcz19_5 : w17.cell? ⟨gb255, 5, none⟩ = some (.int .i64 0) := (blk_cell BK255.out 5).trans rfl; have hcz19_6 : w17.cell? ⟨gb255, 6, none⟩ = some (.int .i64 0) := (blk_cell BK255.out 6).trans rfl; have hcz19_7 : w17.cell? ⟨gb255, 7, none⟩ = some (.int .u8 0) := (blk_cell BK255.out 7).trans rfl; have hcz19_8 : w17.cell? ⟨gb255, 8, none⟩ = some (.string (⟨#[]⟩ : ByteArray)) := (blk_cell BK255.out 8).trans rfl; have hfz19_0 := blk_frozen BK255.out 0; have hfz19_1 := blk_frozen BK255.out 1; have hfz19_2 := blk_frozen BK255.out 2; have hfz19_3 := blk_frozen BK255.out 3; have hfz19_4 := blk_frozen BK255.out 4; have hfz19_5 := blk_frozen BK255.out 5; have hfz19_6 := blk_frozen BK255.out 6; have hfz19_7 := blk_frozen BK255.out 7; have hfz19_8 := blk_frozen BK255.out 8))
        have n0_ : Aside0 ((((((((((w17.setCell ⟨gb255, 0, none⟩ (.string t245)).setCell ⟨gb255, 1, none⟩ (.string t246)).setCell ⟨gb255, 2, none⟩ (.int .i64 t247)).setCell ⟨gb255, 3, none⟩ (.int .i64 t248)).setCell ⟨gb255, 4, none⟩ (.int .i64 t249)).setCell ⟨gb255, 5, none⟩ (.int .i64 t250)).setCell ⟨gb255, 6, none⟩ (.int .i64 t251)).setCell ⟨gb255, 7, none⟩ (.int .u8 t252)).setCell ⟨gb255, 8, none⟩ (.string t253)).heap[gb244]? = some (.cells #[.string t234, .string t235, .int .i64 t236, .int .i64 t237, .int .i64 t238, .int .i64 t239, .int .i64 t240, .int .u8 t241, .string t242] 57 (0, 0))) := ⟨by (with_reducible repeat (first | refine blk_drewN ?_ _ | refine blk_drew ?_ | refine blk_alloc ?_ _)); refine blk_far ?_ NB244_255.out _; (with_reducible repeat (first | refine blk_drewN ?_ _ | refine blk_drew ?_ | refine blk_alloc ?_ _)); refine blk_far ?_ NB244_255.out _; (with_reducible repeat (first | refine blk_drewN ?_ _ | refine blk_drew ?_ | refine blk_alloc ?_ _)); refine blk_far ?_ NB244_255.out _; (with_reducible repeat (first | refine blk_drewN ?_ _ | refine blk_drew ?_ | refine blk_alloc ?_ _)); refine blk_far ?_ NB244_255.out _; (with_reducible repeat (first | refine blk_drewN ?_ _ | refine blk_drew ?_ | refine blk_alloc ?_ _)); refine blk_far ?_ NB244_255.out _; (with_reducible repeat (first | refine blk_drewN ?_ _ | refine blk_drew ?_ | refine blk_alloc ?_ _)); refine blk_far ?_ NB244_255.out _; (with_reducible repeat (first | refine blk_drewN ?_ _ | refine blk_drew ?_ | refine blk_alloc ?_ _)); refine blk_far ?_ NB244_255.out _; (with_reducible repeat (first | refine blk_drewN ?_ _ | refine blk_drew ?_ | refine blk_alloc ?_ _)); refine blk_far ?_ NB244_255.out _; (with_reducible repeat (first | refine blk_drewN ?_ _ | refine blk_drew ?_ | refine blk_alloc ?_ _)); refine blk_far ?_ NB244_255.out _; (with_reducible repeat (first | refine blk_drewN ?_ _ | refine blk_drew ?_ | refine blk_alloc ?_ _)); exact BK244.out⟩
        have n1_ : Aside0 ((((((((((w17.setCell ⟨gb255, 0, none⟩ (.string t245)).setCell ⟨gb255, 1, none⟩ (.string t246)).setCell ⟨gb255, 2, none⟩ (.int .i64 t247)).setCell ⟨gb255, 3, none⟩ (.int .i64 t248)).setCell ⟨gb255, 4, none⟩ (.int .i64 t249)).setCell ⟨gb255, 5, none⟩ (.int .i64 t250)).setCell ⟨gb255, 6, none⟩ (.int .i64 t251)).setCell ⟨gb255, 7, none⟩ (.int .u8 t252)).setCell ⟨gb255, 8, none⟩ (.string t253)).heap[gb255]? = some (.cells #[.string t245, .string t246, .int .i64 t247, .int .i64 t248, .int .i64 t249, .int .i64 t250, .int .i64 t251, .int .u8 t252, .string t253] 62 (0, 0))) := ⟨by (with_reducible repeat (first | refine blk_drewN ?_ _ | refine blk_drew ?_ | refine blk_alloc ?_ _)); refine blk_put (cs := #[.string t245, .string t246, .int .i64 t247, .int .i64 t248, .int .i64 t249, .int .i64 t250, .int .i64 t251, .int .u8 t252, .string (⟨#[]⟩ : ByteArray)]) ?_ 8 _ rfl; (with_reducible repeat (first | refine blk_drewN ?_ _ | refine blk_drew ?_ | refine blk_alloc ?_ _)); refine blk_put (cs := #[.string t245, .string t246, .int .i64 t247, .int .i64 t248, .int .i64 t249, .int .i64 t250, .int .i64 t251, .int .u8 0, .string (⟨#[]⟩ : ByteArray)]) ?_ 7 _ rfl; (with_reducible repeat (first | refine blk_drewN ?_ _ | refine blk_drew ?_ | refine blk_alloc ?_ _)); refine blk_put (cs := #[.string t245, .string t246, .int .i64 t247, .int .i64 t248, .int .i64 t249, .int .i64 t250, .int .i64 0, .int .u8 0, .string (⟨#[]⟩ : ByteArray)]) ?_ 6 _ rfl; (with_reducible repeat (first | refine blk_drewN ?_ _ | refine blk_drew ?_ | refine blk_alloc ?_ _)); refine blk_put (cs := #[.string t245, .string t246, .int .i64 t247, .int .i64 t248, .int .i64 t249, .int .i64 0, .int .i64 0, .int .u8 0, .string (⟨#[]⟩ : ByteArray)]) ?_ 5 _ rfl; (with_reducible repeat (first | refine blk_drewN ?_ _ | refine blk_drew ?_ | refine blk_alloc ?_ _)); refine blk_put (cs := #[.string t245, .string t246, .int .i64 t247, .int .i64 t248, .int .i64 0, .int .i64 0, .int .i64 0, .int .u8 0, .string (⟨#[]⟩ : ByteArray)]) ?_ 4 _ rfl; (with_reducible repeat (first | refine blk_drewN ?_ _ | refine blk_drew ?_ | refine blk_alloc ?_ _)); refine blk_put (cs := #[.string t245, .string t246, .int .i64 t247, .int .i64 0, .int .i64 0, .int .i64 0, .int .i64 0, .int .u8 0, .string (⟨#[]⟩ : ByteArray)]) ?_ 3 _ rfl; (with_reducible repeat (first | refine blk_drewN ?_ _ | refine blk_drew ?_ | refine blk_alloc ?_ _)); refine blk_put (cs := #[.string t245, .string t246, .int .i64 0, .int .i64 0, .int .i64 0, .int .i64 0, .int .i64 0, .int .u8 0, .string (⟨#[]⟩ : ByteArray)]) ?_ 2 _ rfl; (with_reducible repeat (first | refine blk_drewN ?_ _ | refine blk_drew ?_ | refine blk_alloc ?_ _)); refine blk_put (cs := #[.string t245, .string (⟨#[]⟩ : ByteArray), .int .i64 0, .int .i64 0, .int .i64 0, .int .i64 0, .int .i64 0, .int .u8 0, .string (⟨#[]⟩ : ByteArray)]) ?_ 1 _ rfl; (with_reducible repeat (first | refine blk_drewN ?_ _ | refine blk_drew ?_ | refine blk_alloc ?_ _)); refine blk_put (cs := #[.string (⟨#[]⟩ : ByteArray), .string (⟨#[]⟩ : ByteArray), .int .i64 0, .int .i64 0, .int .i64 0, .int .i64 0, .int .i64 0, .int .u8 0, .string (⟨#[]⟩ : ByteArray)]) ?_ 0 _ rfl; (with_reducible repeat (first | refine blk_drewN ?_ _ | refine blk_drew ?_ | refine blk_alloc ?_ _)); exact BK255.out⟩
        have n2_ : Aside0 (Below wc.heap.size wc (((((((((w17.setCell ⟨gb255, 0, none⟩ (.string t245)).setCell ⟨gb255, 1, none⟩ (.string t246)).setCell ⟨gb255, 2, none⟩ (.int .i64 t247)).setCell ⟨gb255, 3, none⟩ (.int .i64 t248)).setCell ⟨gb255, 4, none⟩ (.int .i64 t249)).setCell ⟨gb255, 5, none⟩ (.int .i64 t250)).setCell ⟨gb255, 6, none⟩ (.int .i64 t251)).setCell ⟨gb255, 7, none⟩ (.int .u8 t252)).setCell ⟨gb255, 8, none⟩ (.string t253))) := ⟨by repeat (first | (with_reducible first | exact HB.out | apply below_alloc | apply pw_below_drewN | apply below_drew1 | refine below_set ?_ GE244.out | refine below_set ?_ GE255.out) | exact HB.out)⟩
        (try clear BK244)
        (try clear BK255)
        (try clear HB)
        generalize (((((((((w17.setCell ⟨gb255, 0, none⟩ (.string t245)).setCell ⟨gb255, 1, none⟩ (.string t246)).setCell ⟨gb255, 2, none⟩ (.int .i64 t247)).setCell ⟨gb255, 3, none⟩ (.int .i64 t248)).setCell ⟨gb255, 4, none⟩ (.int .i64 t249)).setCell ⟨gb255, 5, none⟩ (.int .i64 t250)).setCell ⟨gb255, 6, none⟩ (.int .i64 t251)).setCell ⟨gb255, 7, none⟩ (.int .u8 t252)).setCell ⟨gb255, 8, none⟩ (.string t253)) = w20 at n0_ n1_ n2_ ⊢
        have BK244 := n0_
        have BK255 := n1_
        have HB := n2_
        clear n0_ n1_ n2_
        have n0_ := Aside0.mk (blk_drew BK244.out)
        have n1_ := Aside0.mk (blk_drew BK255.out)
        have n2_ := Aside0.mk (below_drew1 HB.out)
        clear BK244
        clear BK255
        clear HB
        have BK244 := n0_
        have BK255 := n1_
        have HB := n2_
        clear n0_ n1_ n2_
        refine start_ (n := 13) (S := fun wc' => wc'.cell? ⟨gb244, 0, none⟩ = some (.string t234) ∧ wc'.cell? ⟨gb244, 1, none⟩ = some (.string t235) ∧ wc'.cell? ⟨gb244, 2, none⟩ = some (.int .i64 t236) ∧ wc'.cell? ⟨gb244, 3, none⟩ = some (.int .i64 t237) ∧ wc'.cell? ⟨gb244, 4, none⟩ = some (.int .i64 t238) ∧ wc'.cell? ⟨gb244, 5, none⟩ = some (.int .i64 t239) ∧ wc'.cell? ⟨gb244, 6, none⟩ = some (.int .i64 t240) ∧ wc'.cell? ⟨gb244, 7, none⟩ = some (.int .u8 t241) ∧ wc'.cell? ⟨gb244, 8, none⟩ = some (.string t242) ∧ wc'.cell? ⟨gb255, 0, none⟩ = some (.string t245) ∧ wc'.cell? ⟨gb255, 1, none⟩ = some (.string t246) ∧ wc'.cell? ⟨gb255, 2, none⟩ = some (.int .i64 t247) ∧ wc'.cell? ⟨gb255, 3, none⟩ = some (.int .i64 t248) ∧ wc'.cell? ⟨gb255, 4, none⟩ = some (.int .i64 t249) ∧ wc'.cell? ⟨gb255, 5, none⟩ = some (.int .i64 t250) ∧ wc'.cell? ⟨gb255, 6, none⟩ = some (.int .i64 t251) ∧ wc'.cell? ⟨gb255, 7, none⟩ = some (.int .u8 t252) ∧ wc'.cell? ⟨gb255, 8, none⟩ = some (.string t253)) (ds := []) #[false, false, false, false, false, false, false, false, false, false, false, false, false] (by kernel_rfl) rfl rfl ⟨(blk_cell BK244.out 0).trans rfl, (blk_cell BK244.out 1).trans rfl, (blk_cell BK244.out 2).trans rfl, (blk_cell BK244.out 3).trans rfl, (blk_cell BK244.out 4).trans rfl, (blk_cell BK244.out 5).trans rfl, (blk_cell BK244.out 6).trans rfl, (blk_cell BK244.out 7).trans rfl, (blk_cell BK244.out 8).trans rfl, (blk_cell BK255.out 0).trans rfl, (blk_cell BK255.out 1).trans rfl, (blk_cell BK255.out 2).trans rfl, (blk_cell BK255.out 3).trans rfl, (blk_cell BK255.out 4).trans rfl, (blk_cell BK255.out 5).trans rfl, (blk_cell BK255.out 6).trans rfl, (blk_cell BK255.out 7).trans rfl, (blk_cell BK255.out 8).trans rfl⟩ (fun hHeld => ?_); refine with_tabW thwartlaw05_HeadParses.tab7 thwartlaw05_HeadParses.bits7 (fun HT_ HW_ => ?_)
        generalize w20.drew = w21 at BK244 BK255 HB hHeld ⊢
        refine take_ (i := 0) (N := some 34) (v := ?_) (a' := ?_) #[true, false, false, false, false, false, false, false, false, false, false, false, false] rfl rfl (take_ofW HT_.out HW_.out (by kernel_rfl)) (fun _ _ _ h => h) (Or.inl ⟨by rfl, ?_⟩) hHeld ?_ ?_
        rotate_left
        · rintro wc' ⟨s0, s1, s2, s3, s4, s5, s6, s7, s8, s9, s10, s11, s12, s13, s14, s15, s16, s17⟩
          go_simp
          with_reducible rfl
        rotate_left
        · simp only [Act.put, List.setIfInBounds_toArray, List.set_cons_zero, List.set_cons_succ, i64_w, i32_w]
          rfl
        refine take_ (i := 1) (N := some 35) (v := ?_) (a' := ?_) #[true, true, false, false, false, false, false, false, false, false, false, false, false] rfl rfl (take_ofW HT_.out HW_.out (by kernel_rfl)) (fun _ _ _ h => h) (Or.inl ⟨by rfl, ?_⟩) hHeld ?_ ?_
        rotate_left
        · rintro wc' ⟨s0, s1, s2, s3, s4, s5, s6, s7, s8, s9, s10, s11, s12, s13, s14, s15, s16, s17⟩
          go_simp
          with_reducible rfl
        rotate_left
        · simp only [Act.put, List.setIfInBounds_toArray, List.set_cons_zero, List.set_cons_succ, i64_w, i32_w]
          rfl
        refine one_ (i := 2) (N := some 36) #[true, true, true, false, false, false, false, false, false, false, false, false, false] rfl rfl (one_of HT_.out (by kernel_rfl)) (by decide) (fun K hK => ?_)
        refine goes_ Tryd.func29 (by kernel_rfl) rfl #[.agg #[.string t245, .string t246, .int .i64 t247, .int .i64 t248, .int .i64 t249, .int .i64 t250, .int .i64 t251, .int .u8 t252, .string t253]] (by rfl) rfl rfl (by (try simp only [List.map_toArray, List.map_cons, List.map_nil]); first | done | rfl | (simp only [List.length_drop, List.length_take]; rfl)) ?_
        with_reducible refine (thwartlaw05_theirs.calls t245 t246 t247 t248 t249 t250 t251 t252 t253 t256 t257 t258 t259 t260 t261 t262 t263 t264 _ A8.out).mono ?_
        rintro e w22 ⟨rfl, hb⟩
        refine ⟨_, rfl, ?_⟩
        have n0_ := Aside0.mk (blk_below (g := gb244) (o := .cells #[.string t234, .string t235, .int .i64 t236, .int .i64 t237, .int .i64 t238, .int .i64 t239, .int .i64 t240, .int .u8 t241, .string t242] 57 (0, 0)) (by (with_reducible repeat (first | refine blk_drewN ?_ _ | refine blk_drew ?_ | refine blk_alloc ?_ _)); exact BK244.out) hb)
        have n1_ := Aside0.mk (blk_below (g := gb255) (o := .cells #[.string t245, .string t246, .int .i64 t247, .int .i64 t248, .int .i64 t249, .int .i64 t250, .int .i64 t251, .int .u8 t252, .string t253] 62 (0, 0)) (by (with_reducible repeat (first | refine blk_drewN ?_ _ | refine blk_drew ?_ | refine blk_alloc ?_ _)); exact BK255.out) hb)
        have n2_ := Aside0.mk (below_step (by repeat (first | (with_reducible first | exact HB.out | apply below_alloc | apply pw_below_drewN | apply below_drew1 | refine below_set ?_ GE244.out | refine below_set ?_ GE255.out) | exact HB.out)) hb)
        clear BK244
        clear BK255
        clear HB
        have BK244 := n0_
        have BK255 := n1_
        have HB := n2_
        clear n0_ n1_ n2_
        (try clear hb)
        (try clear hb2)
        (try clear hk)
        (try clear hi)
        refine hK.out _ _ ⟨(blk_cell BK244.out 0).trans rfl, (blk_cell BK244.out 1).trans rfl, (blk_cell BK244.out 2).trans rfl, (blk_cell BK244.out 3).trans rfl, (blk_cell BK244.out 4).trans rfl, (blk_cell BK244.out 5).trans rfl, (blk_cell BK244.out 6).trans rfl, (blk_cell BK244.out 7).trans rfl, (blk_cell BK244.out 8).trans rfl, (blk_cell BK255.out 0).trans rfl, (blk_cell BK255.out 1).trans rfl, (blk_cell BK255.out 2).trans rfl, (blk_cell BK255.out 3).trans rfl, (blk_cell BK255.out 4).trans rfl, (blk_cell BK255.out 5).trans rfl, (blk_cell BK255.out 6).trans rfl, (blk_cell BK255.out 7).trans rfl, (blk_cell BK255.out 8).trans rfl⟩ (fun hHeld => ?_)
        clear hK K
        refine norm_ (a' := ?_) ?_ ?_
        rotate_left
        · show Act.put _ (some 36) _ = _
          simp only [Act.put, List.setIfInBounds_toArray, List.set_cons_zero, List.set_cons_succ, i64_w, i32_w]
          rfl
        refine one_ (i := 3) (N := some 37) #[true, true, true, true, false, false, false, false, false, false, false, false, false] rfl rfl (one_of HT_.out (by kernel_rfl)) (by decide) (fun K hK => ?_)
        refine goes_ Tryd.func28 (by kernel_rfl) rfl #[.agg #[.string t234, .string t235, .int .i64 t236, .int .i64 t237, .int .i64 t238, .int .i64 t239, .int .i64 t240, .int .u8 t241, .string t242], .agg #[.string t256, .string t257, .int .i64 t258, .int .i64 t259, .int .i64 t260, .int .i64 t261, .int .i64 t262, .int .u8 t263, .string t264]] (by rfl) rfl rfl (by (try simp only [List.map_toArray, List.map_cons, List.map_nil]); first | done | rfl | (simp only [List.length_drop, List.length_take]; rfl)) ?_
        with_reducible refine (head_Same.calls t234 t235 t236 t237 t238 t239 t240 t241 t242 t256 t257 t258 t259 t260 t261 t262 t263 t264 t265 _ A9.out).mono ?_
        rintro e w23 ⟨rfl, hb⟩
        refine ⟨_, rfl, ?_⟩
        have n0_ := Aside0.mk (blk_below (g := gb244) (o := .cells #[.string t234, .string t235, .int .i64 t236, .int .i64 t237, .int .i64 t238, .int .i64 t239, .int .i64 t240, .int .u8 t241, .string t242] 57 (0, 0)) (by (with_reducible repeat (first | refine blk_drewN ?_ _ | refine blk_drew ?_ | refine blk_alloc ?_ _)); exact BK244.out) hb)
        have n1_ := Aside0.mk (blk_below (g := gb255) (o := .cells #[.string t245, .string t246, .int .i64 t247, .int .i64 t248, .int .i64 t249, .int .i64 t250, .int .i64 t251, .int .u8 t252, .string t253] 62 (0, 0)) (by (with_reducible repeat (first | refine blk_drewN ?_ _ | refine blk_drew ?_ | refine blk_alloc ?_ _)); exact BK255.out) hb)
        have n2_ := Aside0.mk (below_step (by repeat (first | (with_reducible first | exact HB.out | apply below_alloc | apply pw_below_drewN | apply below_drew1 | refine below_set ?_ GE244.out | refine below_set ?_ GE255.out) | exact HB.out)) hb)
        clear BK244
        clear BK255
        clear HB
        have BK244 := n0_
        have BK255 := n1_
        have HB := n2_
        clear n0_ n1_ n2_
        (try clear hb)
        (try clear hb2)
        (try clear hk)
        (try clear hi)
        refine hK.out _ _ ⟨(blk_cell BK244.out 0).trans rfl, (blk_cell BK244.out 1).trans rfl, (blk_cell BK244.out 2).trans rfl, (blk_cell BK244.out 3).trans rfl, (blk_cell BK244.out 4).trans rfl, (blk_cell BK244.out 5).trans rfl, (blk_cell BK244.out 6).trans rfl, (blk_cell BK244.out 7).trans rfl, (blk_cell BK244.out 8).trans rfl, (blk_cell BK255.out 0).trans rfl, (blk_cell BK255.out 1).trans rfl, (blk_cell BK255.out 2).trans rfl, (blk_cell BK255.out 3).trans rfl, (blk_cell BK255.out 4).trans rfl, (blk_cell BK255.out 5).trans rfl, (blk_cell BK255.out 6).trans rfl, (blk_cell BK255.out 7).trans rfl, (blk_cell BK255.out 8).trans rfl⟩ (fun hHeld => ?_)
        clear hK K
        refine norm_ (a' := ?_) ?_ ?_
        rotate_left
        · show Act.put _ (some 37) _ = _
          simp only [Act.put, List.setIfInBounds_toArray, List.set_cons_zero, List.set_cons_succ, i64_w, i32_w]
          rfl
        by_cases c10 : t265 = true
        · subst c10
          have H1 : (if t243 = t254 then ((thwartlaw05_alive.f k).bind fun t266 => (some t266)) else (some false)) = some r := by rw [if_pos rfl] at H; exact H
          clear H
          have H := H1
          clear H1
          by_cases c11 : t243 = t254
          · rw [if_pos c11] at H
            have c11b0 : (t243 == t254) = true := beq_iff_eq.mpr c11
            have c11b1 : (t243 != t254) = false := bne_eq_false_iff_eq.mpr c11
            clear c11
            replace H := Option.bind_eq_some_iff.mp H
            obtain ⟨t266, A120, H⟩ := H
            replace H : (some t266) = some r := H
            have A12 := Aside0.mk A120
            clear A120
            obtain rfl := Option.some.inj H
            refine pure_ (i := 4) (N := some 38) (v := ?_) (a' := ?_) #[true, true, true, true, true, false, false, false, false, false, false, false, false] rfl rfl (any_of HT_.out (by kernel_rfl)) (fun _ _ _ h => h) (Or.inl ⟨by rfl, ?_⟩) ?_ ?_
            rotate_left
            · intro wc'
              go_simp
              with_reducible rfl
            rotate_left
            · simp only [Act.put, List.setIfInBounds_toArray, List.set_cons_zero, List.set_cons_succ, i64_w, i32_w]
              rfl
            refine pure_ (i := 5) (N := some 39) (v := ?_) (a' := ?_) #[true, true, true, true, true, true, false, false, false, false, false, false, false] rfl rfl (any_of HT_.out (by kernel_rfl)) (fun _ _ _ h => h) (Or.inl ⟨by rfl, ?_⟩) ?_ ?_
            rotate_left
            · intro wc'
              go_simp
              with_reducible rfl
            rotate_left
            · simp only [Act.put, List.setIfInBounds_toArray, List.set_cons_zero, List.set_cons_succ, i64_w, i32_w]
              rfl
            refine pure_ (i := 6) (N := some 40) (v := ?_) (a' := ?_) #[true, true, true, true, true, true, true, false, false, false, false, false, false] rfl rfl (any_of HT_.out (by kernel_rfl)) (fun _ _ _ h => h) (Or.inl ⟨by rfl, ?_⟩) ?_ ?_
            rotate_left
            · intro wc'
              go_simp
              with_reducible rfl
            rotate_left
            · simp only [Act.put, List.setIfInBounds_toArray, List.set_cons_zero, List.set_cons_succ, i64_w, i32_w]
              rfl
            refine pure_ (i := 7) (N := some 41) (v := ?_) (a' := ?_) #[true, true, true, true, true, true, true, true, false, false, false, false, false] rfl rfl (any_of HT_.out (by kernel_rfl)) (fun _ _ _ h => h) (Or.inl ⟨by rfl, ?_⟩) ?_ ?_
            rotate_left
            · intro wc'
              go_simp
              with_reducible rfl
            rotate_left
            · simp only [Act.put, List.setIfInBounds_toArray, List.set_cons_zero, List.set_cons_succ, i64_w, i32_w]
              rfl
            refine pure_ (i := 8) (N := some 42) (v := ?_) (a' := ?_) #[true, true, true, true, true, true, true, true, true, false, false, false, false] rfl rfl (any_of HT_.out (by kernel_rfl)) (fun _ _ _ h => h) (Or.inl ⟨by rfl, ?_⟩) ?_ ?_
            rotate_left
            · intro wc'
              go_simp
              with_reducible rfl
            rotate_left
            · simp only [Act.put, List.setIfInBounds_toArray, List.set_cons_zero, List.set_cons_succ, i64_w, i32_w]
              rfl
            refine pure_ (i := 9) (N := some 43) (v := ?_) (a' := ?_) #[true, true, true, true, true, true, true, true, true, true, false, false, false] rfl rfl (any_of HT_.out (by kernel_rfl)) (fun _ _ _ h => h) (Or.inl ⟨by rfl, ?_⟩) ?_ ?_
            rotate_left
            · intro wc'
              go_simp
              with_reducible rfl
            rotate_left
            · simp only [Act.put, List.setIfInBounds_toArray, List.set_cons_zero, List.set_cons_succ, i64_w, i32_w]
              rfl
            refine one_ (i := 10) (N := some 44) #[true, true, true, true, true, true, true, true, true, true, true, false, false] rfl rfl (one_of HT_.out (by kernel_rfl)) (by decide) (fun K hK => ?_)
            refine goes_ Tryd.func24 (by kernel_rfl) rfl #[] (by rfl) rfl rfl (by (try simp only [List.map_toArray, List.map_cons, List.map_nil]); first | done | rfl | (simp only [List.length_drop, List.length_take]; rfl)) ?_
            with_reducible refine (thwartlaw05_alive.calls k  t266 _ A12.out).mono ?_
            rintro e w24 ⟨rfl, hb⟩
            refine ⟨_, rfl, ?_⟩
            have n0_ := Aside0.mk (blk_below (g := gb244) (o := .cells #[.string t234, .string t235, .int .i64 t236, .int .i64 t237, .int .i64 t238, .int .i64 t239, .int .i64 t240, .int .u8 t241, .string t242] 57 (0, 0)) (by (with_reducible repeat (first | refine blk_drewN ?_ _ | refine blk_drew ?_ | refine blk_alloc ?_ _)); exact BK244.out) hb)
            have n1_ := Aside0.mk (blk_below (g := gb255) (o := .cells #[.string t245, .string t246, .int .i64 t247, .int .i64 t248, .int .i64 t249, .int .i64 t250, .int .i64 t251, .int .u8 t252, .string t253] 62 (0, 0)) (by (with_reducible repeat (first | refine blk_drewN ?_ _ | refine blk_drew ?_ | refine blk_alloc ?_ _)); exact BK255.out) hb)
            have n2_ := Aside0.mk (below_step (by repeat (first | (with_reducible first | exact HB.out | apply below_alloc | apply pw_below_drewN | apply below_drew1 | refine below_set ?_ GE244.out | refine below_set ?_ GE255.out) | exact HB.out)) hb)
            clear BK244
            clear BK255
            clear HB
            have BK244 := n0_
            have BK255 := n1_
            have HB := n2_
            clear n0_ n1_ n2_
            (try clear hb)
            (try clear hb2)
            (try clear hk)
            (try clear hi)
            refine hK.out _ _ ⟨(blk_cell BK244.out 0).trans rfl, (blk_cell BK244.out 1).trans rfl, (blk_cell BK244.out 2).trans rfl, (blk_cell BK244.out 3).trans rfl, (blk_cell BK244.out 4).trans rfl, (blk_cell BK244.out 5).trans rfl, (blk_cell BK244.out 6).trans rfl, (blk_cell BK244.out 7).trans rfl, (blk_cell BK244.out 8).trans rfl, (blk_cell BK255.out 0).trans rfl, (blk_cell BK255.out 1).trans rfl, (blk_cell BK255.out 2).trans rfl, (blk_cell BK255.out 3).trans rfl, (blk_cell BK255.out 4).trans rfl, (blk_cell BK255.out 5).trans rfl, (blk_cell BK255.out 6).trans rfl, (blk_cell BK255.out 7).trans rfl, (blk_cell BK255.out 8).trans rfl⟩ (fun hHeld => ?_)
            clear hK K
            refine norm_ (a' := ?_) ?_ ?_
            rotate_left
            · show Act.put _ (some 44) _ = _
              simp only [Act.put, List.setIfInBounds_toArray, List.set_cons_zero, List.set_cons_succ, i64_w, i32_w]
              rfl
            refine pure_ (i := 11) (N := some 45) (v := ?_) (a' := ?_) #[true, true, true, true, true, true, true, true, true, true, true, true, false] rfl rfl (any_of HT_.out (by kernel_rfl)) (fun _ _ _ h => h) (Or.inl ⟨by rfl, ?_⟩) ?_ ?_
            rotate_left
            · intro wc'
              go_simp
              with_reducible rfl
            rotate_left
            · simp only [Act.put, List.setIfInBounds_toArray, List.set_cons_zero, List.set_cons_succ, i64_w, i32_w]
              rfl
            refine pure_ (i := 12) (N := some 4) (v := ?_) (a' := ?_) #[true, true, true, true, true, true, true, true, true, true, true, true, true] rfl rfl (any_of HT_.out (by kernel_rfl)) (fun _ _ _ h => h) (Or.inl ⟨by rfl, ?_⟩) ?_ ?_
            rotate_left
            · intro wc'
              go_simp
              with_reducible rfl
            rotate_left
            · simp only [Act.put, List.setIfInBounds_toArray, List.set_cons_zero, List.set_cons_succ, i64_w, i32_w]
              rfl
            refine done_ (done_of HT_.out (by kernel_rfl)) ?_
            try go_wp2
            go_ret
            exact ⟨by first | rfl | (simp [errW_none, errW_some] <;> rfl) | (simp [*, errW_none, errW_some] <;> rfl), below_step HBW.out (by repeat (first | (with_reducible first | exact HB.out | apply below_alloc | apply pw_below_drewN | apply below_drew1 | refine below_set ?_ GE244.out | refine below_set ?_ GE255.out) | exact HB.out))⟩
          · rw [if_neg c11] at H
            have c11b0 : (t243 == t254) = false := beq_eq_false_iff_ne.mpr c11
            have c11b1 : (t243 != t254) = true := bne_iff_ne.mpr c11
            obtain rfl := Option.some.inj H
            refine pure_ (i := 4) (N := some 38) (v := ?_) (a' := ?_) #[true, true, true, true, true, false, false, false, false, false, false, false, false] rfl rfl (any_of HT_.out (by kernel_rfl)) (fun _ _ _ h => h) (Or.inl ⟨by rfl, ?_⟩) ?_ ?_
            rotate_left
            · intro wc'
              go_simp
              with_reducible rfl
            rotate_left
            · simp only [Act.put, List.setIfInBounds_toArray, List.set_cons_zero, List.set_cons_succ, i64_w, i32_w]
              rfl
            refine pure_ (i := 5) (N := some 39) (v := ?_) (a' := ?_) #[true, true, true, true, true, true, false, false, false, false, false, false, false] rfl rfl (any_of HT_.out (by kernel_rfl)) (fun _ _ _ h => h) (Or.inl ⟨by rfl, ?_⟩) ?_ ?_
            rotate_left
            · intro wc'
              go_simp
              with_reducible rfl
            rotate_left
            · simp only [Act.put, List.setIfInBounds_toArray, List.set_cons_zero, List.set_cons_succ, i64_w, i32_w]
              rfl
            refine pure_ (i := 6) (N := some 40) (v := ?_) (a' := ?_) #[true, true, true, true, true, true, true, false, false, false, false, false, false] rfl rfl (any_of HT_.out (by kernel_rfl)) (fun _ _ _ h => h) (Or.inl ⟨by rfl, ?_⟩) ?_ ?_
            rotate_left
            · intro wc'
              go_simp
              with_reducible rfl
            rotate_left
            · simp only [Act.put, List.setIfInBounds_toArray, List.set_cons_zero, List.set_cons_succ, i64_w, i32_w]
              rfl
            refine pure_ (i := 7) (N := some 41) (v := ?_) (a' := ?_) #[true, true, true, true, true, true, true, true, false, false, false, false, false] rfl rfl (any_of HT_.out (by kernel_rfl)) (fun _ _ _ h => h) (Or.inl ⟨by rfl, ?_⟩) ?_ ?_
            rotate_left
            · intro wc'
              go_simp
              with_reducible rfl
            rotate_left
            · simp only [Act.put, List.setIfInBounds_toArray, List.set_cons_zero, List.set_cons_succ, i64_w, i32_w]
              rfl
            refine pure_ (i := 8) (N := some 42) (v := ?_) (a' := ?_) #[true, true, true, true, true, true, true, true, true, false, false, false, false] rfl rfl (any_of HT_.out (by kernel_rfl)) (fun _ _ _ h => h) (Or.inl ⟨by rfl, ?_⟩) ?_ ?_
            rotate_left
            · intro wc'
              go_simp
              with_reducible rfl
            rotate_left
            · simp only [Act.put, List.setIfInBounds_toArray, List.set_cons_zero, List.set_cons_succ, i64_w, i32_w]
              rfl
            refine pure_ (i := 9) (N := some 43) (v := ?_) (a' := ?_) #[true, true, true, true, true, true, true, true, true, true, false, false, false] rfl rfl (any_of HT_.out (by kernel_rfl)) (fun _ _ _ h => h) (Or.inl ⟨by rfl, ?_⟩) ?_ ?_
            rotate_left
            · intro wc'
              go_simp
              with_reducible rfl
            rotate_left
            · simp only [Act.put, List.setIfInBounds_toArray, List.set_cons_zero, List.set_cons_succ, i64_w, i32_w]
              rfl
            refine pure_ (i := 10) (N := some 44) (v := undef) (a' := ?_) #[true, true, true, true, true, true, true, true, true, true, true, false, false] rfl rfl (any_of HT_.out (by kernel_rfl)) (fun _ _ _ h => h) (Or.inr ⟨by rfl, rfl⟩) ?_ ?_
            rotate_left
            · simp only [Act.put, List.setIfInBounds_toArray, List.set_cons_zero, List.set_cons_succ, i64_w, i32_w]
              rfl
            refine pure_ (i := 11) (N := some 45) (v := ?_) (a' := ?_) #[true, true, true, true, true, true, true, true, true, true, true, true, false] rfl rfl (any_of HT_.out (by kernel_rfl)) (fun _ _ _ h => h) (Or.inl ⟨by rfl, ?_⟩) ?_ ?_
            rotate_left
            · intro wc'
              go_simp
              with_reducible rfl
            rotate_left
            · simp only [Act.put, List.setIfInBounds_toArray, List.set_cons_zero, List.set_cons_succ, i64_w, i32_w]
              rfl
            refine pure_ (i := 12) (N := some 4) (v := ?_) (a' := ?_) #[true, true, true, true, true, true, true, true, true, true, true, true, true] rfl rfl (any_of HT_.out (by kernel_rfl)) (fun _ _ _ h => h) (Or.inl ⟨by rfl, ?_⟩) ?_ ?_
            rotate_left
            · intro wc'
              go_simp
              with_reducible rfl
            rotate_left
            · simp only [Act.put, List.setIfInBounds_toArray, List.set_cons_zero, List.set_cons_succ, i64_w, i32_w]
              rfl
            refine done_ (done_of HT_.out (by kernel_rfl)) ?_
            try go_wp2
            go_ret
            exact ⟨by first | rfl | (simp [errW_none, errW_some] <;> rfl) | (simp [*, errW_none, errW_some] <;> rfl), below_step HBW.out (by repeat (first | (with_reducible first | exact HB.out | apply below_alloc | apply pw_below_drewN | apply below_drew1 | refine below_set ?_ GE244.out | refine below_set ?_ GE255.out) | exact HB.out))⟩
        · replace c10 := Bool.eq_false_iff.mpr c10
          subst c10
          have H1 : (some false) = some r := by rw [if_neg (show ¬ (false = true) by decide)] at H; exact H
          clear H
          have H := H1
          clear H1
          obtain rfl := Option.some.inj H
          refine pure_ (i := 4) (N := some 38) (v := ?_) (a' := ?_) #[true, true, true, true, true, false, false, false, false, false, false, false, false] rfl rfl (any_of HT_.out (by kernel_rfl)) (fun _ _ _ h => h) (Or.inl ⟨by rfl, ?_⟩) ?_ ?_
          rotate_left
          · intro wc'
            go_simp
            with_reducible rfl
          rotate_left
          · simp only [Act.put, List.setIfInBounds_toArray, List.set_cons_zero, List.set_cons_succ, i64_w, i32_w]
            rfl
          refine pure_ (i := 5) (N := some 39) (v := undef) (a' := ?_) #[true, true, true, true, true, true, false, false, false, false, false, false, false] rfl rfl (any_of HT_.out (by kernel_rfl)) (fun _ _ _ h => h) (Or.inr ⟨by rfl, rfl⟩) ?_ ?_
          rotate_left
          · simp only [Act.put, List.setIfInBounds_toArray, List.set_cons_zero, List.set_cons_succ, i64_w, i32_w]
            rfl
          refine pure_ (i := 6) (N := some 40) (v := undef) (a' := ?_) #[true, true, true, true, true, true, true, false, false, false, false, false, false] rfl rfl (any_of HT_.out (by kernel_rfl)) (fun _ _ _ h => h) (Or.inr ⟨by rfl, rfl⟩) ?_ ?_
          rotate_left
          · simp only [Act.put, List.setIfInBounds_toArray, List.set_cons_zero, List.set_cons_succ, i64_w, i32_w]
            rfl
          refine pure_ (i := 7) (N := some 41) (v := undef) (a' := ?_) #[true, true, true, true, true, true, true, true, false, false, false, false, false] rfl rfl (any_of HT_.out (by kernel_rfl)) (fun _ _ _ h => h) (Or.inr ⟨by rfl, rfl⟩) ?_ ?_
          rotate_left
          · simp only [Act.put, List.setIfInBounds_toArray, List.set_cons_zero, List.set_cons_succ, i64_w, i32_w]
            rfl
          refine pure_ (i := 8) (N := some 42) (v := ?_) (a' := ?_) #[true, true, true, true, true, true, true, true, true, false, false, false, false] rfl rfl (any_of HT_.out (by kernel_rfl)) (fun _ _ _ h => h) (Or.inl ⟨by rfl, ?_⟩) ?_ ?_
          rotate_left
          · intro wc'
            go_simp
            with_reducible rfl
          rotate_left
          · simp only [Act.put, List.setIfInBounds_toArray, List.set_cons_zero, List.set_cons_succ, i64_w, i32_w]
            rfl
          refine pure_ (i := 9) (N := some 43) (v := ?_) (a' := ?_) #[true, true, true, true, true, true, true, true, true, true, false, false, false] rfl rfl (any_of HT_.out (by kernel_rfl)) (fun _ _ _ h => h) (Or.inl ⟨by rfl, ?_⟩) ?_ ?_
          rotate_left
          · intro wc'
            go_simp
            with_reducible rfl
          rotate_left
          · simp only [Act.put, List.setIfInBounds_toArray, List.set_cons_zero, List.set_cons_succ, i64_w, i32_w]
            rfl
          refine pure_ (i := 10) (N := some 44) (v := undef) (a' := ?_) #[true, true, true, true, true, true, true, true, true, true, true, false, false] rfl rfl (any_of HT_.out (by kernel_rfl)) (fun _ _ _ h => h) (Or.inr ⟨by rfl, rfl⟩) ?_ ?_
          rotate_left
          · simp only [Act.put, List.setIfInBounds_toArray, List.set_cons_zero, List.set_cons_succ, i64_w, i32_w]
            rfl
          refine pure_ (i := 11) (N := some 45) (v := ?_) (a' := ?_) #[true, true, true, true, true, true, true, true, true, true, true, true, false] rfl rfl (any_of HT_.out (by kernel_rfl)) (fun _ _ _ h => h) (Or.inl ⟨by rfl, ?_⟩) ?_ ?_
          rotate_left
          · intro wc'
            go_simp
            with_reducible rfl
          rotate_left
          · simp only [Act.put, List.setIfInBounds_toArray, List.set_cons_zero, List.set_cons_succ, i64_w, i32_w]
            rfl
          refine pure_ (i := 12) (N := some 4) (v := ?_) (a' := ?_) #[true, true, true, true, true, true, true, true, true, true, true, true, true] rfl rfl (any_of HT_.out (by kernel_rfl)) (fun _ _ _ h => h) (Or.inl ⟨by rfl, ?_⟩) ?_ ?_
          rotate_left
          · intro wc'
            go_simp
            with_reducible rfl
          rotate_left
          · simp only [Act.put, List.setIfInBounds_toArray, List.set_cons_zero, List.set_cons_succ, i64_w, i32_w]
            rfl
          refine done_ (done_of HT_.out (by kernel_rfl)) ?_
          try go_wp2
          go_ret
          exact ⟨by first | rfl | (simp [errW_none, errW_some] <;> rfl) | (simp [*, errW_none, errW_some] <;> rfl), below_step HBW.out (by repeat (first | (with_reducible first | exact HB.out | apply below_alloc | apply pw_below_drewN | apply below_drew1 | refine below_set ?_ GE244.out | refine below_set ?_ GE255.out) | exact HB.out))⟩

/-- THE ONE PURE STATEMENT of thwartlaw05_HeadParses: yours. -/
def thwartlaw05_HeadParses.Pure : Prop := ∀ (l0 : List Int) (a1 : Bool), l0.length ≤ maxLen → l0.length * 1 ≤ 140737488351232 → (∀ x ∈ l0, (Lit.int .u8 x).wf = true) → ∃ k, thwartlaw05_HeadParses.f k l0 a1 = some true
theorem thwartlaw05_HeadParses.walk (P : thwartlaw05_HeadParses.Pure) (a0 : Option Addr) (len0 cap0 : Nat) (z0 : List Int) (a1 : Bool) (w : World) (w0 : (a0 = none ∧ len0 = 0 ∧ cap0 = 0 ∧ z0 = []) ∨ ∃ x, a0 = some x ∧ len0 ≤ cap0 ∧ cap0 ≤ maxLen ∧ z0.length = cap0 ∧ (∀ i, i < z0.length → w.cell? (x.add i) = some (.int .u8 (z0.getD i 0))) ∧ ∀ n ∈ z0, (Lit.int .u8 n).wf = true) (y0 : len0 * 1 ≤ 140737488351232) :
    Calls Tryd.prog 6 #[.slice a0 len0 cap0, .bool a1] w fun e w' => e = .returned (.bool true) ∧ Below w.heap.size w w' := by
  obtain ⟨l0, rfl, hr0, hm0, hw0, hc0⟩ := ReadsInt.ofRowC w0
  obtain ⟨k, h⟩ := P l0 a1 hm0 y0 hw0
  refine (thwartlaw05_HeadParses.calls k _ _ l0 a1 true w (Kd.C_of_reads (d := (0 : Int)) (h1 := fun _ => rfl) hr0) hc0 h).mono ?_
  rintro e w' ⟨rfl, hd⟩
  exact ⟨rfl, hd⟩

end Go.Proofs.YthjljkdiglpbaaaDoor.P

-- QNum
/- Plain facts on numbers of headers: numf.Get answers as the document's Get, for every field. -/
namespace Go.Proofs.YthjljkdiglpbaaaDoor.Q4
open Go.RowKit Go.Proofs.YthjljkdiglpbaaaDoor.P Go.Proofs.YthjljkdiglpbaaaDoor.Hand Go.Proofs.YthjljkdiglpbaaaDoorW.PrintWords Go.Proofs.YthjljkdiglpbaaaDoorW.PrintLast Go.Proofs.YthjljkdiglpbaaaDoorW.PrintMore
set_option linter.unusedVariables false
set_option linter.unusedSimpArgs false

def Byts (l : List Int) : Prop := ∀ x ∈ l, 0 ≤ x ∧ x < 256
theorem wrap_id {i : Int} (h0 : -9223372036854775808 ≤ i) (h : i < 9223372036854775808) : wrap64 i = i := by unfold wrap64; omega
theorem rd_at (l : List Int) (i : Nat) (h : i < l.length) : rd l (i : Int) = l[i] := by
  unfold rd; rw [Int.toNat_natCast, List.getD_eq_getElem?_getD, List.getElem?_eq_getElem h]; rfl

/-- A number by a power of two, and low bits. -/
theorem or_low (s : Nat) (hs : s < 64) (x d : Int) (q : Nat) (hx : x % 18446744073709551616 = ((2 ^ s * q : Nat) : Int)) (h0 : 0 ≤ d) (hd : d.toNat < 2 ^ s) : Go.bits .or .i64 x d = wrap64 (x + d) := by
  obtain ⟨d, rfl⟩ := Int.eq_ofNat_of_zero_le h0
  rw [Int.toNat_natCast] at hd
  have hp : 2 ^ s ≤ 2 ^ 63 := Nat.pow_le_pow_right (by omega) (by omega)
  have hq : 2 ^ s * q < 18446744073709551616 := by omega
  show IntKind.i64.wrap ((BitVec.ofInt 64 x ||| BitVec.ofInt 64 (d : Int)).toNat : Int) = _
  rw [BitVec.toNat_or, BitVec.toNat_ofInt, BitVec.toNat_ofInt, IntKind.wrap_i64]
  rw [show ((2 ^ 64 : Nat) : Int) = 18446744073709551616 from rfl, hx, Int.toNat_natCast, show (((d : Nat) : Int) % 18446744073709551616).toNat = d by omega]
  rw [← Nat.two_pow_add_eq_or_of_lt hd q]
  unfold wrap64
  omega
theorem or_byte (n d : Int) (h0 : 0 ≤ d) (hd : d < 256) : Go.bits .or .i64 (wrap64 (n * 256)) d = wrap64 (n * 256 + d) := by
  rw [or_low 8 (by omega) (wrap64 (n * 256)) d (n % 72057594037927936).toNat (by unfold wrap64; omega) h0 (by omega)]
  unfold wrap64; omega
theorem or_oct (n d : Int) (h0 : 0 ≤ d) (hd : d < 8) : Go.bits .or .i64 (wrap64 (n * 8)) d = wrap64 (n * 8 + d) := by
  rw [or_low 3 (by omega) (wrap64 (n * 8)) d (n % 2305843009213693952).toNat (by unfold wrap64; omega) h0 (by omega)]
  unfold wrap64; omega

/-- Bytes, the first one's weight the greatest. -/
def acc : Int → List Int → Int
  | n, [] => n
  | n, c :: l => acc (wrap64 (n * 256 + c)) l
theorem base_l1 (l : List Int) (hl : l.length ≤ 100) (hb : Byts l) (d : Nat) : ∀ (k i : Nat) (n : Int), i + d = l.length → d < k → thwartref01_base.l1 k l n i = some (acc n (l.drop i), true) := by
  induction d with
  | zero =>
    intro k i n h1 h2
    obtain ⟨k, rfl⟩ : ∃ m, k = m + 1 := ⟨k - 1, by omega⟩
    rw [thwartref01_base.l1, if_neg (by omega), List.drop_eq_nil_of_le (by omega)]; rfl
  | succ d ih =>
    intro k i n h1 h2
    obtain ⟨k, rfl⟩ : ∃ m, k = m + 1 := ⟨k - 1, by omega⟩
    have hx := hb l[i] (List.getElem_mem (by omega))
    rw [thwartref01_base.l1, if_pos (by omega), if_pos (by omega), rd_at l i (by omega), wrap_id (i := (i : Int) + 1) (by omega) (by omega), show ((i : Int) + 1) = ((i + 1 : Nat) : Int) by omega, ih k (i + 1) _ (by omega) (by omega), List.drop_eq_getElem_cons (i := i) (by omega)]
    rw [show wrap64 (wrap64 (n * 256) + wrap64 l[i]) = wrap64 (n * 256 + l[i]) by unfold wrap64; omega]
    rfl
theorem flag_255 : ∀ x : Int, 0 ≤ x → x < 256 → (Go.bits .and .u8 (Go.bits .xor .u8 x 255) 128 = 0 ↔ 128 ≤ x) := by
  have h : ∀ x : Fin 256, (Go.bits .and .u8 (Go.bits .xor .u8 (x.val : Int) 255) 128 = 0 ↔ 128 ≤ (x.val : Int)) := by decide +kernel
  intro x h0 h1
  obtain ⟨x, rfl⟩ := Int.eq_ofNat_of_zero_le h0
  exact h ⟨x, by omega⟩
theorem flag_0 : ∀ x : Int, 0 ≤ x → x < 256 → (Go.bits .and .u8 (Go.bits .xor .u8 x 0) 128 = 0 ↔ x < 128) := by
  have h : ∀ x : Fin 256, (Go.bits .and .u8 (Go.bits .xor .u8 (x.val : Int) 0) 128 = 0 ↔ (x.val : Int) < 128) := by decide +kernel
  intro x h0 h1
  obtain ⟨x, rfl⟩ := Int.eq_ofNat_of_zero_le h0
  exact h ⟨x, by omega⟩
/-- unbase's loop, where eight are left at most, and the first of eight is right. -/
theorem unbase_tail (l : List Int) (f : Int) (hl : l.length ≤ 100) (hb : Byts l) (d : Nat) : ∀ (k i : Nat) (n : Int), i + d = l.length → d ≤ 8 → d < k → (∀ (h : d = 8) (hi : i < l.length), Go.bits .and .u8 (Go.bits .xor .u8 l[i] f) 128 = 0) → numf_unbase.l0 k l f n l l.length i = some (acc n (l.drop i), 0) := by
  induction d with
  | zero =>
    intro k i n h1 h8 h2 _
    obtain ⟨k, rfl⟩ : ∃ m, k = m + 1 := ⟨k - 1, by omega⟩
    rw [numf_unbase.l0, if_neg (by omega), List.drop_eq_nil_of_le (by omega)]; rfl
  | succ d ih =>
    intro k i n h1 h8 h2 hf
    obtain ⟨k, rfl⟩ : ∃ m, k = m + 1 := ⟨k - 1, by omega⟩
    have hx := hb l[i] (List.getElem_mem (by omega))
    have hw : wrap64 ((l.length : Int) - (i : Int)) = ((d + 1 : Nat) : Int) := by rw [wrap_id (by omega) (by omega)]; omega
    rw [numf_unbase.l0, if_pos (by omega), if_pos (by omega), if_pos (by omega), hw, if_neg (by omega), rd_at l i (by omega), wrap_id (i := (i : Int) + 1) (by omega) (by omega), show ((i : Int) + 1) = ((i + 1 : Nat) : Int) by omega, wrap_id (i := l[i]) (by omega) (by omega), or_byte n _ hx.1 hx.2, ih k (i + 1) _ (by omega) (by omega) (by omega) (fun h => by omega)]
    rw [List.drop_eq_getElem_cons (i := i) (by omega)]
    by_cases h : d = 7
    · rw [if_pos (by omega), if_pos (hf (by omega) (by omega))]; rfl
    · rw [if_neg (by omega)]; rfl

theorem fill_255 : wrap64 (IntKind.i8.wrap 255) = -1 := by decide +kernel
theorem fill_0 : wrap64 (IntKind.i8.wrap 0) = 0 := by decide +kernel
theorem or_fill : Go.bits .or .i64 (wrap64 (-1 * 256)) (wrap64 255) = -1 := by decide +kernel
theorem or_zero : Go.bits .or .i64 (wrap64 (0 * 256)) (wrap64 0) = 0 := by decide +kernel
theorem unbase_skip (l : List Int) (f n : Int) (hl : l.length ≤ 100) (hb : Byts l) (i k : Nat) (hi : i + 8 < l.length) (hn : Go.bits .or .i64 (wrap64 (n * 256)) (wrap64 f) = n) : numf_unbase.l0 (k + 1) l f n l l.length i = if l[i] = f then numf_unbase.l0 k l f n l l.length ((i + 1 : Nat) : Int) else some (0, 10) := by
  have hw : wrap64 ((l.length : Int) - (i : Int)) = ((l.length - i : Nat) : Int) := by rw [wrap_id (by omega) (by omega)]; omega
  rw [numf_unbase.l0, if_pos (by omega), if_pos (by omega), if_pos (by omega), hw, if_pos (by omega), rd_at l i (by omega), wrap_id (i := (i : Int) + 1) (by omega) (by omega), show ((i : Int) + 1) = ((i + 1 : Nat) : Int) by omega]
  by_cases h : l[i] = f
  · rw [if_pos h, if_pos h, if_neg (by omega), h, hn]
  · rw [if_neg h, if_neg h]
theorem unbase_eight (l : List Int) (f n : Int) (hl : l.length ≤ 100) (hb : Byts l) (i k : Nat) (hi : i + 8 = l.length) (hk : 8 < k) : numf_unbase.l0 k l f n l l.length i = if Go.bits .and .u8 (Go.bits .xor .u8 (l[i]'(by omega)) f) 128 = 0 then some (acc n (l.drop i), 0) else some (0, 10) := by
  by_cases h : Go.bits .and .u8 (Go.bits .xor .u8 (l[i]'(by omega)) f) 128 = 0
  · rw [if_pos h]
    exact unbase_tail l f hl hb 8 k i n hi (by omega) hk (fun _ _ => h)
  · obtain ⟨k, rfl⟩ : ∃ m, k = m + 1 := ⟨k - 1, by omega⟩
    have hw : wrap64 ((l.length : Int) - (i : Int)) = 8 := by rw [wrap_id (by omega) (by omega)]; omega
    rw [numf_unbase.l0, if_pos (by omega), if_pos (by omega), if_pos (by omega), hw, if_neg (by decide), if_pos rfl, rd_at l i (by omega), if_neg h, if_neg h]
theorem base_skip (c : Int) (l : List Int) (b : Bool) (hl : 8 ≤ l.length) (hl2 : l.length ≤ 100) (k : Nat) : thwartref01_base.l0 (k + 1) (c :: l) b = if c = (if b = true then 255 else 0) then thwartref01_base.l0 k l b else some (0, false) := by
  have hr : rd (c :: l) 0 = c := rfl
  have hlen : (c :: l).length = l.length + 1 := rfl
  rw [thwartref01_base.l0, if_pos (by rw [hlen]; omega), List.drop_one, List.tail_cons, hr]
  cases b
  · simp only [Bool.false_eq_true, if_false]
    rw [if_pos (by rw [hlen]; omega)]
    by_cases hc : c = 0
    · rw [if_pos hc, if_pos hc, if_pos (by rw [hlen]; omega)]
    · rw [if_neg hc, if_neg hc]
  · simp only [if_true]
    rw [if_pos (by rw [hlen]; omega)]
    by_cases hc : c = 255
    · rw [if_pos hc, if_pos hc, if_pos (by rw [hlen]; omega)]
    · rw [if_neg hc, if_neg hc]
theorem base_end (l : List Int) (b bad : Bool) (hl : l.length ≤ 100) (hb : Byts l) (k : Nat) (hk : l.length + 3 < k) : thwartref01_base.j1 k l b bad = if bad = true then some (0, false) else some (acc (if b = true then -1 else 0) l, true) := by
  obtain ⟨k, rfl⟩ : ∃ m, k = m + 2 := ⟨k - 2, by omega⟩
  have hq : ∀ n, thwartref01_base.j2 (k + 1) l n = some (acc n l, true) := fun n => by
    rw [thwartref01_base.j2]
    have := base_l1 l hl hb l.length k 0 n (by omega) (by omega)
    rw [List.drop_zero] at this
    exact this
  rw [thwartref01_base.j1]
  cases bad
  · simp only [Bool.false_eq_true, if_false, hq]
    split <;> rfl
  · simp only [if_true]
theorem base_eight (l : List Int) (b : Bool) (hl : l.length = 8) (hb : Byts l) (k : Nat) (hk : 20 ≤ k) : thwartref01_base.l0 k l b = if (b != decide ((128 : Int) ≤ l[0]'(by omega))) = true then some (0, false) else some (acc (if b = true then -1 else 0) l, true) := by
  obtain ⟨k, rfl⟩ : ∃ m, k = m + 1 := ⟨k - 1, by omega⟩
  have hr : rd l 0 = l[0] := rd_at l 0 (by omega)
  rw [thwartref01_base.l0, if_neg (by omega), if_pos (by omega), if_pos (by omega), hr, base_end l b _ (by omega) hb k (by omega)]
theorem base_few (l : List Int) (b : Bool) (hl : l.length < 8) (hb : Byts l) (k : Nat) (hk : 20 ≤ k) : thwartref01_base.l0 k l b = some (acc (if b = true then -1 else 0) l, true) := by
  obtain ⟨k, rfl⟩ : ∃ m, k = m + 1 := ⟨k - 1, by omega⟩
  rw [thwartref01_base.l0, if_neg (by omega), if_neg (by omega), base_end l b _ (by omega) hb k (by omega)]
  rfl

theorem base_core (l : List Int) (hl : l.length = 7 ∨ l.length = 11) (hb : Byts l) (b : Bool) (f n : Int) (hf : f = if b = true then 255 else 0) (hn : n = if b = true then -1 else 0) (hor : Go.bits .or .i64 (wrap64 (n * 256)) (wrap64 f) = n)
    (hflag : ∀ x : Int, 0 ≤ x → x < 256 → (Go.bits .and .u8 (Go.bits .xor .u8 x f) 128 = 0 ↔ (b != decide (128 ≤ x)) = false)) (k : Nat) (hk : 30 ≤ k) :
    ∃ m e, numf_unbase.l0 19 l f n l l.length 0 = some (m, e) ∧ ∃ ok, thwartref01_base.f k l b = some (m, ok) ∧ ((ok = true ∧ e = 0) ∨ (ok = false ∧ e = 10 ∧ m = 0)) := by
  unfold thwartref01_base.f
  rcases hl with hl | hl
  · have h := unbase_tail l f (by omega) hb 7 19 0 n (by omega) (by omega) (by omega) (fun h => by omega)
    rw [List.drop_zero] at h
    refine ⟨_, _, h, true, ?_, .inl ⟨rfl, rfl⟩⟩
    rw [base_few l b (by omega) hb k (by omega), hn]
  · match l, hl with
    | [a0, a1, a2, a3, a4, a5, a6, a7, a8, a9, a10], _ =>
      obtain ⟨k, rfl⟩ : ∃ m, k = m + 3 := ⟨k - 3, by omega⟩
      have s0 := unbase_skip [a0, a1, a2, a3, a4, a5, a6, a7, a8, a9, a10] f n (by simp) hb 0 18 (by simp) hor
      have s1 := unbase_skip [a0, a1, a2, a3, a4, a5, a6, a7, a8, a9, a10] f n (by simp) hb 1 17 (by simp) hor
      have s2 := unbase_skip [a0, a1, a2, a3, a4, a5, a6, a7, a8, a9, a10] f n (by simp) hb 2 16 (by simp) hor
      have s3 := unbase_eight [a0, a1, a2, a3, a4, a5, a6, a7, a8, a9, a10] f n (by simp) hb 3 16 rfl (by decide)
      have hb8 : Byts [a3, a4, a5, a6, a7, a8, a9, a10] := fun x hx => hb x (List.mem_of_mem_drop (i := 3) (show x ∈ List.drop 3 [a0, a1, a2, a3, a4, a5, a6, a7, a8, a9, a10] from hx))
      have r3 : thwartref01_base.l0 k [a3, a4, a5, a6, a7, a8, a9, a10] b = if (b != decide ((128 : Int) ≤ a3)) = true then some (0, false) else some (acc (if b = true then -1 else 0) [a3, a4, a5, a6, a7, a8, a9, a10], true) := base_eight [a3, a4, a5, a6, a7, a8, a9, a10] b rfl hb8 k (by omega)
      rw [show ((0 : Nat) : Int) = 0 from rfl] at s0
      rw [s0, base_skip a0 _ b (by simp) (by simp), ← hf]
      simp only [List.getElem_cons_zero]
      by_cases c0 : a0 = f
      · rw [if_pos c0, if_pos c0, s1, base_skip a1 _ b (by simp) (by simp), ← hf]
        simp only [List.getElem_cons_zero, List.getElem_cons_succ]
        by_cases c1 : a1 = f
        · rw [if_pos c1, if_pos c1, s2, base_skip a2 _ b (by simp) (by simp), ← hf]
          simp only [List.getElem_cons_zero, List.getElem_cons_succ]
          by_cases c2 : a2 = f
          · rw [if_pos c2, if_pos c2, s3, r3]
            simp only [List.getElem_cons_zero, List.getElem_cons_succ, List.drop_succ_cons, List.drop_zero]
            have hx := hb a3 (by simp)
            have hfl := hflag a3 hx.1 hx.2
            by_cases c3 : Go.bits .and .u8 (Go.bits .xor .u8 a3 f) 128 = 0
            · rw [if_pos c3, hfl.1 c3]
              exact ⟨_, _, rfl, true, by rw [hn]; rfl, .inl ⟨rfl, rfl⟩⟩
            · rw [if_neg c3]
              have : (b != decide (128 ≤ a3)) = true := by
                cases h : (b != decide (128 ≤ a3))
                · exact absurd (hfl.2 h) c3
                · rfl
              rw [this]
              exact ⟨_, _, rfl, false, rfl, .inr ⟨rfl, rfl, rfl⟩⟩
          · rw [if_neg c2, if_neg c2]
            exact ⟨_, _, rfl, false, rfl, .inr ⟨rfl, rfl, rfl⟩⟩
        · rw [if_neg c1, if_neg c1]
          exact ⟨_, _, rfl, false, rfl, .inr ⟨rfl, rfl, rfl⟩⟩
      · rw [if_neg c0, if_neg c0]
        exact ⟨_, _, rfl, false, rfl, .inr ⟨rfl, rfl, rfl⟩⟩
/-- Numbers of base 256 are read as the document reads them. -/
theorem base_same (l : List Int) (hl : l.length = 7 ∨ l.length = 11) (hb : Byts l) (first : Int) (hf : first = 128 ∨ first = 255) (k : Nat) (hk : 30 ≤ k) : ∃ n e, numf_unbase.f 20 first l = some (n, e) ∧ ∃ ok, thwartref01_base.f k l (first == 255) = some (n, ok) ∧ ((ok = true ∧ e = 0) ∨ (ok = false ∧ e = 10 ∧ n = 0)) := by
  unfold numf_unbase.f
  rcases hf with rfl | rfl
  · rw [if_neg (by decide), show ((128 : Int) == 255) = false from rfl, numf_unbase.j0, fill_0]
    exact base_core l hl hb false 0 0 rfl rfl or_zero (fun x h0 h1 => by rw [flag_0 x h0 h1]; simp) k hk
  · rw [if_pos rfl, show ((255 : Int) == 255) = true from rfl, numf_unbase.j0, fill_255]
    exact base_core l hl hb true 255 (-1) rfl rfl or_fill (fun x h0 h1 => by rw [flag_255 x h0 h1]; simp) k hk

/-- Octal digits' number. -/
def oct : Int → List Int → Int
  | n, [] => n
  | n, c :: l => oct (n * 8 + (c - 48)) l
theorem octVal_oct (l : List Int) : ∀ n, 0 ≤ n → n < 8 ^ (20 - l.length) → l.length ≤ 12 → (∀ x ∈ l, 48 ≤ x ∧ x ≤ 55) → octVal n l = oct n l := by
  induction l with
  | nil => intro n _ _ _ _; rfl
  | cons c l ih =>
    intro n h0 h1 hl hd
    have hc := hd c (by simp)
    simp only [List.length_cons] at h1 hl
    have e : (8 : Int) ^ (20 - l.length) = 8 * 8 ^ (20 - (l.length + 1)) := by
      rw [show 20 - l.length = (20 - (l.length + 1)) + 1 by omega, Int.pow_succ]; omega
    have hp : (8 : Int) ^ (20 - l.length) ≤ 8 ^ 20 := by
      have : (8 : Nat) ^ (20 - l.length) ≤ 8 ^ 20 := Nat.pow_le_pow_right (by omega) (by omega)
      exact_mod_cast this
    have hn : n * 8 + (c - 48) < 8 ^ (20 - l.length) := by omega
    have h20 : (8 : Int) ^ 20 = 1152921504606846976 := by decide +kernel
    unfold octVal oct
    rw [or_oct n (c - 48) (by omega) (by omega), wrap_id (by omega) (by omega)]
    exact ih _ (by omega) hn (by omega) (fun x hx => hd x (by simp [hx]))
theorem dw_nil (p : UInt8 → Bool) (l : List UInt8) : l.dropWhile p = [] ↔ ∀ b ∈ l, p b = true := by
  induction l with
  | nil => simp
  | cons x l ih =>
    rw [List.dropWhile_cons]
    by_cases h : p x = true
    · rw [if_pos h, ih]
      constructor
      · intro h1 b hb
        rcases List.mem_cons.1 hb with h2 | h2
        · rw [h2]; exact h
        · exact h1 b h2
      · intro h1 b hb; exact h1 b (List.mem_cons_of_mem _ hb)
    · rw [if_neg h]
      constructor
      · intro h1; cases h1
      · intro h1; exact absurd (h1 x (List.mem_cons_self)) h
theorem tw_mem (p : UInt8 → Bool) (l : List UInt8) : ∀ b ∈ l.takeWhile p, p b = true := by
  induction l with
  | nil => intro b hb; cases hb
  | cons x l ih =>
    intro b hb
    rw [List.takeWhile_cons] at hb
    by_cases h : p x = true
    · rw [if_pos h] at hb
      rcases List.mem_cons.1 hb with h2 | h2
      · rw [h2]; exact h
      · exact ih b h2
    · rw [if_neg h] at hb; cases hb
/-- What is behind the digits: noughts and spaces alone. -/
def blank (l : List Int) : Bool := l.all fun x => x == 0 || x == 32
theorem trim_blank (l : List Int) (hb : Byts l) : (Lib.trimS (Lib.bytesOf l) [32, 0]).length = 0 ↔ blank l = true := by
  have hc : ∀ x : Int, 0 ≤ x → x < 256 → (([32, 0] : List UInt8).contains x.toNat.toUInt8 = true ↔ (x == 0 || x == 32) = true) := by
    have h : ∀ x : Fin 256, (([32, 0] : List UInt8).contains (x.val : Int).toNat.toUInt8 = true ↔ ((x.val : Int) == 0 || (x.val : Int) == 32) = true) := by decide +kernel
    intro x h0 h1
    obtain ⟨x, rfl⟩ := Int.eq_ofNat_of_zero_le h0
    exact h ⟨x, by omega⟩
  have h1 : (∀ b ∈ Lib.bytesOf l, ([32, 0] : List UInt8).contains b = true) ↔ blank l = true := by
    unfold blank Lib.bytesOf
    rw [List.all_eq_true]
    constructor
    · intro h x hx
      exact (hc x (hb x hx).1 (hb x hx).2).1 (h _ (List.mem_map_of_mem hx))
    · intro h b hb2
      obtain ⟨x, hx, rfl⟩ := List.mem_map.1 hb2
      exact (hc x (hb x hx).1 (hb x hx).2).2 (h x hx)
  rw [← h1]
  unfold Lib.trimS Lib.trimLeftS Lib.trimRightS
  generalize Lib.bytesOf l = m
  constructor
  · intro h
    have h2 : ∀ b ∈ (m.reverse.dropWhile (([32, 0] : List UInt8).contains ·)).reverse, ([32, 0] : List UInt8).contains b = true := by
      have := List.eq_nil_of_length_eq_zero h
      exact (dw_nil _ _).1 this
    intro b hb2
    rcases Classical.em (b ∈ m.reverse.dropWhile (([32, 0] : List UInt8).contains ·)) with h3 | h3
    · exact h2 b (by simpa using h3)
    · have h4 : b ∈ m.reverse.takeWhile (([32, 0] : List UInt8).contains ·) := by
        have : b ∈ m.reverse := by simpa using hb2
        rw [← List.takeWhile_append_dropWhile (p := (([32, 0] : List UInt8).contains ·)) (l := m.reverse)] at this
        rcases List.mem_append.1 this with h5 | h5
        · exact h5
        · exact absurd h5 h3
      exact tw_mem _ _ b h4
  · intro h
    have h2 : m.reverse.dropWhile (([32, 0] : List UInt8).contains ·) = [] := (dw_nil _ _).2 (fun b hb2 => h b (by simpa using hb2))
    rw [h2]; rfl

theorem get_l2 (l : List Int) (hl : l.length ≤ 100) (v c : Int) (d : Nat) : ∀ (k i : Nat), i + d = l.length → d < k → thwartref01_Get.l2 k l i v c = some (if c = 0 ∨ blank (l.drop i) = false then (0, 3) else (v, 0)) := by
  induction d with
  | zero =>
    intro k i h1 h2
    obtain ⟨k, rfl⟩ : ∃ m, k = m + 1 := ⟨k - 1, by omega⟩
    rw [thwartref01_Get.l2, if_neg (by omega), List.drop_eq_nil_of_le (by omega)]
    by_cases h : c = 0
    · rw [if_pos h, if_pos (.inl h)]
    · rw [if_neg h, if_neg (by rintro (h1 | h1); exact h h1; cases h1)]
  | succ d ih =>
    intro k i h1 h2
    obtain ⟨k, rfl⟩ : ∃ m, k = m + 1 := ⟨k - 1, by omega⟩
    have hd : l.drop i = l[i] :: l.drop (i + 1) := List.drop_eq_getElem_cons (by omega)
    rw [thwartref01_Get.l2, if_pos (by omega), if_pos (by omega), rd_at l i (by omega), wrap_id (i := (i : Int) + 1) (by omega) (by omega), show ((i : Int) + 1) = ((i + 1 : Nat) : Int) by omega, ih k (i + 1) (by omega) (by omega), hd]
    unfold blank
    rw [List.all_cons]
    by_cases h0 : l[i] = 0
    · rw [if_pos h0, h0]; rfl
    · rw [if_neg h0]
      by_cases h32 : l[i] = 32
      · rw [if_pos h32, h32]; rfl
      · rw [if_neg h32, show (l[i] == 0 || l[i] == 32) = false by rw [beq_eq_false_iff_ne.2 h0, beq_eq_false_iff_ne.2 h32]; rfl]
        rw [show (if c = 0 then (some (0, 3) : Option (Int × Int)) else some (0, 3)) = some (0, 3) by split <;> rfl, if_pos (.inr rfl)]
theorem get_l1 (l : List Int) (hl : l.length ≤ 12) (hb : Byts l) (d : Nat) : ∀ (k i : Nat) (v c : Int), i + d = l.length → 2 * d + 5 < k → 0 ≤ v → v < 8 ^ (20 - d) → 0 ≤ c → c ≤ i → thwartref01_Get.l1 k l i v c = some (if (c = 0 ∧ octs (l.drop i) = 0) ∨ blank ((l.drop i).drop (octs (l.drop i))) = false then (0, 3) else (oct v ((l.drop i).take (octs (l.drop i))), 0)) := by
  have fin : ∀ (k i : Nat) (v c : Int), i ≤ l.length → l.length - i + 3 < k → thwartref01_Get.j4 k l i v c = some (if c = 0 ∨ blank (l.drop i) = false then (0, 3) else (v, 0)) := by
    intro k i v c h1 h2
    obtain ⟨k, rfl⟩ : ∃ m, k = m + 1 := ⟨k - 1, by omega⟩
    rw [thwartref01_Get.j4]
    exact get_l2 l (by omega) v c (l.length - i) k i (by omega) (by omega)
  induction d with
  | zero =>
    intro k i v c h1 h2 h3 h4 h5 h6
    obtain ⟨k, rfl⟩ : ∃ m, k = m + 1 := ⟨k - 1, by omega⟩
    rw [thwartref01_Get.l1, if_neg (by omega), fin k i v c (by omega) (by omega), List.drop_eq_nil_of_le (by omega)]
    simp [octs, oct]
  | succ d ih =>
    intro k i v c h1 h2 h3 h4 h5 h6
    obtain ⟨k, rfl⟩ : ∃ m, k = m + 1 := ⟨k - 1, by omega⟩
    have hx := hb l[i] (List.getElem_mem (by omega))
    have hd : l.drop i = l[i] :: l.drop (i + 1) := List.drop_eq_getElem_cons (by omega)
    rw [thwartref01_Get.l1, if_pos (by omega), if_pos (by omega), rd_at l i (by omega)]
    by_cases ho : 48 ≤ l[i] ∧ l[i] ≤ 55
    · have e : (8 : Int) ^ (20 - d) = 8 * 8 ^ (20 - (d + 1)) := by
        rw [show 20 - d = (20 - (d + 1)) + 1 by omega, Int.pow_succ]; omega
      have hp : (8 : Int) ^ (20 - d) ≤ 8 ^ 20 := by
        have : (8 : Nat) ^ (20 - d) ≤ 8 ^ 20 := Nat.pow_le_pow_right (by omega) (by omega)
        exact_mod_cast this
      have h20 : (8 : Int) ^ 20 = 1152921504606846976 := by decide +kernel
      rw [if_pos (by omega), if_pos (by omega), wrap_id (i := (i : Int) + 1) (by omega) (by omega), show ((i : Int) + 1) = ((i + 1 : Nat) : Int) by omega, wrap_id (i := 8 * v) (by omega) (by omega), wrap_id (i := 8 * v + _) (by omega) (by omega), wrap_id (i := c + 1) (by omega) (by omega), ih k (i + 1) _ _ (by omega) (by omega) (by omega) (by omega) (by omega) (by omega), hd]
      have hoc : octs (l[i] :: l.drop (i + 1)) = octs (l.drop (i + 1)) + 1 := by
        conv => lhs; unfold octs
        rw [if_pos ho]
      rw [hoc, List.drop_succ_cons, List.take_succ_cons]
      conv => rhs; unfold oct
      rw [show 8 * v + (l[i] - 48) % 256 = v * 8 + (l[i] - 48) by omega]
      congr 1
      by_cases hbk : blank ((l.drop (i + 1)).drop (octs (l.drop (i + 1)))) = false
      · rw [if_pos (.inr hbk), if_pos (.inr hbk)]
      · rw [if_neg (by rintro (h | h); omega; exact hbk h), if_neg (by rintro (h | h); omega; exact hbk h)]
    · have hoc : octs (l[i] :: l.drop (i + 1)) = 0 := by unfold octs; rw [if_neg ho]
      have hj : ∀ r, (if l[i] ≥ 48 then (if l[i] ≤ 55 then r else thwartref01_Get.j4 k l i v c) else thwartref01_Get.j4 k l i v c) = thwartref01_Get.j4 k l i v c := by
        intro r
        by_cases h48 : l[i] ≥ 48
        · rw [if_pos h48, if_neg (by omega)]
        · rw [if_neg h48]
      rw [hj, fin k i v c (by omega) (by omega), hd, hoc, List.drop_zero, List.take_zero]
      simp [oct]
theorem get_l0 (l : List Int) (hl : l.length ≤ 12) (hb : Byts l) (d : Nat) : ∀ (k i : Nat), i + d = l.length → 3 * d + 20 < k → thwartref01_Get.l0 k l i = some (if octs (skip 32 (l.drop i)) = 0 ∨ blank ((skip 32 (l.drop i)).drop (octs (skip 32 (l.drop i)))) = false then (0, 3) else (oct 0 ((skip 32 (l.drop i)).take (octs (skip 32 (l.drop i)))), 0)) := by
  have fin : ∀ (k i : Nat), i ≤ l.length → 2 * (l.length - i) + 8 < k → skip 32 (l.drop i) = l.drop i → thwartref01_Get.j2 k l i = some (if octs (skip 32 (l.drop i)) = 0 ∨ blank ((skip 32 (l.drop i)).drop (octs (skip 32 (l.drop i)))) = false then (0, 3) else (oct 0 ((skip 32 (l.drop i)).take (octs (skip 32 (l.drop i)))), 0)) := by
    intro k i h1 h2 h3
    obtain ⟨k, rfl⟩ : ∃ m, k = m + 1 := ⟨k - 1, by omega⟩
    rw [thwartref01_Get.j2, h3]
    have hp : (0 : Int) < 8 ^ (20 - (l.length - i)) := Int.pow_pos (by omega)
    have := get_l1 l hl hb (l.length - i) k i 0 0 (by omega) (by omega) (by omega) hp (by omega) (by omega)
    rw [this]
    simp
  induction d with
  | zero =>
    intro k i h1 h2
    obtain ⟨k, rfl⟩ : ∃ m, k = m + 1 := ⟨k - 1, by omega⟩
    rw [thwartref01_Get.l0, if_neg (by omega)]
    exact fin k i (by omega) (by omega) (by rw [List.drop_eq_nil_of_le (by omega)]; rfl)
  | succ d ih =>
    intro k i h1 h2
    obtain ⟨k, rfl⟩ : ∃ m, k = m + 1 := ⟨k - 1, by omega⟩
    have hd : l.drop i = l[i] :: l.drop (i + 1) := List.drop_eq_getElem_cons (by omega)
    rw [thwartref01_Get.l0, if_pos (by omega), if_pos (by omega), rd_at l i (by omega)]
    by_cases h : l[i] = 32
    · rw [if_pos h, wrap_id (i := (i : Int) + 1) (by omega) (by omega), show ((i : Int) + 1) = ((i + 1 : Nat) : Int) by omega, ih k (i + 1) (by omega) (by omega), hd, h]
      rw [show skip 32 (32 :: l.drop (i + 1)) = skip 32 (l.drop (i + 1)) by conv => lhs; unfold skip
                                                                            rw [if_pos rfl]]
    · rw [if_neg h]
      exact fin k i (by omega) (by omega) (by rw [hd]; unfold skip; rw [if_neg h])
theorem skip_len (c : Int) (l : List Int) : (skip c l).length ≤ l.length := by
  induction l with
  | nil => exact Nat.le_refl _
  | cons x l ih => unfold skip; split <;> simp only [List.length_cons] <;> omega
/-- Every field is read as the document reads it. -/
theorem get_same (l : List Int) (hl : l.length ≤ 1000) (hb : Byts l) (k : Nat) (hk : 100 ≤ k) : ∃ n e, numf_Get.f l = some (n, e) ∧ thwartref01_Get.f k l = some (n, e) := by
  unfold numf_Get.f thwartref01_Get.f thwartref01_wide.f
  by_cases hw : l.length = 8 ∨ l.length = 12
  · have hwide : (if (l.length : Int) = 8 then some true else some ((l.length : Int) == 12)) = some true := by
      rcases hw with h | h <;> rw [h] <;> rfl
    rw [if_pos hw, if_pos (show ∀ x ∈ l, 0 ≤ x ∧ x < 256 from hb), hwide, Option.bind_some, if_pos rfl, if_pos (show (0 : Int) < (l.length : Int) by omega)]
    obtain ⟨k, rfl⟩ : ∃ m, k = m + 1 := ⟨k - 1, by omega⟩
    have hbase : rd l 0 = 128 ∨ rd l 0 = 255 → ∃ n e, numf_unbase.f 20 (rd l 0) (l.drop 1) = some (n, e) ∧ thwartref01_Get.j0 (k + 1) l true = some (n, e) := by
      intro hf
      obtain ⟨n, e, h1, ok, h2, h3⟩ := base_same (l.drop 1) (by rw [List.length_drop]; omega) (fun x hx => hb x (List.mem_of_mem_drop hx)) (rd l 0) hf k (by omega)
      refine ⟨n, e, h1, ?_⟩
      rw [thwartref01_Get.j0, if_pos rfl, if_pos (show (1 : Int) ≤ (l.length : Int) by omega), if_pos (show (0 : Int) < (l.length : Int) by omega), h2, Option.bind_some]
      rcases h3 with ⟨rfl, rfl⟩ | ⟨rfl, rfl, rfl⟩ <;> rfl
    by_cases h128 : rd l 0 = 128
    · rw [if_pos (.inl h128), if_pos h128]
      exact hbase (.inl h128)
    · rw [if_neg h128]
      by_cases h255 : rd l 0 = 255
      · rw [if_pos (.inr h255), show (rd l 0 == 255) = true by rw [h255]; rfl]
        exact hbase (.inr h255)
      · rw [if_neg (by rintro (h | h); exact h128 h; exact h255 h), show (rd l 0 == 255) = false from beq_eq_false_iff_ne.2 h255, thwartref01_Get.j0, if_neg (show ¬ (false = true) by decide)]
        have h0 := get_l0 l (by omega) hb l.length k 0 (by omega) (by omega)
        rw [show ((0 : Nat) : Int) = 0 from rfl, List.drop_zero] at h0
        rw [h0]
        have hsb : Byts (skip 32 l) := fun x hx => hb x (mem_skip 32 l x hx)
        have hsl := skip_len 32 l
        by_cases ho : octs (skip 32 l) = 0
        · rw [if_pos ho, if_pos (.inl ho)]; exact ⟨_, _, rfl, rfl⟩
        · rw [if_neg ho]
          have ht := trim_blank ((skip 32 l).drop (octs (skip 32 l))) (fun x hx => hsb x (List.mem_of_mem_drop hx))
          by_cases hbk : blank ((skip 32 l).drop (octs (skip 32 l))) = true
          · rw [if_neg (by have := ht.2 hbk; omega), if_neg (by rintro (h | h); exact ho h; rw [hbk] at h; cases h)]
            have hm := octs_mem (skip 32 l)
            have hle := octs_le (skip 32 l)
            have hp : (0 : Int) < 8 ^ (20 - ((skip 32 l).take (octs (skip 32 l))).length) := Int.pow_pos (by omega)
            rw [octVal_oct _ 0 (by omega) hp (by rw [List.length_take]; omega) hm]
            exact ⟨_, _, rfl, rfl⟩
          · rw [if_pos (by have : ¬ (Lib.trimS (Lib.bytesOf ((skip 32 l).drop (octs (skip 32 l)))) [32, 0]).length = 0 := fun h => hbk (ht.1 h)
                           omega), if_pos (.inr (by simpa using hbk))]
            exact ⟨_, _, rfl, rfl⟩
  · have hwide : (if (l.length : Int) = 8 then some true else some ((l.length : Int) == 12)) = some false := by
      rw [if_neg (by omega), beq_eq_false_iff_ne.2 (by omega)]
    rw [if_neg hw, hwide, Option.bind_some, if_neg (by decide)]
    exact ⟨_, _, rfl, rfl⟩

end Go.Proofs.YthjljkdiglpbaaaDoor.Q4

-- QSum
/- Plain facts on the sum of a header, as the code and the document tell it. -/
namespace Go.Proofs.YthjljkdiglpbaaaDoor.Q3
open Go.RowKit Go.Proofs.YthjljkdiglpbaaaDoor.P Go.Proofs.YthjljkdiglpbaaaDoor.Hand Go.Proofs.YthjljkdiglpbaaaDoorW.PrintWords Go.Proofs.YthjljkdiglpbaaaDoorW.PrintLast Go.Proofs.YthjljkdiglpbaaaDoorW.PrintMore
set_option linter.unusedVariables false
set_option linter.unusedSimpArgs false
def Bytes (l : List Int) : Prop := ∀ x ∈ l, 0 ≤ x ∧ x < 256
theorem Bytes.at {l : List Int} (h : Bytes l) (i : Nat) (hi : i < l.length) : 0 ≤ l[i] ∧ l[i] < 256 := h _ (List.getElem_mem hi)
theorem wrap_id {i : Int} (h0 : -9223372036854775808 ≤ i) (h : i < 9223372036854775808) : wrap64 i = i := by unfold wrap64; omega
theorem rd_at (l : List Int) (i : Nat) (h : i < l.length) : rd l (i : Int) = l[i] := by
  unfold rd; rw [Int.toNat_natCast, List.getD_eq_getElem?_getD, List.getElem?_eq_getElem h]; rfl
theorem drop_sum (l : List Int) (i : Nat) (h : i < l.length) : (l.drop i).sum = l[i] + (l.drop (i + 1)).sum := by
  rw [List.drop_eq_getElem_cons h, List.sum_cons]

theorem l0_is (l : List Int) (hl : l.length = 512) (hb : Bytes l) (d : Nat) : ∀ (k i : Nat) (acc : Int), i + d = 512 → d < k → 0 ≤ acc → acc ≤ 255 * i → hsum_Sum.l0 k l acc i = hsum_Sum.l1 (k - d - 1) l (acc + (l.drop i).sum) 0 := by
  induction d with
  | zero =>
    intro k i acc hi hk h0 h1
    obtain ⟨k, rfl⟩ : ∃ m, k = m + 1 := ⟨k - 1, by omega⟩
    rw [hsum_Sum.l0, if_neg (by omega), List.drop_eq_nil_of_le (by omega)]
    simp
  | succ d ih =>
    intro k i acc hi hk h0 h1
    obtain ⟨k, rfl⟩ : ∃ m, k = m + 1 := ⟨k - 1, by omega⟩
    have hx := hb.at i (by omega)
    rw [hsum_Sum.l0, if_pos (by omega), if_pos (by omega), if_pos (by omega), rd_at l i (by omega), wrap_id (i := l[i]) (by omega) (by omega), wrap_id (by omega) (by omega), wrap_id (by omega) (by omega)]
    have := ih k (i + 1) (acc + l[i]) (by omega) (by omega) (by omega) (by omega)
    rw [show ((i : Int) + 1) = ((i + 1 : Nat) : Int) by omega, this, drop_sum l i (by omega)]
    rw [show k + 1 - (d + 1) - 1 = k - d - 1 by omega]
    congr 1
    omega

theorem l1_is (l : List Int) (hl : l.length = 512) (hb : Bytes l) (d : Nat) : ∀ (k j : Nat) (acc : Int), j + d = 8 → d < k → -300 * j ≤ acc → acc ≤ 130560 + 300 * j → hsum_Sum.l1 k l acc j = some (acc + 32 * d - ((l.drop (148 + j)).take d).sum, 0) := by
  induction d with
  | zero =>
    intro k i acc hi hk h0 h1
    obtain ⟨k, rfl⟩ : ∃ m, k = m + 1 := ⟨k - 1, by omega⟩
    rw [hsum_Sum.l1, if_neg (by omega)]
    simp
  | succ d ih =>
    intro k i acc hi hk h0 h1
    obtain ⟨k, rfl⟩ : ∃ m, k = m + 1 := ⟨k - 1, by omega⟩
    have hx := hb.at (148 + i) (by omega)
    have hw : wrap64 (148 + (i : Int)) = ((148 + i : Nat) : Int) := by rw [wrap_id (by omega) (by omega)]; omega
    rw [hsum_Sum.l1, if_pos (by omega), hw, if_pos (by omega), if_pos (by omega), rd_at l (148 + i) (by omega), wrap_id (i := l[148 + i]) (by omega) (by omega), wrap_id (i := 32 - l[148 + i]) (by omega) (by omega), wrap_id (i := acc + (32 - l[148 + i])) (by omega) (by omega), wrap_id (by omega) (by omega)]
    have := ih k (i + 1) (acc + (32 - l[148 + i])) (by omega) (by omega) (by omega) (by omega)
    rw [show ((i : Int) + 1) = ((i + 1 : Nat) : Int) by omega, this, List.drop_eq_getElem_cons (i := 148 + i) (by omega), List.take_succ_cons, List.sum_cons]
    rw [show 148 + (i + 1) = 148 + i + 1 by omega]
    congr 2
    push_cast
    omega

/-- The sum of a block. -/
def S (l : List Int) : Int := (l.take 148).sum + 256 + (l.drop 156).sum
theorem sum_range (l : List Int) (hb : Bytes l) : 0 ≤ l.sum ∧ l.sum ≤ 255 * l.length := by
  induction l with
  | nil => simp
  | cons x l ih =>
    have h1 := hb x (by simp)
    have h2 := ih (fun y hy => hb y (by simp [hy]))
    rw [List.sum_cons, List.length_cons]
    push_cast
    omega
theorem S_range (l : List Int) (hl : l.length = 512) (hb : Bytes l) : 256 ≤ S l ∧ S l ≤ 130560 := by
  have h1 := sum_range (l.take 148) (fun x hx => hb x (List.mem_of_mem_take hx))
  have h2 := sum_range (l.drop 156) (fun x hx => hb x (List.mem_of_mem_drop hx))
  rw [List.length_take, hl] at h1
  rw [List.length_drop, hl] at h2
  unfold S
  omega
theorem sum_is (l : List Int) (hl : l.length = 512) (hb : Bytes l) (k : Nat) (hk : 600 ≤ k) : hsum_Sum.f k l = some (S l, 0) := by
  unfold hsum_Sum.f
  rw [if_pos (by omega)]
  have h := l0_is l hl hb 512 k 0 0 (by omega) (by omega) (by omega) (by omega)
  have hr := sum_range l hb
  rw [show ((0 : Nat) : Int) = 0 from rfl] at h
  rw [h, List.drop_zero, Int.zero_add]
  have h2 := l1_is l hl hb 8 (k - 512 - 1) 0 l.sum (by omega) (by omega) (by omega) (by omega)
  rw [show ((0 : Nat) : Int) = 0 from rfl] at h2
  rw [h2]
  have e1 : l.sum = (l.take 148).sum + (l.drop 148).sum := by rw [← List.sum_append, List.take_append_drop]
  have e2 : (l.drop 148).sum = ((l.drop 148).take 8).sum + (l.drop 156).sum := by
    rw [show l.drop 156 = (l.drop 148).drop 8 by rw [List.drop_drop], ← List.sum_append, List.take_append_drop]
  have e3 : l.sum + 32 * ((8 : Nat) : Int) - ((l.drop (148 + 0)).take 8).sum = S l := by
    unfold S
    rw [Nat.add_zero]
    omega
  rw [e3]

/-- Six octal digits. -/
def dig (n : Int) : List Int := [48 + n / 32768 % 8, 48 + n / 4096 % 8, 48 + n / 512 % 8, 48 + n / 64 % 8, 48 + n / 8 % 8, 48 + n % 8]
theorem dig_len (n : Int) : (dig n).length = 6 := rfl
theorem dig_bytes (n : Int) : ∀ x ∈ dig n, 48 ≤ x ∧ x ≤ 55 := by
  intro x hx
  simp only [dig, List.mem_cons, List.not_mem_nil, or_false] at hx
  omega
theorem most_is : numf_Most.f 6 = some 262143 := by decide +kernel
theorem octal_is (n : Int) (h0 : 0 ≤ n) (h1 : n < 262144) : numf_Octal.f 100 n 6 = some (dig n, 0) := by
  unfold numf_Octal.f
  rw [if_neg (by decide), show (decide ((6 : Int) > 20)) = false from rfl, numf_Octal.j0, if_neg (by decide), if_neg (by omega), most_is]
  simp only [Option.bind_some]
  rw [if_neg (by omega), if_pos (by decide), if_pos (by decide)]
  have hs : ∀ (c m : Int), (2 : Int) ^ (min c.toNat 64) = m → shr .i64 n c = n / m := by
    intro c m h; unfold shr; rw [← h]; rfl
  show numf_Octal.l0 99 n 6 [0, 0, 0, 0, 0, 0] 6 0 = some (dig n, 0)
  iterate 6 rw [numf_Octal.l0, if_pos (by decide +kernel), if_pos (by decide +kernel), if_pos (by decide +kernel), if_pos (by (try simp only [List.length_set]); decide +kernel)]
  rw [numf_Octal.l0, if_neg (by decide +kernel)]
  rw [hs _ 32768 (by decide +kernel), hs _ 4096 (by decide +kernel), hs _ 512 (by decide +kernel), hs _ 64 (by decide +kernel), hs _ 8 (by decide +kernel), hs _ 1 (by decide +kernel), Int.ediv_one]
  rw [show wrap64 (0 + 1) = 1 by decide +kernel, show wrap64 (1 + 1) = 2 by decide +kernel, show wrap64 (2 + 1) = 3 by decide +kernel, show wrap64 (3 + 1) = 4 by decide +kernel, show wrap64 (4 + 1) = 5 by decide +kernel]
  rfl

theorem i64_or_small (a b : Nat) (ha : a < 2 ^ 62) (hb : b < 2 ^ 62) : Go.bits .or .i64 (a : Int) (b : Int) = ((a ||| b : Nat) : Int) := by
  have hx : a ||| b < 2 ^ 62 := Nat.or_lt_two_pow ha hb
  show IntKind.i64.wrap ((BitVec.ofInt 64 (a : Int) ||| BitVec.ofInt 64 (b : Int)).toNat : Int) = _
  rw [BitVec.toNat_or, BitVec.ofInt_natCast, BitVec.ofInt_natCast, BitVec.toNat_ofNat, BitVec.toNat_ofNat, Nat.mod_eq_of_lt (by omega), Nat.mod_eq_of_lt (by omega)]
  rw [IntKind.wrap_i64]
  omega
theorem or_digit (m d : Int) (h0 : 0 ≤ m) (h1 : m < 1000000000000) (h2 : 0 ≤ d) (h3 : d < 8) : Go.bits .or .i64 (wrap64 (m * 8)) d = m * 8 + d := by
  rw [wrap_id (by omega) (by omega)]
  obtain ⟨m, rfl⟩ := Int.eq_ofNat_of_zero_le h0
  obtain ⟨d, rfl⟩ := Int.eq_ofNat_of_zero_le h2
  have hd : d < 2 ^ 3 := by omega
  have hor : 2 ^ 3 * m ||| d = 2 ^ 3 * m + d := (Nat.two_pow_add_eq_or_of_lt hd m).symm
  have := i64_or_small (2 ^ 3 * m) d (by omega) (by omega)
  rw [show ((m : Int) * 8) = ((2 ^ 3 * m : Nat) : Int) by push_cast; omega, this, hor]
  push_cast
  omega
theorem octVal_dig (n : Int) (h0 : 0 ≤ n) (h1 : n < 262144) : octVal 0 (dig n) = n := by
  unfold dig
  simp only [octVal]
  rw [show (48 + n / 32768 % 8 - 48) = n / 32768 % 8 by omega, show (48 + n / 4096 % 8 - 48) = n / 4096 % 8 by omega, show (48 + n / 512 % 8 - 48) = n / 512 % 8 by omega, show (48 + n / 64 % 8 - 48) = n / 64 % 8 by omega, show (48 + n / 8 % 8 - 48) = n / 8 % 8 by omega, show (48 + n % 8 - 48) = n % 8 by omega]
  rw [or_digit 0 _ (by omega) (by omega) (by omega) (by omega), or_digit _ (n / 4096 % 8) (by omega) (by omega) (by omega) (by omega), or_digit _ (n / 512 % 8) (by omega) (by omega) (by omega) (by omega), or_digit _ (n / 64 % 8) (by omega) (by omega) (by omega) (by omega), or_digit _ (n / 8 % 8) (by omega) (by omega) (by omega) (by omega), or_digit _ (n % 8) (by omega) (by omega) (by omega) (by omega)]
  omega
theorem octs_dig (n : Int) (l : List Int) : octs (dig n ++ 0 :: l) = 6 := by
  have h := dig_bytes n
  simp only [dig, List.mem_cons, List.not_mem_nil, or_false] at h
  simp only [dig, List.cons_append, List.nil_append, octs]
  rw [if_pos (by omega), if_pos (by omega), if_pos (by omega), if_pos (by omega), if_pos (by omega), if_pos (by omega), if_neg (by omega)]
theorem get_is (n : Int) (h0 : 0 ≤ n) (h1 : n < 262144) : numf_Get.f (dig n ++ [0, 32]) = some (n, 0) := by
  unfold numf_Get.f
  have hb : ∀ x ∈ dig n ++ [0, 32], 0 ≤ x ∧ x < 256 := by
    intro x hx
    rcases List.mem_append.1 hx with hx | hx
    · have := dig_bytes n x hx; omega
    · simp only [List.mem_cons, List.not_mem_nil, or_false] at hx; omega
  have hr : rd (dig n ++ [0, 32]) 0 = 48 + n / 32768 % 8 := rfl
  have hs : skip 32 (dig n ++ [0, 32]) = dig n ++ [0, 32] := by
    simp only [dig, List.cons_append, List.nil_append]
    rw [skip, if_neg (by omega)]
  rw [if_pos (.inl rfl), if_pos hb, hr, if_neg (by omega), hs, octs_dig, if_neg (by decide)]
  rw [List.drop_left' (dig_len n), List.take_left' (dig_len n), octVal_dig n h0 h1]
  rw [if_neg (by decide +kernel)]

/-- A block with its sum. -/
def P (l : List Int) : List Int := l.take 148 ++ (dig (S l) ++ [0, 32]) ++ l.drop 156
theorem P_len (l : List Int) (hl : l.length = 512) : (P l).length = 512 := by
  unfold P; simp only [List.length_append, List.length_take, List.length_drop, dig_len, hl]; rfl
theorem P_bytes (l : List Int) (hb : Bytes l) : Bytes (P l) := by
  intro x hx
  unfold P at hx
  rcases List.mem_append.1 hx with hx | hx
  · rcases List.mem_append.1 hx with hx | hx
    · exact hb x (List.mem_of_mem_take hx)
    · rcases List.mem_append.1 hx with hx | hx
      · have := dig_bytes _ x hx; omega
      · simp only [List.mem_cons, List.not_mem_nil, or_false] at hx; omega
  · exact hb x (List.mem_of_mem_drop hx)
theorem P_take (l : List Int) (hl : l.length = 512) : (P l).take 148 = l.take 148 := by
  unfold P; rw [List.append_assoc, List.take_left' (by rw [List.length_take]; omega)]
theorem P_drop (l : List Int) (hl : l.length = 512) : (P l).drop 156 = l.drop 156 := by
  unfold P; rw [List.drop_left' (by simp only [List.length_append, List.length_take, dig_len, hl]; rfl)]
theorem P_field (l : List Int) (hl : l.length = 512) : ((P l).take 156).drop 148 = dig (S l) ++ [0, 32] := by
  unfold P
  rw [List.take_left' (by simp only [List.length_append, List.length_take, dig_len, hl]; rfl), List.drop_left' (by rw [List.length_take]; omega)]
theorem S_P (l : List Int) (hl : l.length = 512) : S (P l) = S l := by
  unfold S; rw [P_take l hl, P_drop l hl]
theorem put_is (l : List Int) (hl : l.length = 512) (hb : Bytes l) : hsum_Put.f l = some (P l, 0) := by
  have hr := S_range l hl hb
  unfold hsum_Put.f
  rw [sum_is l hl hb 1000 (by omega)]
  simp only [Option.bind_some, if_true]
  rw [octal_is (S l) (by omega) (by omega)]
  simp only [Option.bind_some, if_true]
  rw [if_pos ⟨dig_len _, hl⟩]
  rfl
theorem P_P (l : List Int) (hl : l.length = 512) : P (P l) = P l := by
  show (P l).take 148 ++ (dig (S (P l)) ++ [0, 32]) ++ (P l).drop 156 = P l
  rw [P_take l hl, P_drop l hl, S_P l hl]; rfl
theorem told_is (l : List Int) (n : Int) (hl : l.length = 512) (hf : (l.take 156).drop 148 = dig n ++ [0, 32]) (h0 : 0 ≤ n) (h1 : n < 262144) : hsum_Told.f l = some (n, 0) := by
  unfold hsum_Told.f
  rw [if_pos (by omega), if_pos (by decide), if_pos (by omega), hf, get_is n h0 h1]
  simp only [Option.bind_some, if_true]
  rw [if_neg (by omega), if_neg (by omega)]
theorem check_is (l : List Int) (n : Int) (hl : l.length = 512) (hb : Bytes l) (hf : (l.take 156).drop 148 = dig n ++ [0, 32]) (h0 : 0 ≤ n) (h1 : n < 262144) (k : Nat) (hk : 600 ≤ k) : hsum_Check.f k l = some (if S l = n then 0 else 9) := by
  unfold hsum_Check.f
  rw [told_is l n hl hf h0 h1]
  simp only [Option.bind_some, if_true]
  rw [sum_is l hl hb k hk]
  simp only [Option.bind_some, if_true]
  split <;> rfl

/-- What the document's loop adds up, from a place on. -/
def T : List Int → Nat → Int
  | [], _ => 0
  | x :: l, i => (if 148 ≤ i ∧ i < 156 then 32 else x) + T l (i + 1)
theorem T_append (a b : List Int) : ∀ i, T (a ++ b) i = T a i + T b (i + a.length) := by
  induction a with
  | nil => intro i; simp [T]
  | cons x a ih =>
    intro i
    simp only [List.cons_append, T, ih, List.length_cons]
    rw [show i + 1 + a.length = i + (a.length + 1) by omega]; omega
theorem T_out (a : List Int) : ∀ i, (i + a.length ≤ 148 ∨ 156 ≤ i) → T a i = a.sum := by
  induction a with
  | nil => intro i _; simp [T]
  | cons x a ih =>
    intro i h
    simp only [List.length_cons] at h
    simp only [T, List.sum_cons]
    rw [ih (i + 1) (by omega), if_neg (by omega)]
theorem T_in (a : List Int) : ∀ i, 148 ≤ i → i + a.length ≤ 156 → T a i = 32 * a.length := by
  induction a with
  | nil => intro i _ _; simp [T]
  | cons x a ih =>
    intro i h1 h2
    simp only [List.length_cons] at h2 ⊢
    simp only [T]
    rw [ih (i + 1) (by omega) (by omega), if_pos (by omega)]; push_cast; omega
theorem T_S (l : List Int) (hl : l.length = 512) : T l 0 = S l := by
  have h1 : l = l.take 148 ++ ((l.drop 148).take 8 ++ l.drop 156) := by
    rw [show l.drop 156 = (l.drop 148).drop 8 by rw [List.drop_drop], List.take_append_drop, List.take_append_drop]
  have e1 : (l.take 148).length = 148 := by rw [List.length_take]; omega
  have e2 : ((l.drop 148).take 8).length = 8 := by rw [List.length_take, List.length_drop]; omega
  conv => lhs; rw [h1]
  rw [T_append, T_append, T_out _ 0 (by omega), e1, T_in _ _ (by omega) (by omega), e2, T_out _ _ (by omega)]
  unfold S
  omega
theorem ref_sum_loop (l : List Int) (hl : l.length = 512) (hb : Bytes l) (d : Nat) : ∀ (k i : Nat) (n : Int), i + d = 512 → d < k → 0 ≤ n → n ≤ 255 * i → thwartref03_Sum.l0 k l n i = some (n + T (l.drop i) i) := by
  induction d with
  | zero =>
    intro k i n h1 h2 h3 h4
    obtain ⟨k, rfl⟩ : ∃ m, k = m + 1 := ⟨k - 1, by omega⟩
    rw [thwartref03_Sum.l0, if_neg (by omega), List.drop_eq_nil_of_le (by omega)]; simp [T]
  | succ d ih =>
    intro k i n h1 h2 h3 h4
    obtain ⟨k, rfl⟩ : ∃ m, k = m + 1 := ⟨k - 1, by omega⟩
    have hx := hb.at i (by omega)
    have hd : l.drop i = l[i] :: l.drop (i + 1) := List.drop_eq_getElem_cons (by omega)
    have hw : wrap64 ((i : Int) + 1) = ((i + 1 : Nat) : Int) := by rw [wrap_id (by omega) (by omega)]; omega
    rw [thwartref03_Sum.l0, if_pos (by omega), hw, rd_at l i (by omega), wrap_id (i := l[i]) (by omega) (by omega), wrap_id (i := n + l[i]) (by omega) (by omega), wrap_id (i := n + 32) (by omega) (by omega), hd]
    simp only [T]
    by_cases h : 148 ≤ i ∧ i < 156
    · rw [if_pos (by omega), if_pos (by omega), ih k (i + 1) _ (by omega) (by omega) (by omega) (by omega), if_pos h]
      congr 1; omega
    · rw [if_neg h]
      have : thwartref03_Sum.l0 k l (n + l[i]) ((i + 1 : Nat) : Int) = some (n + (l[i] + T (l.drop (i + 1)) (i + 1))) := by
        rw [ih k (i + 1) _ (by omega) (by omega) (by omega) (by omega)]; congr 1; omega
      rw [this]
      by_cases h48 : (i : Int) ≥ 148
      · rw [if_pos h48, if_neg (by omega), if_pos (by omega)]
      · rw [if_neg h48, if_pos (by omega)]
theorem ref_sum (l : List Int) (hl : l.length = 512) (hb : Bytes l) (k : Nat) (hk : 600 ≤ k) : thwartref03_Sum.f k l = some (S l) := by
  unfold thwartref03_Sum.f
  have := ref_sum_loop l hl hb 512 k 0 0 rfl (by omega) (by omega) (by omega)
  rw [List.drop_zero, T_S l hl, Int.zero_add] at this
  exact this
theorem most_ref (k : Nat) (hk : 30 ≤ k) : thwartref01_Most.f k 6 = some 262143 := by
  obtain ⟨d, rfl⟩ : ∃ d, k = 30 + d := ⟨k - 30, by omega⟩
  clear hk
  induction d with
  | zero => decide +kernel
  | succ d ih => exact thwartref01_Most.mono 6 (30 + d) 262143 ih
theorem oct_step (k : Nat) (x : Int) (L : List Int) (i : Nat) (h0 : 0 ≤ x) (h1 : x < 1000000) (hi : i < 6) (hL : L.length = 6) : thwartref01_Octal.l0 (k + 1) x L i = thwartref01_Octal.l0 k (x / 8) (L.set i (48 + x % 8)) ((i : Int) - 1) := by
  rw [thwartref01_Octal.l0, if_pos (by omega), if_pos (by omega), if_pos (by omega), Int.toNat_natCast, Int.tdiv_eq_ediv_of_nonneg h0, Int.tmod_eq_emod_of_nonneg h0, wrap_id (i := x / 8) (by omega) (by omega), wrap_id (i := 48 + x % 8) (by omega) (by omega), wrap_id (i := (i : Int) - 1) (by omega) (by omega), show (48 + x % 8) % 256 = 48 + x % 8 by omega]
theorem ref_octal (n : Int) (h0 : 0 ≤ n) (h1 : n < 262144) (k : Nat) (hk : 50 ≤ k) : thwartref01_Octal.f k n 6 = some (dig n, 0) := by
  obtain ⟨k, rfl⟩ : ∃ m, k = m + 9 := ⟨k - 9, by omega⟩
  unfold thwartref01_Octal.f
  rw [if_neg (by decide), show (decide ((6 : Int) > 20)) = false from rfl, thwartref01_Octal.j0, if_neg (by decide), if_neg (by omega), most_ref _ (by omega), Option.bind_some, decide_eq_false (by omega), thwartref01_Octal.j1, if_neg (by decide), if_pos (by decide), if_pos (by decide)]
  rw [show wrap64 (6 - 1) = 5 by decide +kernel]
  show thwartref01_Octal.l0 (k + 7) n [0, 0, 0, 0, 0, 0] 5 = _
  have s5 := oct_step (k + 6) n [0, 0, 0, 0, 0, 0] 5 (by omega) (by omega) (by omega) rfl
  have s4 := oct_step (k + 5) (n / 8) ([0, 0, 0, 0, 0, 0].set 5 (48 + n % 8)) 4 (by omega) (by omega) (by omega) rfl
  have s3 := oct_step (k + 4) (n / 8 / 8) (([0, 0, 0, 0, 0, 0].set 5 (48 + n % 8)).set 4 (48 + n / 8 % 8)) 3 (by omega) (by omega) (by omega) rfl
  have s2 := oct_step (k + 3) (n / 8 / 8 / 8) ((([0, 0, 0, 0, 0, 0].set 5 (48 + n % 8)).set 4 (48 + n / 8 % 8)).set 3 (48 + n / 8 / 8 % 8)) 2 (by omega) (by omega) (by omega) rfl
  have s1 := oct_step (k + 2) (n / 8 / 8 / 8 / 8) (((([0, 0, 0, 0, 0, 0].set 5 (48 + n % 8)).set 4 (48 + n / 8 % 8)).set 3 (48 + n / 8 / 8 % 8)).set 2 (48 + n / 8 / 8 / 8 % 8)) 1 (by omega) (by omega) (by omega) rfl
  have s0 := oct_step (k + 1) (n / 8 / 8 / 8 / 8 / 8) ((((([0, 0, 0, 0, 0, 0].set 5 (48 + n % 8)).set 4 (48 + n / 8 % 8)).set 3 (48 + n / 8 / 8 % 8)).set 2 (48 + n / 8 / 8 / 8 % 8)).set 1 (48 + n / 8 / 8 / 8 / 8 % 8)) 0 (by omega) (by omega) (by omega) rfl
  refine s5.trans (s4.trans (s3.trans (s2.trans (s1.trans (s0.trans ?_)))))
  show thwartref01_Octal.l0 (k + 1) _ _ (-1) = _
  rw [thwartref01_Octal.l0, if_neg (by decide)]
  show some ([48 + n / 8 / 8 / 8 / 8 / 8 % 8, 48 + n / 8 / 8 / 8 / 8 % 8, 48 + n / 8 / 8 / 8 % 8, 48 + n / 8 / 8 % 8, 48 + n / 8 % 8, 48 + n % 8], (0 : Int)) = some (dig n, 0)
  unfold dig
  rw [show n / 8 / 8 / 8 / 8 / 8 = n / 32768 by omega, show n / 8 / 8 / 8 / 8 = n / 4096 by omega, show n / 8 / 8 / 8 = n / 512 by omega, show n / 8 / 8 = n / 64 by omega]
theorem ref_put (l : List Int) (hl : l.length = 512) (hb : Bytes l) (k : Nat) (hk : 600 ≤ k) : thwartref03_Put.f k l = some (P l, 0) := by
  have hr := S_range l hl hb
  have e1 : (l.take 148).length = 148 := by rw [List.length_take]; omega
  unfold thwartref03_Put.f
  rw [if_pos (by omega), ref_sum l hl hb k hk, Option.bind_some, ref_octal (S l) (by omega) (by omega) k (by omega), Option.bind_some, if_pos (by omega), if_pos (by rw [e1]; decide), Option.bind_some]
  simp only [List.nil_append, Option.bind_some]
  rw [if_pos (by rw [e1, dig_len]; decide)]
  rw [if_pos (by rw [List.length_append, e1, dig_len]; decide), if_pos (by omega), if_pos (by simp only [List.length_append, e1, dig_len, List.length_drop, hl]; decide)]
  unfold P
  simp only [List.append_assoc]
theorem told_same (l : List Int) (hl : l.length = 512) (hb : Bytes l) (k : Nat) (hk : 600 ≤ k) : ∃ r, hsum_Told.f l = some r ∧ thwartref03_Told.f k l = some r := by
  obtain ⟨n, e, h1, h2⟩ := Q4.get_same ((l.take 156).drop 148) (by rw [List.length_drop, List.length_take]; omega) (fun x hx => hb x (List.mem_of_mem_take (List.mem_of_mem_drop hx))) k (by omega)
  unfold hsum_Told.f thwartref03_Told.f
  rw [if_pos (by omega), if_pos (by decide), if_pos (by omega), h1, if_pos (by omega), if_pos (by decide), if_pos (by omega), h2]
  simp only [Option.bind_some]
  split
  · split
    · exact ⟨_, rfl, rfl⟩
    · split <;> exact ⟨_, rfl, rfl⟩
  · exact ⟨_, rfl, rfl⟩
theorem check_same (l : List Int) (hl : l.length = 512) (hb : Bytes l) (k : Nat) (hk : 600 ≤ k) : ∃ r, hsum_Check.f k l = some r ∧ thwartref03_Check.f k l = some r := by
  obtain ⟨⟨n, e⟩, h1, h2⟩ := told_same l hl hb k hk
  unfold hsum_Check.f thwartref03_Check.f
  rw [h1, h2]
  simp only [Option.bind_some]
  split
  · rw [sum_is l hl hb k hk, ref_sum l hl hb k hk]
    simp only [Option.bind_some, if_true]
    by_cases h : S l = n
    · rw [if_pos h, if_pos h.symm]; exact ⟨_, rfl, rfl⟩
    · rw [if_neg h, if_neg (fun e => h e.symm)]; exact ⟨_, rfl, rfl⟩
  · exact ⟨_, rfl, rfl⟩
end Go.Proofs.YthjljkdiglpbaaaDoor.Q3

-- QFld
/- Plain facts on texts of fields, as the code and the document tell them. -/
namespace Go.Proofs.YthjljkdiglpbaaaDoor.Q
open Go.RowKit Go.Proofs.YthjljkdiglpbaaaDoor.P Go.Proofs.YthjljkdiglpbaaaDoor.Hand Go.Proofs.YthjljkdiglpbaaaDoorW.PrintWords Go.Proofs.YthjljkdiglpbaaaDoorW.PrintLast Go.Proofs.YthjljkdiglpbaaaDoorW.PrintMore
set_option linter.unusedVariables false
set_option linter.unusedSimpArgs false
theorem ext_list (a b : ByteArray) (h : a.data.toList = b.data.toList) : a = b := by
  cases a; cases b; simp only [ByteArray.mk.injEq]; exact Array.toList_inj.1 h
theorem toL (s : ByteArray) : s.toList = s.data.toList := Lib.toList_data s
theorem szL (s : ByteArray) : s.size = s.data.toList.length := Lib.size_eq s
theorem extL (s : ByteArray) (a b : Nat) : (s.extract a b).data.toList = (s.data.toList.drop a).take (b - a) := Lib.extract_data s a b
theorem appL (s t : ByteArray) : (s ++ t).data.toList = s.data.toList ++ t.data.toList := by
  rw [ByteArray.data_append, Array.toList_append]
theorem numsL (xs : List Int) : (strOfNums xs).data.toList = Lib.bytesOf xs := rfl
theorem nums_bytes (s : ByteArray) : strOfNums (bytesOf s) = s := by
  apply ext_list
  rw [numsL]
  simp [Lib.bytesOf, bytesOf, List.map_map, Function.comp_def]
theorem bytes_bytes (s : ByteArray) : Lib.bytesOf (bytesOf s) = s.data.toList := by
  simp [Lib.bytesOf, bytesOf, List.map_map, Function.comp_def]

/-- Where a byte first stands. -/
theorem index_none (l : List UInt8) (c : UInt8) : Lib.indexByte l c < 0 ↔ c ∉ l := by
  induction l with
  | nil => simp [Lib.indexByte]
  | cons b l ih =>
    have hg := Lib.indexByte_ge l c
    unfold Lib.indexByte
    by_cases e : (b == c) = true
    · rw [if_pos e]; simp at e; subst e; simp
    · rw [if_neg e]
      have e' : ¬ c = b := fun h => e (by simp [h])
      by_cases e2 : (Lib.indexByte l c == -1) = true
      · rw [if_pos e2]
        have : Lib.indexByte l c < 0 := by have := beq_iff_eq.1 e2; omega
        simp [e', ih.1 this]
      · rw [if_neg e2]
        have h3 : ¬ Lib.indexByte l c < 0 := by have : ¬ Lib.indexByte l c = -1 := fun h => e2 (by simp [h]); omega
        have h4 : c ∈ l := Decidable.byContradiction fun h => h3 (ih.2 h)
        simp [h4]; omega
theorem index_some (l : List UInt8) (c : UInt8) (h : 0 ≤ Lib.indexByte l c) : ∃ pre post, l = pre ++ c :: post ∧ c ∉ pre ∧ (Lib.indexByte l c).toNat = pre.length := by
  induction l with
  | nil => simp [Lib.indexByte] at h
  | cons b l ih =>
    have hg := Lib.indexByte_ge l c
    unfold Lib.indexByte at h ⊢
    by_cases e : (b == c) = true
    · rw [if_pos e]; simp at e; subst e; exact ⟨[], l, rfl, by simp, rfl⟩
    · rw [if_neg e] at h ⊢
      by_cases e2 : (Lib.indexByte l c == -1) = true
      · rw [if_pos e2] at h; omega
      · rw [if_neg e2] at h ⊢
        have h3 : ¬ Lib.indexByte l c = -1 := fun h => e2 (by simp [h])
        obtain ⟨pre, post, h4, h5, h6⟩ := ih (by omega)
        refine ⟨b :: pre, post, by rw [h4]; rfl, ?_, by simp only [List.length_cons]; omega⟩
        simp only [List.mem_cons, not_or]
        exact ⟨fun h => e (by simp [h]), h5⟩
theorem index_at (pre post : List UInt8) (c : UInt8) (h : c ∉ pre) : Lib.indexByte (pre ++ c :: post) c = pre.length := by
  induction pre with
  | nil => simp [Lib.indexByte]
  | cons b l ih =>
    simp only [List.mem_cons, not_or] at h
    have e : ¬ (b == c) = true := fun e => h.1 (by simpa using (beq_iff_eq.1 e).symm)
    show Lib.indexByte (b :: (l ++ c :: post)) c = _
    unfold Lib.indexByte
    rw [if_neg e, ih h.2, if_neg (by rw [beq_iff_eq]; omega)]
    simp

theorem wrap_small {i : Int} (h0 : 0 ≤ i) (h : i ≤ 4611686018427387904) : wrap64 (i + 1) = i + 1 := by unfold wrap64; omega
theorem bt_get (s : ByteArray) (i : Nat) (h : i < s.data.toList.length) : bt s (i : Int) = (s.data.toList[i].toNat : Int) := by
  unfold bt
  rw [Int.toNat_natCast, dif_pos (by rw [szL]; exact h)]; rfl
theorem bt_zero (s : ByteArray) (i : Nat) (h : i < s.data.toList.length) (c : UInt8) : bt s (i : Int) = (c.toNat : Int) ↔ s.data.toList[i] = c := by
  rw [bt_get s i h]
  constructor
  · intro h; exact UInt8.toNat_inj.1 (by omega)
  · rintro rfl; rfl

/-- Where the first c stands; the end, if there is none. -/
def firstAt (l : List UInt8) (c : UInt8) : Nat := if 0 ≤ Lib.indexByte l c then (Lib.indexByte l c).toNat else l.length
theorem firstAt_le (l : List UInt8) (c : UInt8) : firstAt l c ≤ l.length := by
  unfold firstAt; have := indexByte_lt l c; split <;> omega
theorem firstAt_cons (b : UInt8) (l : List UInt8) (c : UInt8) : firstAt (b :: l) c = if b = c then 0 else firstAt l c + 1 := by
  have hg := Lib.indexByte_ge l c
  have hc : Lib.indexByte (b :: l) c = if (b == c) = true then 0 else if (Lib.indexByte l c == -1) = true then -1 else Lib.indexByte l c + 1 := rfl
  unfold firstAt
  rw [hc]
  by_cases e : b = c
  · subst e; simp
  · have e1 : ¬ (b == c) = true := by simpa using e
    rw [if_neg e, if_neg e1]
    by_cases e2 : (Lib.indexByte l c == -1) = true
    · rw [if_pos e2]; have := beq_iff_eq.1 e2; rw [if_neg (by omega), if_neg (by omega)]; rfl
    · rw [if_neg e2]; have : ¬ Lib.indexByte l c = -1 := fun h => e2 (by simp [h])
      rw [if_pos (by omega), if_pos (by omega)]; omega
theorem aheadOf_first (l : List Int) (c : UInt8) : aheadOf l c = firstAt (Lib.bytesOf l) c := by
  unfold aheadOf firstAt; rw [Lib.bytesOf_length]

theorem zero_loop (s : ByteArray) (hs : s.size ≤ 140737488351232) (d : Nat) : ∀ (k i : Nat), i ≤ s.size → s.size - i = d → d < k → thwartref02_zero.l0 k s (i : Int) = some ((i + firstAt (s.data.toList.drop i) 0 : Nat) : Int) := by
  induction d with
  | zero =>
    intro k i h1 hd hk
    obtain ⟨k, rfl⟩ : ∃ m, k = m + 1 := ⟨k - 1, by omega⟩
    simp only [thwartref02_zero.l0]
    rw [if_neg (by omega), List.drop_of_length_le (by rw [← szL]; omega)]
    have : i = s.size := by omega
    subst this; rfl
  | succ d ih =>
    intro k i h1 hd hk
    obtain ⟨k, rfl⟩ : ∃ m, k = m + 1 := ⟨k - 1, by omega⟩
    have hi : i < s.data.toList.length := by rw [← szL]; omega
    simp only [thwartref02_zero.l0]
    have hz := bt_zero s i hi 0
    rw [show (((0 : UInt8).toNat : Nat) : Int) = 0 from rfl] at hz
    rw [if_pos (by omega), if_pos (by omega), List.drop_eq_getElem_cons hi, firstAt_cons]
    by_cases e : s.data.toList[i] = 0
    · rw [if_pos (hz.2 e), if_pos e]; rfl
    · rw [if_neg (fun h => e (hz.1 h)), if_neg e, wrap_small (by omega) (by omega)]
      have := ih k (i + 1) (by omega) (by omega) (by omega)
      rw [show ((i : Int) + 1) = ((i + 1 : Nat) : Int) by omega, this]
      congr 1; omega
theorem zero_is (s : ByteArray) (hs : s.size ≤ 140737488351232) (k : Nat) (hk : s.size < k) : thwartref02_zero.f k s = some ((firstAt s.data.toList 0 : Nat) : Int) := by
  have := zero_loop s hs s.size k 0 (Nat.zero_le _) (by omega) hk
  simpa [thwartref02_zero.f] using this

theorem refLoose (l : List Int) (hl : l.length ≤ 1000) (k : Nat) (hk : 1005 ≤ k) : thwartref02_Loose.f k l = strf_Loose.f l := by
  unfold thwartref02_Loose.f strf_Loose.f
  have hz : (strOfNums l).size = l.length := strOfNums_size l
  have hd : (strOfNums l).data.toList = Lib.bytesOf l := rfl
  have hle := firstAt_le (Lib.bytesOf l) 0
  rw [Lib.bytesOf_length] at hle
  rw [zero_is _ (by omega) k (by omega), hd]
  simp only [Option.bind_some]
  rw [if_pos (by omega), if_pos (by omega), aheadOf_first, Int.toNat_natCast]
  congr 1
  apply ext_list
  rw [extL, List.drop_zero, Nat.sub_zero, numsL, numsL]
  unfold Lib.bytesOf
  rw [List.map_take]

theorem get_loop (l : List Int) (s : ByteArray) (hl : l.length ≤ 1000) (d : Nat) : ∀ (k i : Nat), i ≤ l.length → l.length - i = d → d < k →
    thwartref02_Get.l0 k l s (i : Int) = if 0 < (skip 0 (l.drop i)).length then some (⟨#[]⟩, 3) else some (s, 0) := by
  induction d with
  | zero =>
    intro k i h1 hd hk
    obtain ⟨k, rfl⟩ : ∃ m, k = m + 1 := ⟨k - 1, by omega⟩
    simp only [thwartref02_Get.l0]
    rw [if_neg (by omega), List.drop_of_length_le (by omega)]; rfl
  | succ d ih =>
    intro k i h1 hd hk
    obtain ⟨k, rfl⟩ : ∃ m, k = m + 1 := ⟨k - 1, by omega⟩
    have hi : i < l.length := by omega
    have hr : rd l (i : Int) = l[i] := by simp [rd, List.getD_eq_getElem?_getD, hi]
    simp only [thwartref02_Get.l0]
    rw [if_pos (by omega), if_pos (by omega), hr, List.drop_eq_getElem_cons hi]
    by_cases e : l[i] = 0
    · rw [if_pos e, show skip 0 (l[i] :: l.drop (i + 1)) = skip 0 (l.drop (i + 1)) by simp [skip, e], Q.wrap_small (by omega) (by omega), show ((i : Int) + 1) = ((i + 1 : Nat) : Int) by omega]
      exact ih k (i + 1) (by omega) (by omega) (by omega)
    · rw [if_neg e, show skip 0 (l[i] :: l.drop (i + 1)) = l[i] :: l.drop (i + 1) by simp [skip, e], if_pos (by simp only [List.length_cons]; omega)]

theorem refGet (l : List Int) (hl : l.length ≤ 1000) (k : Nat) (hk : 1005 ≤ k) : thwartref02_Get.f k l = strf_Get.f l := by
  unfold thwartref02_Get.f
  rw [refLoose l hl k hk]
  have hle := aheadOf_le l 0
  have hz : (strOfNums (l.take (aheadOf l 0))).size = aheadOf l 0 := by rw [Hand.strOfNums_size, List.length_take]; omega
  simp only [strf_Loose.f, Option.bind_some]
  rw [hz, get_loop l _ hl (l.length - aheadOf l 0) k _ hle rfl (by omega)]
  rfl

theorem put_get (s : ByteArray) (width : Int) (b : List Int) (e : Int) (h : strf_Put.f s width = some (b, e)) (h0 : e = 0) : strf_Get.f b = some (s, 0) ∧ (b.length : Int) = width := by
  unfold strf_Put.f at h
  split at h
  · cases h; cases h0
  split at h
  · cases h; cases h0
  split at h
  · cases h; cases h0
  split at h
  · cases h; cases h0
  rename_i c1 c2 c3 c4
  simp only [Option.some.injEq, Prod.mk.injEq] at h
  obtain ⟨rfl, -⟩ := h
  obtain ⟨n, rfl⟩ : ∃ n : Nat, width = (s.size : Int) + n := ⟨(width - s.size).toNat, by omega⟩
  have hz : (List.replicate ((s.size : Int) + n).toNat (0 : Int)).drop s.size = List.replicate n 0 := by
    rw [List.drop_replicate]; congr 1; omega
  rw [hz]
  have hbl : (bytesOf s).length = s.size := bytesOf_length s
  have hno : (0 : UInt8) ∉ s.data.toList := (index_none _ _).1 (by omega)
  have hb : Lib.bytesOf (bytesOf s ++ List.replicate n 0) = s.data.toList ++ List.replicate n 0 := by
    have := bytes_bytes s
    unfold Lib.bytesOf at this ⊢
    rw [List.map_append, this]; simp
  have ha : aheadOf (bytesOf s ++ List.replicate n 0) 0 = s.size := by
    unfold aheadOf
    rw [hb]
    cases n with
    | zero =>
      rw [List.replicate_zero, List.append_nil, if_neg (by have := (index_none s.data.toList 0).2 hno; omega)]
      simp [hbl]
    | succ n =>
      rw [List.replicate_succ, index_at _ _ _ hno, if_pos (by omega), szL]; simp
  refine ⟨?_, by rw [List.length_append, List.length_replicate, hbl]; omega⟩
  unfold strf_Get.f
  have hsk : ∀ m, skip 0 (List.replicate m 0) = [] := by
    intro m; induction m with
    | zero => rfl
    | succ m ih => rw [List.replicate_succ]; simp [skip, ih]
  rw [ha, List.drop_left' hbl, List.take_left' hbl, hsk, nums_bytes]
  rfl

end Go.Proofs.YthjljkdiglpbaaaDoor.Q

-- QHead
/- Plain facts on headers: head.Parse answers as the document's Parse, for all bytes. -/
namespace Go.Proofs.YthjljkdiglpbaaaDoor.Q5
open Go.RowKit Go.Proofs.YthjljkdiglpbaaaDoor.P Go.Proofs.YthjljkdiglpbaaaDoor.Hand Go.Proofs.YthjljkdiglpbaaaDoor.Q3 Go.Proofs.YthjljkdiglpbaaaDoorW.PrintWords Go.Proofs.YthjljkdiglpbaaaDoorW.PrintLast
set_option linter.unusedVariables false
set_option linter.unusedSimpArgs false

theorem u8_ok5 (x : Int) (h : (Lit.int .u8 x).wf = true) : 0 ≤ x ∧ x < 256 := by
  simp [Lit.wf] at h
  have h1 : IntKind.u8.min = 0 := by decide +kernel
  have h2 : IntKind.u8.max = 255 := by decide +kernel
  omega
theorem prefix_iff (xs ys : List UInt8) : Lib.hasPrefix xs ys = true ↔ xs.take ys.length = ys := by
  show ys.isPrefixOf xs = true ↔ _
  rw [List.isPrefixOf_iff_prefix]
  constructor
  · rintro ⟨t, rfl⟩; rw [List.take_left']; rfl
  · intro h
    refine ⟨xs.drop ys.length, ?_⟩
    have := List.take_append_drop ys.length xs
    rw [h] at this; exact this
theorem magic_iff (l : List Int) : Lib.hasPrefix (Lib.bytesOf (l.drop 257)) magicL = true ↔ (strOfNums (cutAt l 257 265)).toList = magicL := by
  rw [prefix_iff, Q.toL, Q.numsL]
  have : (Lib.bytesOf (l.drop 257)).take magicL.length = Lib.bytesOf (cutAt l 257 265) := by
    unfold Lib.bytesOf cutAt
    rw [← List.map_take, List.drop_take]; rfl
  rw [this]
theorem isType_same (x : Int) : thwartref05_IsType.f x = head_IsType.f x := by
  unfold thwartref05_IsType.f head_IsType.f
  repeat (split; rfl)
  split
  · rename_i h; rw [h]; rfl
  · rename_i h; rw [beq_eq_false_iff_ne.2 h]
theorem isType_some (x : Int) : ∃ b, head_IsType.f x = some b := by
  unfold head_IsType.f
  repeat (split; exact ⟨_, rfl⟩)
  exact ⟨_, rfl⟩
theorem below_same (a b : ByteArray) (c d e f g h : Int) (i : ByteArray) : thwartref05_below.f a b c d e f g h i = head_below.f a b c d e f g h i := by
  unfold thwartref05_below.f head_below.f
  have hm : ∀ x y : Int, mn x y < 0 ↔ x < 0 ∨ y < 0 := by intro x y; unfold mn; split <;> omega
  by_cases h1 : c < 0
  · rw [if_pos h1, decide_eq_true (by simp only [hm]; omega)]
  rw [if_neg h1]
  by_cases h2 : d < 0
  · rw [if_pos h2, decide_eq_true (by simp only [hm]; omega)]
  rw [if_neg h2]
  by_cases h3 : e < 0
  · rw [if_pos h3, decide_eq_true (by simp only [hm]; omega)]
  rw [if_neg h3]
  congr 1
  simp only [hm]
  exact decide_eq_decide.2 (by omega)
theorem firstE_zero (a b : Int) : firstE a b = 0 ↔ a = 0 ∧ b = 0 := by
  unfold firstE; split
  · rename_i h; exact ⟨fun e => ⟨h, e⟩, fun e => e.2⟩
  · rename_i h; exact ⟨fun e => absurd e h, fun e => e.1⟩
theorem strGet_some (l : List Int) : ∃ p, strf_Get.f l = some p := by
  unfold strf_Get.f; split <;> exact ⟨_, rfl⟩
theorem cut_len (l : List Int) (a b : Nat) (h : l.length = 512) : (cutAt l a b).length ≤ 1000 := by
  unfold cutAt; rw [List.length_drop, List.length_take]; omega
theorem cut_bytes (l : List Int) (a b : Nat) (h : Bytes l) : Bytes (cutAt l a b) := fun x hx => h x (List.mem_of_mem_take (List.mem_of_mem_drop hx))

theorem same_parse (l : List Int) (hb : Bytes l) (k : Nat) (hk : 1100 ≤ k) : ∃ v, head_Parse.f k l = some v ∧ ref05_Parse.f k l = some v := by
  by_cases hl : l.length = 512
  case neg =>
    have h' : ¬ (l.length : Int) = 512 := by omega
    have c1 : hsum_Check.f k l = some 1 := by
      have h2 : hsum_Told.f l = some (0, 1) := by unfold hsum_Told.f; rw [if_neg h']
      unfold hsum_Check.f; rw [h2]; rfl
    have c2 : thwartref03_Check.f k l = some 1 := by
      have h3 : thwartref03_Told.f k l = some (0, 1) := by unfold thwartref03_Told.f; rw [if_neg h']
      unfold thwartref03_Check.f; rw [h3]; rfl
    unfold head_Parse.f ref05_Parse.f
    rw [c1, c2]
    exact ⟨_, rfl, rfl⟩
  obtain ⟨r, c1, c2⟩ := check_same l hl hb k (by omega)
  unfold head_Parse.f ref05_Parse.f
  rw [c1, c2, Option.bind_some, Option.bind_some]
  by_cases hr : r = 0
  case neg => rw [if_neg hr, if_neg hr]; exact ⟨_, rfl, rfl⟩
  rw [if_pos hr, if_pos hr, if_pos hl, if_pos hl]
  by_cases hm : (strOfNums (cutAt l 257 265)).toList = magicL
  case neg => rw [if_neg hm, if_neg (fun e => hm ((magic_iff l).1 e))]; exact ⟨_, rfl, rfl⟩
  rw [if_pos hm, if_pos ((magic_iff l).2 hm)]
  obtain ⟨⟨p, pe⟩, hp⟩ := strGet_some (cutAt l 345 500)
  obtain ⟨⟨n, ne⟩, hn⟩ := strGet_some (cutAt l 0 100)
  obtain ⟨⟨q, qe⟩, hq⟩ := strGet_some (cutAt l 157 257)
  obtain ⟨x0, e0, h0, g0⟩ := Q4.get_same (cutAt l 100 108) (cut_len l _ _ hl) (cut_bytes l _ _ hb) k (by omega)
  obtain ⟨x1, e1, h1, g1⟩ := Q4.get_same (cutAt l 108 116) (cut_len l _ _ hl) (cut_bytes l _ _ hb) k (by omega)
  obtain ⟨x2, e2, h2, g2⟩ := Q4.get_same (cutAt l 116 124) (cut_len l _ _ hl) (cut_bytes l _ _ hb) k (by omega)
  obtain ⟨x3, e3, h3, g3⟩ := Q4.get_same (cutAt l 124 136) (cut_len l _ _ hl) (cut_bytes l _ _ hb) k (by omega)
  obtain ⟨x4, e4, h4, g4⟩ := Q4.get_same (cutAt l 136 148) (cut_len l _ _ hl) (cut_bytes l _ _ hb) k (by omega)
  obtain ⟨b, ht⟩ := isType_some (typeOf l)
  rw [Q.refGet _ (cut_len l _ _ hl) k (by omega), Q.refGet _ (cut_len l _ _ hl) k (by omega), Q.refGet _ (cut_len l _ _ hl) k (by omega)]
  unfold head_fields
  rw [hp, hn, hq, h0, h1, h2, h3, h4, isType_same]
  simp only [Option.bind_some, ht, numPairs, ref_nums, g0, g1, g2, g3, g4]
  by_cases z1 : pe = 0
  case neg =>
    have f : ∀ a, firstE pe a = pe := fun a => if_neg z1
    have f0 : firstE 0 pe = pe := if_pos rfl
    simp only [f0, f, if_neg z1]; exact ⟨_, rfl, rfl⟩
  subst z1
  rw [show ∀ a, firstE (firstE 0 0) a = a from fun a => if_pos rfl, if_pos rfl]
  have fz : ∀ a, firstE 0 a = a := fun a => if_pos rfl
  by_cases z2 : ne = 0
  case neg =>
    have f : ∀ a, firstE ne a = ne := fun a => if_neg z2
    simp only [fz, f, if_neg z2]; exact ⟨_, rfl, rfl⟩
  subst z2
  by_cases z3 : qe = 0
  case neg =>
    have f : ∀ a, firstE qe a = qe := fun a => if_neg z3
    simp only [fz, f, if_neg z3, if_true]; exact ⟨_, rfl, rfl⟩
  subst z3
  by_cases y0 : e0 = 0
  case neg =>
    have f : ∀ a, firstE e0 a = e0 := fun a => if_neg y0
    simp only [fz, f, if_neg y0, if_true, Option.bind_some]; exact ⟨_, rfl, rfl⟩
  subst y0
  by_cases y1 : e1 = 0
  case neg =>
    have f : ∀ a, firstE e1 a = e1 := fun a => if_neg y1
    simp only [fz, f, if_neg y1, if_true, Option.bind_some]; exact ⟨_, rfl, rfl⟩
  subst y1
  by_cases y2 : e2 = 0
  case neg =>
    have f : ∀ a, firstE e2 a = e2 := fun a => if_neg y2
    simp only [fz, f, if_neg y2, if_true, Option.bind_some]; exact ⟨_, rfl, rfl⟩
  subst y2
  by_cases y3 : e3 = 0
  case neg =>
    have f : ∀ a, firstE e3 a = e3 := fun a => if_neg y3
    simp only [fz, f, if_neg y3, if_true, Option.bind_some]; exact ⟨_, rfl, rfl⟩
  subst y3
  by_cases y4 : e4 = 0
  case neg =>
    simp only [fz, if_neg y4, if_true, Option.bind_some]; exact ⟨_, rfl, rfl⟩
  subst y4
  simp only [fz, if_true, Option.bind_some, List.nil_append, List.cons_append]
  rw [below_same]
  cases b
  · exact ⟨_, rfl, rfl⟩
  · rw [if_pos rfl, if_pos rfl]
    simp only [head_below.f, Option.bind_some]
    have rr : rd [x0, x1, x2, x3, x4] 0 = x0 ∧ rd [x0, x1, x2, x3, x4] 1 = x1 ∧ rd [x0, x1, x2, x3, x4] 2 = x2 ∧ rd [x0, x1, x2, x3, x4] 3 = x3 ∧ rd [x0, x1, x2, x3, x4] 4 = x4 := ⟨rfl, rfl, rfl, rfl, rfl⟩
    rw [rr.1, rr.2.1, rr.2.2.1, rr.2.2.2.1, rr.2.2.2.2]
    split <;> exact ⟨_, rfl, rfl⟩
theorem same_self (p n : ByteArray) (m u g t s y : Int) (q : ByteArray) : head_Same.f p n m u g t s y q p n m u g t s y q = some true := by
  unfold head_Same.f
  simp only [beq_self_eq_true, Bool.and_self]
theorem alive5_k (k : Nat) (hk : 2000 ≤ k) : thwartlaw05_alive.f k = some true := by
  obtain ⟨d, rfl⟩ : ∃ d, k = 2000 + d := ⟨k - 2000, by omega⟩
  clear hk
  induction d with
  | zero => decide +kernel
  | succ d ih => exact thwartlaw05_alive.mono (2000 + d) true ih
end Go.Proofs.YthjljkdiglpbaaaDoor.Q5

-- PureHeadParses
/- The pure statement of HeadParses: the header of any bytes, as they are, or with their sum, is the document's, or refused. For every input. -/
namespace Go.Proofs.YthjljkdiglpbaaaDoor.Pure
open Go.RowKit Go.Proofs.YthjljkdiglpbaaaDoor.P Go.Proofs.YthjljkdiglpbaaaDoor.Hand Go.Proofs.YthjljkdiglpbaaaDoor.Q3 Go.Proofs.YthjljkdiglpbaaaDoor.Q5 Go.Proofs.YthjljkdiglpbaaaDoorW.PrintWords Go.Proofs.YthjljkdiglpbaaaDoorW.PrintLast
set_option linter.unusedVariables false
set_option linter.unusedSimpArgs false

theorem rest_is (l : List Int) (hb : Bytes l) (k : Nat) (hk : 2000 ≤ k) : thwartlaw05_HeadParses.rest k l = some true := by
  obtain ⟨⟨p, n, m, u, g, t, s, y, q, e⟩, h1, h2⟩ := same_parse l hb k (by omega)
  unfold thwartlaw05_HeadParses.rest
  rw [h1, h2]
  simp only [Option.bind_some, thwartlaw05_theirs.f, same_self, if_true, alive5_k k hk]
theorem HeadParses : P.thwartlaw05_HeadParses.Pure := by
  intro l a hl hl2 hw
  have hb : Bytes l := fun x hx => u8_ok5 x (hw x hx)
  refine ⟨2000, ?_⟩
  unfold thwartlaw05_HeadParses.f
  by_cases c : (l.length : Int) > 1000
  · rw [if_pos c, alive5_k _ (by omega)]; rfl
  rw [if_neg c]
  by_cases c2 : a = true ∧ (l.length : Int) = 512
  · rw [if_pos c2, ref_put l (by have := c2.2; omega) hb 2000 (by omega), Option.bind_some]
    exact rest_is _ (P_bytes l hb) _ (by omega)
  · rw [if_neg c2]
    exact rest_is l hb _ (by omega)
end Go.Proofs.YthjljkdiglpbaaaDoor.Pure

-- WSized
-- PRINTED BY print.sh 35421559b90ae4d0a3588c463048766b98c2df88dd9212a6774a882060cdf62d: not written by this session
-- PRINTED WORDS (module Derived/Print/Sized.lean): go-gate-2's, for the rows of laws over slices: an AI agent of Go's test side, Tue Nov 17 2026; no person has read it. Lean checks it.
namespace Go.Proofs.YthjljkdiglpbaaaDoorW.PrintWords
open Go.ChangeShapes Go.WideShapes
/-- A row's slice of whole numbers is no longer than its weight allows. -/
theorem sized_ints {H : Type} {enc : TypeId × Value → H} {P : Program} {W : World} {base : Nat} {spare : Nat → Bool} {held : Bool} {t e : TypeId} {k : IntKind} {a : Option Addr} {len cap : Nat} {d : DataW H} {ps : List MemPlace} {ts : List TypeId} {ds : List (DataW H)} {j : Nat}
    (hsz : (DataW.weightsEach P ts ds).all (· ≤ reachBytes) = true) (ht : ts[j]? = some t) (hd : ds[j]? = some d) (hu : P.underlying t = some (.slice e)) (he : P.underlying e = some (.int k)) (hc : P.cellsOf e = 1) {B : Nat} (hB : P.bytesOf e = B)
    (h : DataW.Trod enc P W base spare held t (.slice a len cap) d ps) : len * B ≤ 140737488351232 := by
  obtain ⟨fuel, hf⟩ := h
  rcases open_ints hu he hc hf with ⟨hcs, _⟩ | ⟨x, l, c, zs, hcs, _, hl, _, hz, hx, _, _⟩
  · simp [Value.cells] at hcs
    obtain ⟨rfl, rfl, rfl⟩ := hcs
    simp
  · simp [Value.cells] at hcs
    obtain ⟨rfl, rfl, rfl⟩ := hcs
    obtain ⟨hx, _⟩ := Prod.mk.inj hx
    subst hx
    have z := sized_slice hsz ht hd hu
    rw [hB] at z
    have hl2 : len ≤ zs.length := by
      rw [hz]
      split
      · exact hl
      · exact Nat.le_refl _
    have h1 : (lits (H := H) k (zs.take len)).length + (lits (H := H) k (zs.drop len)).length = zs.length := by
      simp [lits]
      omega
    rw [h1] at z
    exact Nat.le_trans (Nat.mul_le_mul_right _ hl2) z
end Go.Proofs.YthjljkdiglpbaaaDoorW.PrintWords
