import Derived.Test.YtjidenkhgeoaiaaGreatDoorCW4
/- Contract, by hand, of head.Parse. -/
namespace Go.Proofs.YtjidenkhgeoaiaaGreatDoor.Hand
open Go.RowKit Go.Proofs.YtjidenkhgeoaiaaGreatDoor.P Go.Proofs.YtjidenkhgeoaiaaGreatDoorW Go.Proofs.YtjidenkhgeoaiaaGreatDoorW.PrintWords Go.Proofs.YtjidenkhgeoaiaaGreatDoorW.PrintLast Go.Proofs.YtjidenkhgeoaiaaGreatDoorW.PrintMore
set_option linter.unusedVariables false
set_option linter.unusedSimpArgs false

def magicL : List UInt8 := [117, 115, 116, 97, 114, 0, 48, 48]
abbrev Head := ByteArray × ByteArray × Int × Int × Int × Int × Int × Int × ByteArray × Int
def noHead (e : Int) : Head := ((⟨#[]⟩ : ByteArray), (⟨#[]⟩ : ByteArray), 0, 0, 0, 0, 0, 0, (⟨#[]⟩ : ByteArray), e)
def cutAt (l : List Int) (a b : Nat) : List Int := (l.take b).drop a
theorem drawn_below {w w' : World} (h : Drawn0 w w') : Below w.heap.size w w' := by
  obtain ⟨n, rfl⟩ := h
  exact pw_below_drewN (Below.refl _ _) n
def typeOf (l : List Int) : Int := if rd l 156 = 0 then 48 else rd l 156
/-- What the fields are, if the sum and the magic are right. -/
def head_fields (l : List Int) : Option (ByteArray × ByteArray × ByteArray × Int × Int × Int × Int × Int × Int) :=
  (strf_Get.f (cutAt l 345 500)).bind fun p => (strf_Get.f (cutAt l 0 100)).bind fun n => (strf_Get.f (cutAt l 157 257)).bind fun k => (numf_Get.f (cutAt l 100 108)).bind fun m => (numf_Get.f (cutAt l 108 116)).bind fun u => (numf_Get.f (cutAt l 116 124)).bind fun g => (numf_Get.f (cutAt l 124 136)).bind fun s => (numf_Get.f (cutAt l 136 148)).bind fun t =>
    some (p.1, n.1, k.1, m.1, u.1, g.1, s.1, t.1, (firstE (firstE (firstE (firstE (firstE (firstE (firstE (firstE 0 p.2) n.2) k.2) m.2) u.2) g.2) s.2) t.2))
def head_Parse.f (k : Nat) (l : List Int) : Option Head :=
  (hsum_Check.f k l).bind fun e => if e = 0 then (if l.length = 512 then (if Lib.hasPrefix (Lib.bytesOf (l.drop 257)) magicL = true then
    (head_fields l).bind fun (p, n, k, m, u, g, s, t, e) => if e = 0 then (head_IsType.f (typeOf l)).bind fun b => (if b = true then (head_below.f p n m u g t s (typeOf l) k).bind fun c => (if c = true then some (noHead 10) else some (p, n, m, u, g, t, s, typeOf l, k, 0)) else some (noHead 11)) else some (noHead e)
    else some (noHead 3)) else none) else some (noHead e)

set_option maxHeartbeats 16000000 in
set_option maxRecDepth 1000000 in
theorem head_Parse.calls (k : Nat) (A0 : Option Addr) (c0 : Nat) (l0 : List Int) (r1 r2 : ByteArray) (r3 r4 r5 r6 r7 r8 : Int) (r9 : ByteArray) (r10 : Int) (w : World) (hr0 : Kd.C (Kd.int .u8) w A0 l0.length l0) (hc0 : l0.length ≤ c0) (h : head_Parse.f k l0 = some (r1, r2, r3, r4, r5, r6, r7, r8, r9, r10)) :
    Calls Tryz.prog 18 #[.slice A0 l0.length c0] w fun e w' => e = .returned (.tuple #[.agg #[.string r1, .string r2, .int .i64 r3, .int .i64 r4, .int .i64 r5, .int .i64 r6, .int .i64 r7, .int .u8 r8, .string r9], .int .i64 r10]) ∧ Below w.heap.size w w' := by
  have hu57 := Tryz.underlying43
  have HR0 := Aside0.mk hr0
  have HC0 := Aside0.mk hc0
  obtain ⟨e0, hK, h⟩ := Option.bind_eq_some_iff.1 h
  have HK := Aside0.mk hK
  clear hK hr0 hc0
  by_cases c0_ : ¬ e0 = 0
  · rw [if_neg c0_] at h
    unfold noHead at h
    simp only [Option.some.injEq, Prod.mk.injEq] at h
    obtain ⟨rfl, rfl, rfl, rfl, rfl, rfl, rfl, rfl, rfl, rfl⟩ := h
    have b1 : (e0 != 0) = true := bne_iff_ne.2 c0_
    clear c0_
    go_enter Tryz.func18, Tryz.ntmps18
    go_wp2_with (first | ((with_reducible refine gate_dst (N := 2) rfl ?_); refine box_event ?hg (N := 2) ?hd (cs := #[.string (⟨#[]⟩ : ByteArray), .string (⟨#[]⟩ : ByteArray), .int .i64 0, .int .i64 0, .int .i64 0, .int .i64 0, .int .i64 0, .int .u8 0, .string (⟨#[]⟩ : ByteArray)]) (t := 43) ?hr ?_; (case hd => rfl); (case hg => rfl); (case hr => first | (go_simp; done) | (go_simp; rfl)); intro gg hg w1 hbox hb; have HB := Aside0.mk hb; have BG := Aside0.mk hbox; have GG := Aside0.mk (Nat.le_of_eq hg.symm); clear hb hbox hg) | (go_at_call 34; (with_reducible refine (hsum_Check.calls k _ c0 l0 e0 _ (Kd.C_below HR0.out HB.out) HC0.out HK.out).mono ?_); rintro e w2 ⟨rfl, hb⟩; have n0_ := Aside0.mk (below_step HB.out hb); have n1_ := Aside0.mk (blk_below BG.out hb); clear HB BG hb; have HB := n0_; have BG := n1_; clear n0_ n1_; obtain ⟨hg0, hg1, hg2, hg3, hg4, hg5, hg6, hg7, hg8, fg0, fg1, fg2, fg3, fg4, fg5, fg6, fg7, fg8⟩ := blk_all9 BG.out))
    refine bodyPost_ret (results_ct rfl _ _ gg 43 #[.string (⟨#[]⟩ : ByteArray), .string (⟨#[]⟩ : ByteArray), .int .i64 0, .int .i64 0, .int .i64 0, .int .i64 0, .int .i64 0, .int .u8 0, .string (⟨#[]⟩ : ByteArray)] (0, 0) _ rfl (blk_set (blk_set (blk_set (blk_set (blk_set (blk_set (blk_set (blk_set (blk_set BG.out 0 (.string (⟨#[]⟩ : ByteArray))) 1 (.string (⟨#[]⟩ : ByteArray))) 2 (.int .i64 0)) 3 (.int .i64 0)) 4 (.int .i64 0)) 5 (.int .i64 0)) 6 (.int .i64 0)) 7 (.int .u8 0)) 8 (.string (⟨#[]⟩ : ByteArray))) Tryz.underlying43 rfl (by kernel_rfl)) rfl ?_
    exact ⟨rfl, (below_set (below_set (below_set (below_set (below_set (below_set (below_set (below_set (below_set HB.out GG.out) GG.out) GG.out) GG.out) GG.out) GG.out) GG.out) GG.out) GG.out)⟩
  have c0_' := Decidable.of_not_not c0_
  subst c0_'
  clear c0_
  rw [if_pos rfl] at h
  split at h
  case isFalse => cases h
  rename_i hlen
  have HL := Aside0.mk hlen
  clear hlen
  obtain ⟨i5, hi5, hz5, hs5, hb5⟩ := info_parts info5
  obtain ⟨A7, hcut, hA7, hC7⟩ := print_drop_of (P := Tryz.prog) (Value.int .u8) (0 : Int) 31 5 .i64 Tryz.underlying31 hi5 hs5 A0 c0 l0 257 (by decide) (by have := HL.out; omega) HC0.out
  have HR7 := Aside0.mk (Kd.C_of_reads (h1 := fun _ => rfl) (hA7 w (Kd.reads_of_C (enc := Value.int .u8) (d := (0 : Int)) (h1 := fun _ => rfl) HR0.out)))
  have HC7 := Aside0.mk hC7
  rw [show ((257 : Int)).toNat = 257 from rfl] at hcut HR7 HC7
  have HP : Aside0 (∃ m, m = l0.drop 257) := ⟨_, rfl⟩
  clear hA7 hC7 hz5 hs5 hb5
  generalize hm7 : l0.drop 257 = m7 at hcut HR7 HC7 h
  clear hm7 HP
  have kc := fun W : World => Lib.run_convert_bytes_const (P := Tryz.prog) W 31 5 #[.int .u8 117, .int .u8 115, .int .u8 116, .int .u8 97, .int .u8 114, .int .u8 0, .int .u8 48, .int .u8 48] 8 8 Tryz.underlying31 Tryz.underlying5
  have hml : Lib.bytesOf ([117, 115, 116, 97, 114, 0, 48, 48] : List Int) = magicL := rfl
  by_cases cx : Lib.hasPrefix (Lib.bytesOf m7) magicL = true
  case neg =>
    rw [if_neg cx] at h
    unfold noHead at h
    simp only [Option.some.injEq, Prod.mk.injEq] at h
    obtain ⟨rfl, rfl, rfl, rfl, rfl, rfl, rfl, rfl, rfl, rfl⟩ := h
    have HX := Aside0.mk (show Lib.hasPrefix (Lib.bytesOf m7) (Lib.bytesOf ([117, 115, 116, 97, 114, 0, 48, 48] : List Int)) = false by rw [hml]; simpa using cx)
    clear cx hml
    go_enter Tryz.func18, Tryz.ntmps18
    go_wp2_with (first | ((with_reducible refine gate_dst (N := 2) rfl ?_); refine box_event ?hg (N := 2) ?hd (cs := #[.string (⟨#[]⟩ : ByteArray), .string (⟨#[]⟩ : ByteArray), .int .i64 0, .int .i64 0, .int .i64 0, .int .i64 0, .int .i64 0, .int .u8 0, .string (⟨#[]⟩ : ByteArray)]) (t := 43) ?hr ?_; (case hd => rfl); (case hg => rfl); (case hr => first | (go_simp; done) | (go_simp; rfl)); intro gg hg w1 hbox hb; have HB := Aside0.mk hb; have BG := Aside0.mk hbox; have GG := Aside0.mk (Nat.le_of_eq hg.symm); clear hb hbox hg) | (go_at_call 34; (with_reducible refine (hsum_Check.calls k _ c0 l0 0 _ (Kd.C_below HR0.out HB.out) HC0.out HK.out).mono ?_); rintro e w2 ⟨rfl, hb⟩; have n0_ := Aside0.mk (below_step HB.out hb); have n1_ := Aside0.mk (blk_below BG.out hb); clear HB BG hb; have HB := n0_; have BG := n1_; clear n0_ n1_; obtain ⟨hg0, hg1, hg2, hg3, hg4, hg5, hg6, hg7, hg8, fg0, fg1, fg2, fg3, fg4, fg5, fg6, fg7, fg8⟩ := blk_all9 BG.out) | (go_at_call 35; (with_reducible refine (hasPrefix_C A7 _ (c0 - 257) 8 8 m7 ([117, 115, 116, 97, 114, 0, 48, 48] : List Int) false _ HC7.out rfl ?side1 ?side2 ?side3).mono ?_); (case side1 => refine Kd.C_alloc ?_ _; exact Kd.C_below HR7.out HB.out); (case side2 => exact (C_lit w2 ([117, 115, 116, 97, 114, 0, 48, 48] : List Int) (by decide) 5 (8, 9))); (case side3 => exact HX.out); rintro e w3 ⟨rfl, rfl⟩; have n0_ := Aside0.mk (below_alloc HB.out (.cells #[.int .u8 117, .int .u8 115, .int .u8 116, .int .u8 97, .int .u8 114, .int .u8 0, .int .u8 48, .int .u8 48] 5 (8, 9))); have n1_ := Aside0.mk (blk_alloc BG.out (.cells #[.int .u8 117, .int .u8 115, .int .u8 116, .int .u8 97, .int .u8 114, .int .u8 0, .int .u8 48, .int .u8 48] 5 (8, 9))); clear HB BG; have HB := n0_; have BG := n1_; clear n0_ n1_; obtain ⟨hg0, hg1, hg2, hg3, hg4, hg5, hg6, hg7, hg8, fg0, fg1, fg2, fg3, fg4, fg5, fg6, fg7, fg8⟩ := blk_all9 BG.out))
    refine bodyPost_ret (results_ct rfl _ _ gg 43 #[.string (⟨#[]⟩ : ByteArray), .string (⟨#[]⟩ : ByteArray), .int .i64 0, .int .i64 0, .int .i64 0, .int .i64 0, .int .i64 0, .int .u8 0, .string (⟨#[]⟩ : ByteArray)] (0, 0) _ rfl (blk_set (blk_set (blk_set (blk_set (blk_set (blk_set (blk_set (blk_set (blk_set BG.out 0 (.string (⟨#[]⟩ : ByteArray))) 1 (.string (⟨#[]⟩ : ByteArray))) 2 (.int .i64 0)) 3 (.int .i64 0)) 4 (.int .i64 0)) 5 (.int .i64 0)) 6 (.int .i64 0)) 7 (.int .u8 0)) 8 (.string (⟨#[]⟩ : ByteArray))) Tryz.underlying43 rfl (by kernel_rfl)) rfl ?_
    exact ⟨rfl, (below_set (below_set (below_set (below_set (below_set (below_set (below_set (below_set (below_set HB.out GG.out) GG.out) GG.out) GG.out) GG.out) GG.out) GG.out) GG.out) GG.out)⟩
  rw [if_pos cx] at h
  have HX := Aside0.mk (show Lib.hasPrefix (Lib.bytesOf m7) (Lib.bytesOf ([117, 115, 116, 97, 114, 0, 48, 48] : List Int)) = true by rw [hml]; exact cx)
  clear cx hml
  obtain ⟨⟨p1, n1, k1, m1, u1, g1, s1, t1, E8⟩, hF, h⟩ := Option.bind_eq_some_iff.1 h
  unfold head_fields at hF
  obtain ⟨⟨p_, p2⟩, hp, hF⟩ := Option.bind_eq_some_iff.1 hF
  unfold cutAt at hp
  have Hp := Aside0.mk hp
  clear hp
  obtain ⟨⟨n_, n2⟩, hn, hF⟩ := Option.bind_eq_some_iff.1 hF
  unfold cutAt at hn
  have Hn := Aside0.mk hn
  clear hn
  obtain ⟨⟨k_, k2⟩, hk, hF⟩ := Option.bind_eq_some_iff.1 hF
  unfold cutAt at hk
  have Hk := Aside0.mk hk
  clear hk
  obtain ⟨⟨m_, m2⟩, hm, hF⟩ := Option.bind_eq_some_iff.1 hF
  unfold cutAt at hm
  have Hm := Aside0.mk hm
  clear hm
  obtain ⟨⟨u_, u2⟩, hu, hF⟩ := Option.bind_eq_some_iff.1 hF
  unfold cutAt at hu
  have Hu := Aside0.mk hu
  clear hu
  obtain ⟨⟨g_, g2⟩, hg, hF⟩ := Option.bind_eq_some_iff.1 hF
  unfold cutAt at hg
  have Hg := Aside0.mk hg
  clear hg
  obtain ⟨⟨s_, s2⟩, hs, hF⟩ := Option.bind_eq_some_iff.1 hF
  unfold cutAt at hs
  have Hs := Aside0.mk hs
  clear hs
  obtain ⟨⟨t_, t2⟩, ht, hF⟩ := Option.bind_eq_some_iff.1 hF
  unfold cutAt at ht
  have Ht := Aside0.mk ht
  clear ht
  simp only [Option.some.injEq, Prod.mk.injEq] at hF
  obtain ⟨rfl, rfl, rfl, rfl, rfl, rfl, rfl, rfl, hE8⟩ := hF
  have HE8 := Aside0.mk hE8
  clear hE8
  dsimp only at h
  have hl156 : 156 < l0.length := by have := HL.out; omega
  obtain ⟨ab, ao, ea, hx156⟩ := C_at HR0.out 156 hl156
  cases ea
  rw [show l0[156] = rd l0 156 by unfold rd; simp [List.getD_eq_getElem?_getD, hl156]] at hx156
  clear hl156
  unfold typeOf at h
  generalize rd l0 156 = x7 at h hx156
  have HH := Aside0.mk h
  clear h
  have q156 : (156 : Int) < (l0.length : Int) := by have := HL.out; omega
  have Q156 := Aside0.mk q156
  replace q156 := eq_true q156
  go_enter Tryz.func18, Tryz.ntmps18
  go_wp2_with (first | ((with_reducible refine gate_dst (N := 2) rfl ?_); refine box_event ?hg (N := 2) ?hd (cs := #[.string (⟨#[]⟩ : ByteArray), .string (⟨#[]⟩ : ByteArray), .int .i64 0, .int .i64 0, .int .i64 0, .int .i64 0, .int .i64 0, .int .u8 0, .string (⟨#[]⟩ : ByteArray)]) (t := 43) ?hr ?_; (case hd => rfl); (case hg => rfl); (case hr => first | (go_simp; done) | (go_simp; rfl)); intro gg hg w1 hbox hb; have HB := Aside0.mk hb; have BG := Aside0.mk hbox; have GG := Aside0.mk (Nat.le_of_eq hg.symm); clear hb hbox hg) | (go_at_call 34; (with_reducible refine (hsum_Check.calls k _ c0 l0 0 _ (Kd.C_below HR0.out HB.out) HC0.out HK.out).mono ?_); rintro e w2 ⟨rfl, hb⟩; have n0_ := Aside0.mk (below_step HB.out hb); have n1_ := Aside0.mk (blk_below BG.out hb); clear HB BG hb; have HB := n0_; have BG := n1_; clear n0_ n1_; skip) | (go_at_call 35; (with_reducible refine (hasPrefix_C A7 _ (c0 - 257) 8 8 m7 ([117, 115, 116, 97, 114, 0, 48, 48] : List Int) true _ HC7.out rfl ?side1 ?side2 ?side3).mono ?_); (case side1 => refine Kd.C_alloc ?_ _; exact Kd.C_below HR7.out HB.out); (case side2 => exact (C_lit w2 ([117, 115, 116, 97, 114, 0, 48, 48] : List Int) (by decide) 5 (8, 9))); (case side3 => exact HX.out); rintro e w3 ⟨rfl, rfl⟩; have n0_ := Aside0.mk (below_alloc HB.out (.cells #[.int .u8 117, .int .u8 115, .int .u8 116, .int .u8 97, .int .u8 114, .int .u8 0, .int .u8 48, .int .u8 48] 5 (8, 9))); have n1_ := Aside0.mk (blk_alloc BG.out (.cells #[.int .u8 117, .int .u8 115, .int .u8 116, .int .u8 97, .int .u8 114, .int .u8 0, .int .u8 48, .int .u8 48] 5 (8, 9))); clear HB BG; have HB := n0_; have BG := n1_; clear n0_ n1_; have hx7 := (HB.out.cell (World.block_lt_of_cell? w _ hx156)).trans hx156) | ((with_reducible refine gate_dst (N := 22) rfl ?_); refine box_event ?hg (N := 22) ?hd (cs := #[.slice (some ⟨ab, ao, none⟩) l0.length c0, .int .i64 0]) (t := 75) ?hr ?_; (case hd => rfl); (case hg => rfl); (case hr => first | (go_simp; done) | (go_simp; rfl)); intro gr hg w4 hbox hb; have n0_ := Aside0.mk (below_step HB.out hb); have n1_ := Aside0.mk (blk_below BG.out hb); have GR := Aside0.mk (Nat.le_trans (below_size HB.out) (Nat.le_of_eq hg.symm)); have BR := Aside0.mk hbox; clear HB BG hb hbox hg; have HB := n0_; have BG := n1_; clear n0_ n1_; have hy7 := (HB.out.cell (World.block_lt_of_cell? w _ hx156)).trans hx156) | ((with_reducible refine gate_dst (N := 6) rfl ?_); refine box_event ?hg (N := 6) ?hd (cs := #[.string (⟨#[]⟩ : ByteArray), .string (⟨#[]⟩ : ByteArray), .int .i64 0, .int .i64 0, .int .i64 0, .int .i64 0, .int .i64 0, .int .u8 0, .string (⟨#[]⟩ : ByteArray)]) (t := 43) ?hr ?_; (case hd => rfl); (case hg => rfl); (case hr => first | (go_simp; done) | (go_simp; rfl)); intro gh hg w5 hbox hb; have n0_ := Aside0.mk (below_step HB.out hb); have n1_ := Aside0.mk (blk_below BG.out hb); have n2_ := Aside0.mk (blk_below BR.out hb); have GH := Aside0.mk (Nat.le_trans (below_size HB.out) (Nat.le_of_eq hg.symm)); have NGH : Aside0 (gg ≠ gh) := ⟨by have := blk_lt BG.out; omega⟩; have BH := Aside0.mk hbox; clear HB BG BR hb hbox hg; have HB := n0_; have BG := n1_; have BR := n2_; clear n0_ n1_ n2_; have NRH : Aside0 (gr ≠ gh) := ⟨blk_ne BR.out BH.out (by decide)⟩; have NRG : Aside0 (gg ≠ gr) := ⟨blk_ne BG.out BR.out (by decide)⟩; obtain ⟨hh0, hh1, hh2, hh3, hh4, hh5, hh6, hh7, hh8, fh0, fh1, fh2, fh3, fh4, fh5, fh6, fh7, fh8⟩ := blk_all9 BH.out))
  go_at_call 36
  with_reducible refine (reader_text.calls (some ⟨ab, ao, none⟩) c0 gr l0 345 155 0 p2 p_ _ (by decide) (by decide) (by have := HL.out; omega) (by have := HL.out; omega) HC0.out ?sb (Kd.C_below HR0.out ?sB) (by rw [show ((345 : Int) + 155).toNat = 500 from rfl, show (345 : Int).toNat = 345 from rfl]; exact Hp.out)).mono ?_
  case sb => exact (blk_far (blk_far (blk_far (blk_far (blk_far (blk_far (blk_far (blk_far (blk_far BR.out (p := ⟨gh, 0, none⟩) NRH.out (.string (⟨#[]⟩ : ByteArray))) (p := ⟨gh, 1, none⟩) NRH.out (.string (⟨#[]⟩ : ByteArray))) (p := ⟨gh, 2, none⟩) NRH.out (.int .i64 0)) (p := ⟨gh, 3, none⟩) NRH.out (.int .i64 0)) (p := ⟨gh, 4, none⟩) NRH.out (.int .i64 0)) (p := ⟨gh, 5, none⟩) NRH.out (.int .i64 0)) (p := ⟨gh, 6, none⟩) NRH.out (.int .i64 0)) (p := ⟨gh, 7, none⟩) NRH.out (.int .u8 x7)) (p := ⟨gh, 8, none⟩) NRH.out (.string (⟨#[]⟩ : ByteArray)))
  case sB => exact (below_set (j := 8) (v := .string (⟨#[]⟩ : ByteArray)) (below_set (j := 7) (v := .int .u8 x7) (below_set (j := 6) (v := .int .i64 0) (below_set (j := 5) (v := .int .i64 0) (below_set (j := 4) (v := .int .i64 0) (below_set (j := 3) (v := .int .i64 0) (below_set (j := 2) (v := .int .i64 0) (below_set (j := 1) (v := .string (⟨#[]⟩ : ByteArray)) (below_set (j := 0) (v := .string (⟨#[]⟩ : ByteArray)) HB.out GH.out) GH.out) GH.out) GH.out) GH.out) GH.out) GH.out) GH.out) GH.out)
  rintro en w6 ⟨rfl, hbr, hn⟩
  have n0_ := Aside0.mk (Below.near (below_set (j := 8) (v := .string (⟨#[]⟩ : ByteArray)) (below_set (j := 7) (v := .int .u8 x7) (below_set (j := 6) (v := .int .i64 0) (below_set (j := 5) (v := .int .i64 0) (below_set (j := 4) (v := .int .i64 0) (below_set (j := 3) (v := .int .i64 0) (below_set (j := 2) (v := .int .i64 0) (below_set (j := 1) (v := .string (⟨#[]⟩ : ByteArray)) (below_set (j := 0) (v := .string (⟨#[]⟩ : ByteArray)) HB.out GH.out) GH.out) GH.out) GH.out) GH.out) GH.out) GH.out) GH.out) GH.out) (below_size (below_set (j := 8) (v := .string (⟨#[]⟩ : ByteArray)) (below_set (j := 7) (v := .int .u8 x7) (below_set (j := 6) (v := .int .i64 0) (below_set (j := 5) (v := .int .i64 0) (below_set (j := 4) (v := .int .i64 0) (below_set (j := 3) (v := .int .i64 0) (below_set (j := 2) (v := .int .i64 0) (below_set (j := 1) (v := .string (⟨#[]⟩ : ByteArray)) (below_set (j := 0) (v := .string (⟨#[]⟩ : ByteArray)) HB.out GH.out) GH.out) GH.out) GH.out) GH.out) GH.out) GH.out) GH.out) GH.out)) GR.out hn)
  have n1_ := Aside0.mk (hn.blk (blk_far (blk_far (blk_far (blk_far (blk_far (blk_far (blk_far (blk_far (blk_far BG.out (p := ⟨gh, 0, none⟩) NGH.out (.string (⟨#[]⟩ : ByteArray))) (p := ⟨gh, 1, none⟩) NGH.out (.string (⟨#[]⟩ : ByteArray))) (p := ⟨gh, 2, none⟩) NGH.out (.int .i64 0)) (p := ⟨gh, 3, none⟩) NGH.out (.int .i64 0)) (p := ⟨gh, 4, none⟩) NGH.out (.int .i64 0)) (p := ⟨gh, 5, none⟩) NGH.out (.int .i64 0)) (p := ⟨gh, 6, none⟩) NGH.out (.int .i64 0)) (p := ⟨gh, 7, none⟩) NGH.out (.int .u8 x7)) (p := ⟨gh, 8, none⟩) NGH.out (.string (⟨#[]⟩ : ByteArray))) NRG.out)
  have n2_ : Aside0 (w6.heap[gh]? = some (.cells #[.string (⟨#[]⟩ : ByteArray), .string (⟨#[]⟩ : ByteArray), .int .i64 0, .int .i64 0, .int .i64 0, .int .i64 0, .int .i64 0, .int .u8 x7, .string (⟨#[]⟩ : ByteArray)] 43 (0, 0))) := ⟨hn.blk (blk_set (blk_set (blk_set (blk_set (blk_set (blk_set (blk_set (blk_set (blk_set BH.out 0 (.string (⟨#[]⟩ : ByteArray))) 1 (.string (⟨#[]⟩ : ByteArray))) 2 (.int .i64 0)) 3 (.int .i64 0)) 4 (.int .i64 0)) 5 (.int .i64 0)) 6 (.int .i64 0)) 7 (.int .u8 x7)) 8 (.string (⟨#[]⟩ : ByteArray))) NRH.out.symm⟩
  have n3_ : Aside0 (w6.heap[gr]? = some (.cells #[.slice (some ⟨ab, ao, none⟩) l0.length c0, .int .i64 (firstE 0 p2)] 75 (0, 0))) := ⟨hbr⟩
  clear HB BG BH BR hbr hn
  have HB := n0_
  have BG := n1_
  have BH := n2_
  have BR := n3_
  clear n0_ n1_ n2_ n3_
  have hs := (blk_cell BH.out 0).trans (rfl : _ = some (.string (⟨#[]⟩ : ByteArray) : Value))
  have fs := blk_frozen BH.out 0
  go_wp2_with fail
  clear hs fs
  go_at_call 36
  with_reducible refine (reader_text.calls (some ⟨ab, ao, none⟩) c0 gr l0 0 100 (firstE 0 p2) n2 n_ _ (by decide) (by decide) (by have := HL.out; omega) (by have := HL.out; omega) HC0.out ?sb (Kd.C_below HR0.out ?sB) (by rw [show ((0 : Int) + 100).toNat = 100 from rfl, show (0 : Int).toNat = 0 from rfl]; exact Hn.out)).mono ?_
  case sb => exact (blk_far BR.out (p := ⟨gh, 0, none⟩) NRH.out (.string p_))
  case sB => exact (below_set (j := 0) (v := .string p_) HB.out GH.out)
  rintro en w7 ⟨rfl, hbr, hn⟩
  have n0_ := Aside0.mk (Below.near (below_set (j := 0) (v := .string p_) HB.out GH.out) (below_size (below_set (j := 0) (v := .string p_) HB.out GH.out)) GR.out hn)
  have n1_ := Aside0.mk (hn.blk (blk_far BG.out (p := ⟨gh, 0, none⟩) NGH.out (.string p_)) NRG.out)
  have n2_ : Aside0 (w7.heap[gh]? = some (.cells #[.string p_, .string (⟨#[]⟩ : ByteArray), .int .i64 0, .int .i64 0, .int .i64 0, .int .i64 0, .int .i64 0, .int .u8 x7, .string (⟨#[]⟩ : ByteArray)] 43 (0, 0))) := ⟨hn.blk (blk_set BH.out 0 (.string p_)) NRH.out.symm⟩
  have n3_ : Aside0 (w7.heap[gr]? = some (.cells #[.slice (some ⟨ab, ao, none⟩) l0.length c0, .int .i64 (firstE (firstE 0 p2) n2)] 75 (0, 0))) := ⟨hbr⟩
  clear HB BG BH BR hbr hn
  have HB := n0_
  have BG := n1_
  have BH := n2_
  have BR := n3_
  clear n0_ n1_ n2_ n3_
  have hs := (blk_cell BH.out 1).trans (rfl : _ = some (.string (⟨#[]⟩ : ByteArray) : Value))
  have fs := blk_frozen BH.out 1
  go_wp2_with fail
  clear hs fs
  go_at_call 36
  with_reducible refine (reader_text.calls (some ⟨ab, ao, none⟩) c0 gr l0 157 100 (firstE (firstE 0 p2) n2) k2 k_ _ (by decide) (by decide) (by have := HL.out; omega) (by have := HL.out; omega) HC0.out ?sb (Kd.C_below HR0.out ?sB) (by rw [show ((157 : Int) + 100).toNat = 257 from rfl, show (157 : Int).toNat = 157 from rfl]; exact Hk.out)).mono ?_
  case sb => exact (blk_far BR.out (p := ⟨gh, 1, none⟩) NRH.out (.string n_))
  case sB => exact (below_set (j := 1) (v := .string n_) HB.out GH.out)
  rintro en w8 ⟨rfl, hbr, hn⟩
  have n0_ := Aside0.mk (Below.near (below_set (j := 1) (v := .string n_) HB.out GH.out) (below_size (below_set (j := 1) (v := .string n_) HB.out GH.out)) GR.out hn)
  have n1_ := Aside0.mk (hn.blk (blk_far BG.out (p := ⟨gh, 1, none⟩) NGH.out (.string n_)) NRG.out)
  have n2_ : Aside0 (w8.heap[gh]? = some (.cells #[.string p_, .string n_, .int .i64 0, .int .i64 0, .int .i64 0, .int .i64 0, .int .i64 0, .int .u8 x7, .string (⟨#[]⟩ : ByteArray)] 43 (0, 0))) := ⟨hn.blk (blk_set BH.out 1 (.string n_)) NRH.out.symm⟩
  have n3_ : Aside0 (w8.heap[gr]? = some (.cells #[.slice (some ⟨ab, ao, none⟩) l0.length c0, .int .i64 (firstE (firstE (firstE 0 p2) n2) k2)] 75 (0, 0))) := ⟨hbr⟩
  clear HB BG BH BR hbr hn
  have HB := n0_
  have BG := n1_
  have BH := n2_
  have BR := n3_
  clear n0_ n1_ n2_ n3_
  have hs := (blk_cell BH.out 8).trans (rfl : _ = some (.string (⟨#[]⟩ : ByteArray) : Value))
  have fs := blk_frozen BH.out 8
  go_wp2_with fail
  clear hs fs
  go_at_call 37
  with_reducible refine (reader_number.calls (some ⟨ab, ao, none⟩) c0 gr l0 100 8 (firstE (firstE (firstE 0 p2) n2) k2) m2 m_ _ (by decide) (by decide) (by have := HL.out; omega) (by have := HL.out; omega) HC0.out ?sb (Kd.C_below HR0.out ?sB) (by rw [show ((100 : Int) + 8).toNat = 108 from rfl, show (100 : Int).toNat = 100 from rfl]; exact Hm.out)).mono ?_
  case sb => exact (blk_far BR.out (p := ⟨gh, 8, none⟩) NRH.out (.string k_))
  case sB => exact (below_set (j := 8) (v := .string k_) HB.out GH.out)
  rintro en w9 ⟨rfl, hbr, hn⟩
  have n0_ := Aside0.mk (Below.near (below_set (j := 8) (v := .string k_) HB.out GH.out) (below_size (below_set (j := 8) (v := .string k_) HB.out GH.out)) GR.out hn)
  have n1_ := Aside0.mk (hn.blk (blk_far BG.out (p := ⟨gh, 8, none⟩) NGH.out (.string k_)) NRG.out)
  have n2_ : Aside0 (w9.heap[gh]? = some (.cells #[.string p_, .string n_, .int .i64 0, .int .i64 0, .int .i64 0, .int .i64 0, .int .i64 0, .int .u8 x7, .string k_] 43 (0, 0))) := ⟨hn.blk (blk_set BH.out 8 (.string k_)) NRH.out.symm⟩
  have n3_ : Aside0 (w9.heap[gr]? = some (.cells #[.slice (some ⟨ab, ao, none⟩) l0.length c0, .int .i64 (firstE (firstE (firstE (firstE 0 p2) n2) k2) m2)] 75 (0, 0))) := ⟨hbr⟩
  clear HB BG BH BR hbr hn
  have HB := n0_
  have BG := n1_
  have BH := n2_
  have BR := n3_
  clear n0_ n1_ n2_ n3_
  have hs := (blk_cell BH.out 2).trans (rfl : _ = some (.int .i64 0 : Value))
  have fs := blk_frozen BH.out 2
  go_wp2_with fail
  clear hs fs
  go_at_call 37
  with_reducible refine (reader_number.calls (some ⟨ab, ao, none⟩) c0 gr l0 108 8 (firstE (firstE (firstE (firstE 0 p2) n2) k2) m2) u2 u_ _ (by decide) (by decide) (by have := HL.out; omega) (by have := HL.out; omega) HC0.out ?sb (Kd.C_below HR0.out ?sB) (by rw [show ((108 : Int) + 8).toNat = 116 from rfl, show (108 : Int).toNat = 108 from rfl]; exact Hu.out)).mono ?_
  case sb => exact (blk_far BR.out (p := ⟨gh, 2, none⟩) NRH.out (.int .i64 m_))
  case sB => exact (below_set (j := 2) (v := .int .i64 m_) HB.out GH.out)
  rintro en w10 ⟨rfl, hbr, hn⟩
  have n0_ := Aside0.mk (Below.near (below_set (j := 2) (v := .int .i64 m_) HB.out GH.out) (below_size (below_set (j := 2) (v := .int .i64 m_) HB.out GH.out)) GR.out hn)
  have n1_ := Aside0.mk (hn.blk (blk_far BG.out (p := ⟨gh, 2, none⟩) NGH.out (.int .i64 m_)) NRG.out)
  have n2_ : Aside0 (w10.heap[gh]? = some (.cells #[.string p_, .string n_, .int .i64 m_, .int .i64 0, .int .i64 0, .int .i64 0, .int .i64 0, .int .u8 x7, .string k_] 43 (0, 0))) := ⟨hn.blk (blk_set BH.out 2 (.int .i64 m_)) NRH.out.symm⟩
  have n3_ : Aside0 (w10.heap[gr]? = some (.cells #[.slice (some ⟨ab, ao, none⟩) l0.length c0, .int .i64 (firstE (firstE (firstE (firstE (firstE 0 p2) n2) k2) m2) u2)] 75 (0, 0))) := ⟨hbr⟩
  clear HB BG BH BR hbr hn
  have HB := n0_
  have BG := n1_
  have BH := n2_
  have BR := n3_
  clear n0_ n1_ n2_ n3_
  have hs := (blk_cell BH.out 3).trans (rfl : _ = some (.int .i64 0 : Value))
  have fs := blk_frozen BH.out 3
  go_wp2_with fail
  clear hs fs
  go_at_call 37
  with_reducible refine (reader_number.calls (some ⟨ab, ao, none⟩) c0 gr l0 116 8 (firstE (firstE (firstE (firstE (firstE 0 p2) n2) k2) m2) u2) g2 g_ _ (by decide) (by decide) (by have := HL.out; omega) (by have := HL.out; omega) HC0.out ?sb (Kd.C_below HR0.out ?sB) (by rw [show ((116 : Int) + 8).toNat = 124 from rfl, show (116 : Int).toNat = 116 from rfl]; exact Hg.out)).mono ?_
  case sb => exact (blk_far BR.out (p := ⟨gh, 3, none⟩) NRH.out (.int .i64 u_))
  case sB => exact (below_set (j := 3) (v := .int .i64 u_) HB.out GH.out)
  rintro en w11 ⟨rfl, hbr, hn⟩
  have n0_ := Aside0.mk (Below.near (below_set (j := 3) (v := .int .i64 u_) HB.out GH.out) (below_size (below_set (j := 3) (v := .int .i64 u_) HB.out GH.out)) GR.out hn)
  have n1_ := Aside0.mk (hn.blk (blk_far BG.out (p := ⟨gh, 3, none⟩) NGH.out (.int .i64 u_)) NRG.out)
  have n2_ : Aside0 (w11.heap[gh]? = some (.cells #[.string p_, .string n_, .int .i64 m_, .int .i64 u_, .int .i64 0, .int .i64 0, .int .i64 0, .int .u8 x7, .string k_] 43 (0, 0))) := ⟨hn.blk (blk_set BH.out 3 (.int .i64 u_)) NRH.out.symm⟩
  have n3_ : Aside0 (w11.heap[gr]? = some (.cells #[.slice (some ⟨ab, ao, none⟩) l0.length c0, .int .i64 (firstE (firstE (firstE (firstE (firstE (firstE 0 p2) n2) k2) m2) u2) g2)] 75 (0, 0))) := ⟨hbr⟩
  clear HB BG BH BR hbr hn
  have HB := n0_
  have BG := n1_
  have BH := n2_
  have BR := n3_
  clear n0_ n1_ n2_ n3_
  have hs := (blk_cell BH.out 4).trans (rfl : _ = some (.int .i64 0 : Value))
  have fs := blk_frozen BH.out 4
  go_wp2_with fail
  clear hs fs
  go_at_call 37
  with_reducible refine (reader_number.calls (some ⟨ab, ao, none⟩) c0 gr l0 124 12 (firstE (firstE (firstE (firstE (firstE (firstE 0 p2) n2) k2) m2) u2) g2) s2 s_ _ (by decide) (by decide) (by have := HL.out; omega) (by have := HL.out; omega) HC0.out ?sb (Kd.C_below HR0.out ?sB) (by rw [show ((124 : Int) + 12).toNat = 136 from rfl, show (124 : Int).toNat = 124 from rfl]; exact Hs.out)).mono ?_
  case sb => exact (blk_far BR.out (p := ⟨gh, 4, none⟩) NRH.out (.int .i64 g_))
  case sB => exact (below_set (j := 4) (v := .int .i64 g_) HB.out GH.out)
  rintro en w12 ⟨rfl, hbr, hn⟩
  have n0_ := Aside0.mk (Below.near (below_set (j := 4) (v := .int .i64 g_) HB.out GH.out) (below_size (below_set (j := 4) (v := .int .i64 g_) HB.out GH.out)) GR.out hn)
  have n1_ := Aside0.mk (hn.blk (blk_far BG.out (p := ⟨gh, 4, none⟩) NGH.out (.int .i64 g_)) NRG.out)
  have n2_ : Aside0 (w12.heap[gh]? = some (.cells #[.string p_, .string n_, .int .i64 m_, .int .i64 u_, .int .i64 g_, .int .i64 0, .int .i64 0, .int .u8 x7, .string k_] 43 (0, 0))) := ⟨hn.blk (blk_set BH.out 4 (.int .i64 g_)) NRH.out.symm⟩
  have n3_ : Aside0 (w12.heap[gr]? = some (.cells #[.slice (some ⟨ab, ao, none⟩) l0.length c0, .int .i64 (firstE (firstE (firstE (firstE (firstE (firstE (firstE 0 p2) n2) k2) m2) u2) g2) s2)] 75 (0, 0))) := ⟨hbr⟩
  clear HB BG BH BR hbr hn
  have HB := n0_
  have BG := n1_
  have BH := n2_
  have BR := n3_
  clear n0_ n1_ n2_ n3_
  have hs := (blk_cell BH.out 6).trans (rfl : _ = some (.int .i64 0 : Value))
  have fs := blk_frozen BH.out 6
  go_wp2_with fail
  clear hs fs
  go_at_call 37
  with_reducible refine (reader_number.calls (some ⟨ab, ao, none⟩) c0 gr l0 136 12 (firstE (firstE (firstE (firstE (firstE (firstE (firstE 0 p2) n2) k2) m2) u2) g2) s2) t2 t_ _ (by decide) (by decide) (by have := HL.out; omega) (by have := HL.out; omega) HC0.out ?sb (Kd.C_below HR0.out ?sB) (by rw [show ((136 : Int) + 12).toNat = 148 from rfl, show (136 : Int).toNat = 136 from rfl]; exact Ht.out)).mono ?_
  case sb => exact (blk_far BR.out (p := ⟨gh, 6, none⟩) NRH.out (.int .i64 s_))
  case sB => exact (below_set (j := 6) (v := .int .i64 s_) HB.out GH.out)
  rintro en w13 ⟨rfl, hbr, hn⟩
  have n0_ := Aside0.mk (Below.near (below_set (j := 6) (v := .int .i64 s_) HB.out GH.out) (below_size (below_set (j := 6) (v := .int .i64 s_) HB.out GH.out)) GR.out hn)
  have n1_ := Aside0.mk (hn.blk (blk_far BG.out (p := ⟨gh, 6, none⟩) NGH.out (.int .i64 s_)) NRG.out)
  have n2_ : Aside0 (w13.heap[gh]? = some (.cells #[.string p_, .string n_, .int .i64 m_, .int .i64 u_, .int .i64 g_, .int .i64 0, .int .i64 s_, .int .u8 x7, .string k_] 43 (0, 0))) := ⟨hn.blk (blk_set BH.out 6 (.int .i64 s_)) NRH.out.symm⟩
  have n3_ : Aside0 (w13.heap[gr]? = some (.cells #[.slice (some ⟨ab, ao, none⟩) l0.length c0, .int .i64 (firstE (firstE (firstE (firstE (firstE (firstE (firstE (firstE 0 p2) n2) k2) m2) u2) g2) s2) t2)] 75 (0, 0))) := ⟨hbr⟩
  clear HB BG BH BR hbr hn
  have HB := n0_
  have BG := n1_
  have BH := n2_
  have BR := n3_
  clear n0_ n1_ n2_ n3_
  have n0_ : Aside0 (w13.heap[gr]? = some (.cells #[.slice (some ⟨ab, ao, none⟩) l0.length c0, .int .i64 E8] 75 (0, 0))) := ⟨by rw [← HE8.out]; exact BR.out⟩
  clear BR
  have BR := n0_
  clear n0_
  by_cases cz : x7 = 0
  · subst cz
    have h := HH.out
    clear HH
    rw [if_pos (rfl : (0 : Int) = 0)] at h
    have hh0 := (blk_cell BH.out 0).trans (rfl : _ = some (.string p_ : Value))
    have fh0 := blk_frozen BH.out 0
    have hh1 := (blk_cell BH.out 1).trans (rfl : _ = some (.string n_ : Value))
    have fh1 := blk_frozen BH.out 1
    have hh2 := (blk_cell BH.out 2).trans (rfl : _ = some (.int .i64 m_ : Value))
    have fh2 := blk_frozen BH.out 2
    have hh3 := (blk_cell BH.out 3).trans (rfl : _ = some (.int .i64 u_ : Value))
    have fh3 := blk_frozen BH.out 3
    have hh4 := (blk_cell BH.out 4).trans (rfl : _ = some (.int .i64 g_ : Value))
    have fh4 := blk_frozen BH.out 4
    have hh5 := (blk_cell BH.out 5).trans (rfl : _ = some (.int .i64 0 : Value))
    have fh5 := blk_frozen BH.out 5
    have hh6 := (blk_cell BH.out 6).trans (rfl : _ = some (.int .i64 s_ : Value))
    have fh6 := blk_frozen BH.out 6
    have hh7 := (blk_cell BH.out 7).trans (rfl : _ = some (.int .u8 0 : Value))
    have fh7 := blk_frozen BH.out 7
    have hh8 := (blk_cell BH.out 8).trans (rfl : _ = some (.string k_ : Value))
    have fh8 := blk_frozen BH.out 8
    have hg0 := (blk_cell BG.out 0).trans (rfl : _ = some (.string (⟨#[]⟩ : ByteArray) : Value))
    have fg0 := blk_frozen BG.out 0
    have hg1 := (blk_cell BG.out 1).trans (rfl : _ = some (.string (⟨#[]⟩ : ByteArray) : Value))
    have fg1 := blk_frozen BG.out 1
    have hg2 := (blk_cell BG.out 2).trans (rfl : _ = some (.int .i64 0 : Value))
    have fg2 := blk_frozen BG.out 2
    have hg3 := (blk_cell BG.out 3).trans (rfl : _ = some (.int .i64 0 : Value))
    have fg3 := blk_frozen BG.out 3
    have hg4 := (blk_cell BG.out 4).trans (rfl : _ = some (.int .i64 0 : Value))
    have fg4 := blk_frozen BG.out 4
    have hg5 := (blk_cell BG.out 5).trans (rfl : _ = some (.int .i64 0 : Value))
    have fg5 := blk_frozen BG.out 5
    have hg6 := (blk_cell BG.out 6).trans (rfl : _ = some (.int .i64 0 : Value))
    have fg6 := blk_frozen BG.out 6
    have hg7 := (blk_cell BG.out 7).trans (rfl : _ = some (.int .u8 0 : Value))
    have fg7 := blk_frozen BG.out 7
    have hg8 := (blk_cell BG.out 8).trans (rfl : _ = some (.string (⟨#[]⟩ : ByteArray) : Value))
    have fg8 := blk_frozen BG.out 8
    have hr1 := (blk_cell BR.out 1).trans (rfl : _ = some (.int .i64 E8 : Value))
    by_cases cE : ¬ E8 = 0
    · rw [if_neg cE] at h
      unfold noHead at h
      simp only [Option.some.injEq, Prod.mk.injEq] at h
      obtain ⟨rfl, rfl, rfl, rfl, rfl, rfl, rfl, rfl, rfl, rfl⟩ := h
      have b1 : (E8 != 0) = true := bne_iff_ne.2 cE
      clear cE
      have BX := Aside0.mk (show (World.setCell (World.setCell w13 ⟨gh, 5, none⟩ (.int .i64 t_)) ⟨gh, 7, none⟩ (.int .u8 48)).heap[gg]? = some (.cells #[.string (⟨#[]⟩ : ByteArray), .string (⟨#[]⟩ : ByteArray), .int .i64 0, .int .i64 0, .int .i64 0, .int .i64 0, .int .i64 0, .int .u8 0, .string (⟨#[]⟩ : ByteArray)] 43 (0, 0)) from (blk_far (blk_far BG.out (p := ⟨gh, 5, none⟩) NGH.out (.int .i64 t_)) (p := ⟨gh, 7, none⟩) NGH.out (.int .u8 48)))
      obtain ⟨xg0, xg1, xg2, xg3, xg4, xg5, xg6, xg7, xg8, xf0, xf1, xf2, xf3, xf4, xf5, xf6, xf7, xf8⟩ := blk_all9 BX.out
      clear hg0 fg0 hh0 fh0 hg1 fg1 hh1 fh1 hg2 fg2 hh2 fh2 hg3 fg3 hh3 fh3 hg4 fg4 hh4 fh4 hg6 fg6 hh6 fh6 hg8 fg8 hh8 fh8 hg5 fg5 hg7 fg7
      go_wp2
      have n0_ := Aside0.mk (below_drew1 (show Below w.heap.size w (World.setCell (World.setCell w13 ⟨gh, 5, none⟩ (.int .i64 t_)) ⟨gh, 7, none⟩ (.int .u8 48)) from (below_set (j := 7) (v := .int .u8 48) (below_set (j := 5) (v := .int .i64 t_) HB.out GH.out) GH.out)))
      have n1_ : Aside0 ((World.drew (World.setCell (World.setCell w13 ⟨gh, 5, none⟩ (.int .i64 t_)) ⟨gh, 7, none⟩ (.int .u8 48))).heap[gg]? = some (.cells #[.string (⟨#[]⟩ : ByteArray), .string (⟨#[]⟩ : ByteArray), .int .i64 0, .int .i64 0, .int .i64 0, .int .i64 0, .int .i64 0, .int .u8 0, .string (⟨#[]⟩ : ByteArray)] 43 (0, 0))) := ⟨blk_drew BX.out⟩
      have n2_ : Aside0 ((World.drew (World.setCell (World.setCell w13 ⟨gh, 5, none⟩ (.int .i64 t_)) ⟨gh, 7, none⟩ (.int .u8 48))).heap[gr]? = some (.cells #[.slice (some ⟨ab, ao, none⟩) l0.length c0, .int .i64 E8] 75 (0, 0))) := ⟨blk_drew (blk_far (blk_far BR.out (p := ⟨gh, 5, none⟩) NRH.out (.int .i64 t_)) (p := ⟨gh, 7, none⟩) NRH.out (.int .u8 48))⟩
      clear HB BG BR BX
      have HB := n0_
      have BG := n1_
      have BR := n2_
      clear n0_ n1_ n2_ xg0 xf0 xg1 xf1 xg2 xf2 xg3 xf3 xg4 xf4 xg5 xf5 xg6 xf6 xg7 xf7 xg8 xf8
      refine start_ (n := 7) (S := fun w' => w'.cell? ⟨gr, 1, none⟩ = some (.int .i64 E8)) (ds := []) #[false, false, false, false, false, false, false] (by kernel_rfl) rfl rfl ((blk_cell BR.out 1).trans rfl) (fun hHeld => ?_)
      generalize World.drew (World.setCell (World.setCell w13 ⟨gh, 5, none⟩ (.int .i64 t_)) ⟨gh, 7, none⟩ (.int .u8 48)) = wx at HB BG BR hHeld ⊢
      obtain ⟨xg0, xg1, xg2, xg3, xg4, xg5, xg6, xg7, xg8, xf0, xf1, xf2, xf3, xf4, xf5, xf6, xf7, xf8⟩ := blk_all9 BG.out
      refine pure_ (i := 0) (N := some 65) (v := ?_) (a' := ?_) #[true, false, false, false, false, false, false] rfl rfl (by kernel_rfl) (fun _ _ _ h => h) (Or.inl ⟨by rfl, ?_⟩) ?_ ?_
      rotate_left
      · intro w'
        go_simp
        with_reducible rfl
      rotate_left
      · simp only [Act.put, List.setIfInBounds_toArray, List.set_cons_zero, List.set_cons_succ, i64_w, i32_w]
        rfl
      refine pure_ (i := 1) (N := some 66) (v := ?_) (a' := ?_) #[true, true, false, false, false, false, false] rfl rfl (by kernel_rfl) (fun _ _ _ h => h) (Or.inl ⟨by rfl, ?_⟩) ?_ ?_
      rotate_left
      · intro w'
        go_simp
        with_reducible rfl
      rotate_left
      · simp only [Act.put, List.setIfInBounds_toArray, List.set_cons_zero, List.set_cons_succ, i64_w, i32_w]
        rfl
      refine pure_ (i := 2) (N := some 67) (v := ?_) (a' := ?_) #[true, true, true, false, false, false, false] rfl rfl (by kernel_rfl) (fun _ _ _ h => h) (Or.inl ⟨by rfl, ?_⟩) ?_ ?_
      rotate_left
      · intro w'
        go_simp
        with_reducible rfl
      rotate_left
      · simp only [Act.put, List.setIfInBounds_toArray, List.set_cons_zero, List.set_cons_succ, i64_w, i32_w]
        rfl
      refine pure_ (i := 3) (N := some 68) (v := ?_) (a' := ?_) #[true, true, true, true, false, false, false] rfl rfl (by kernel_rfl) (fun _ _ _ h => h) (Or.inl ⟨by rfl, ?_⟩) ?_ ?_
      rotate_left
      · intro w'
        go_simp
        with_reducible rfl
      rotate_left
      · simp only [Act.put, List.setIfInBounds_toArray, List.set_cons_zero, List.set_cons_succ, i64_w, i32_w]
        rfl
      refine take_ (i := 4) (N := some 69) (v := ?_) (a' := ?_) #[true, true, true, true, true, false, false] rfl rfl (by kernel_rfl) (fun _ _ _ h => h) (Or.inl ⟨by rfl, ?_⟩) hHeld ?_ ?_
      rotate_left
      · intro w' s0
        go_simp
        with_reducible rfl
      rotate_left
      · simp only [Act.put, List.setIfInBounds_toArray, List.set_cons_zero, List.set_cons_succ, i64_w, i32_w]
        rfl
      refine one_ (i := 5) (N := none) #[true, true, true, true, true, true, false] rfl rfl (by kernel_rfl) (by decide) (fun K hK => ?_)
      refine skip_ (w1 := ?_) (by rfl) rfl ?_ ?_
      rotate_left
      · go_simp
        rfl
      refine hK.out _ _ ((blk_cell (blk_far (blk_far (blk_far (blk_far (blk_far (blk_far (blk_far (blk_far (blk_far BR.out (p := ⟨gg, 0, none⟩) NRG.out.symm (.string (⟨#[]⟩ : ByteArray))) (p := ⟨gg, 1, none⟩) NRG.out.symm (.string (⟨#[]⟩ : ByteArray))) (p := ⟨gg, 2, none⟩) NRG.out.symm (.int .i64 0)) (p := ⟨gg, 3, none⟩) NRG.out.symm (.int .i64 0)) (p := ⟨gg, 4, none⟩) NRG.out.symm (.int .i64 0)) (p := ⟨gg, 5, none⟩) NRG.out.symm (.int .i64 0)) (p := ⟨gg, 6, none⟩) NRG.out.symm (.int .i64 0)) (p := ⟨gg, 7, none⟩) NRG.out.symm (.int .u8 0)) (p := ⟨gg, 8, none⟩) NRG.out.symm (.string (⟨#[]⟩ : ByteArray))) 1).trans rfl) (fun hHeld => ?_)
      clear hK K
      refine pure_ (i := 6) (N := some 3) (v := ?_) (a' := ?_) #[true, true, true, true, true, true, true] rfl rfl (by kernel_rfl) (fun _ _ _ h => h) (Or.inl ⟨by rfl, ?_⟩) ?_ ?_
      rotate_left
      · intro w'
        go_simp
        with_reducible rfl
      rotate_left
      · simp only [Act.put, List.setIfInBounds_toArray, List.set_cons_zero, List.set_cons_succ, i64_w, i32_w]
        rfl
      refine done_ (by kernel_rfl) ?_
      go_wp2
      refine bodyPost_ret (results_ct rfl _ _ gg 43 #[.string (⟨#[]⟩ : ByteArray), .string (⟨#[]⟩ : ByteArray), .int .i64 0, .int .i64 0, .int .i64 0, .int .i64 0, .int .i64 0, .int .u8 0, .string (⟨#[]⟩ : ByteArray)] (0, 0) _ rfl (by have h_ := (blk_set (blk_set (blk_set (blk_set (blk_set (blk_set (blk_set (blk_set (blk_set BG.out 0 (.string (⟨#[]⟩ : ByteArray))) 1 (.string (⟨#[]⟩ : ByteArray))) 2 (.int .i64 0)) 3 (.int .i64 0)) 4 (.int .i64 0)) 5 (.int .i64 0)) 6 (.int .i64 0)) 7 (.int .u8 0)) 8 (.string (⟨#[]⟩ : ByteArray))); exact h_) Tryz.underlying43 rfl (by kernel_rfl)) rfl ?_
      exact ⟨rfl, (by repeat (first | (with_reducible first | exact HB.out | apply below_alloc | apply pw_below_drewN | apply below_drew1 | refine below_set ?_ GG.out | refine below_set ?_ GH.out) | exact HB.out))⟩
    have cE' := Decidable.of_not_not cE
    subst cE'
    clear cE
    rw [if_pos rfl] at h
    obtain ⟨b, hT, h⟩ := Option.bind_eq_some_iff.1 h
    have HT := Aside0.mk hT
    clear hT
    cases b with
    | false =>
      rw [if_neg (by decide)] at h
      unfold noHead at h
      simp only [Option.some.injEq, Prod.mk.injEq] at h
      obtain ⟨rfl, rfl, rfl, rfl, rfl, rfl, rfl, rfl, rfl, rfl⟩ := h
      go_wp2_with ((go_at_call 38; (with_reducible refine (head_IsType.calls 48 false _ HT.out).mono ?_); rintro e w14 ⟨rfl, hd⟩; have hb := drawn_below hd; have n0_ := Aside0.mk (below_step (by repeat (first | (with_reducible first | exact HB.out | apply below_alloc | apply pw_below_drewN | apply below_drew1 | refine below_set ?_ GG.out | refine below_set ?_ GH.out) | exact HB.out)) hb); have n1_ := Aside0.mk (blk_below (g := gg) (o := .cells #[.string (⟨#[]⟩ : ByteArray), .string (⟨#[]⟩ : ByteArray), .int .i64 0, .int .i64 0, .int .i64 0, .int .i64 0, .int .i64 0, .int .u8 0, .string (⟨#[]⟩ : ByteArray)] 43 (0, 0)) (by have h_ := (blk_far (blk_far BG.out (p := ⟨gh, 5, none⟩) NGH.out (.int .i64 t_)) (p := ⟨gh, 7, none⟩) NGH.out (.int .u8 48)); exact h_) hb); clear HB BG hb hd; have HB := n0_; have BG := n1_; clear n0_ n1_; obtain ⟨hg0, hg1, hg2, hg3, hg4, hg5, hg6, hg7, hg8, fg0, fg1, fg2, fg3, fg4, fg5, fg6, fg7, fg8⟩ := blk_all9 BG.out))
      refine bodyPost_ret (results_ct rfl _ _ gg 43 #[.string (⟨#[]⟩ : ByteArray), .string (⟨#[]⟩ : ByteArray), .int .i64 0, .int .i64 0, .int .i64 0, .int .i64 0, .int .i64 0, .int .u8 0, .string (⟨#[]⟩ : ByteArray)] (0, 0) _ rfl (by have h_ := (blk_set (blk_set (blk_set (blk_set (blk_set (blk_set (blk_set (blk_set (blk_set BG.out 0 (.string (⟨#[]⟩ : ByteArray))) 1 (.string (⟨#[]⟩ : ByteArray))) 2 (.int .i64 0)) 3 (.int .i64 0)) 4 (.int .i64 0)) 5 (.int .i64 0)) 6 (.int .i64 0)) 7 (.int .u8 0)) 8 (.string (⟨#[]⟩ : ByteArray))); exact h_) Tryz.underlying43 rfl (by kernel_rfl)) rfl ?_
      exact ⟨rfl, (by repeat (first | (with_reducible first | exact HB.out | apply below_alloc | apply pw_below_drewN | apply below_drew1 | refine below_set ?_ GG.out | refine below_set ?_ GH.out) | exact HB.out))⟩
    | true =>
      rw [if_pos rfl] at h
      obtain ⟨c, hB, h⟩ := Option.bind_eq_some_iff.1 h
      have HBw := Aside0.mk hB
      clear hB
      cases c with
      | true =>
        rw [if_pos rfl] at h
        unfold noHead at h
        simp only [Option.some.injEq, Prod.mk.injEq] at h
        obtain ⟨rfl, rfl, rfl, rfl, rfl, rfl, rfl, rfl, rfl, rfl⟩ := h
        go_wp2_with (first | (go_at_call 38; (with_reducible refine (head_IsType.calls 48 true _ HT.out).mono ?_); rintro e w' ⟨rfl, ⟨nd, rfl⟩⟩) | (go_at_call 39; (with_reducible refine (head_below.calls p_ n_ m_ u_ g_ t_ s_ 48 k_ true _ HBw.out).mono ?_); rintro e w14 ⟨rfl, hb⟩; have n0_ := Aside0.mk (below_step (by repeat (first | (with_reducible first | exact HB.out | apply below_alloc | apply pw_below_drewN | apply below_drew1 | refine below_set ?_ GG.out | refine below_set ?_ GH.out) | exact HB.out)) hb); have n1_ := Aside0.mk (blk_below (g := gg) (o := .cells #[.string (⟨#[]⟩ : ByteArray), .string (⟨#[]⟩ : ByteArray), .int .i64 0, .int .i64 0, .int .i64 0, .int .i64 0, .int .i64 0, .int .u8 0, .string (⟨#[]⟩ : ByteArray)] 43 (0, 0)) (by have h_ := (blk_far (blk_far BG.out (p := ⟨gh, 5, none⟩) NGH.out (.int .i64 t_)) (p := ⟨gh, 7, none⟩) NGH.out (.int .u8 48)); exact h_) hb); have n2_ := Aside0.mk (blk_below (g := gh) (o := .cells #[.string p_, .string n_, .int .i64 m_, .int .i64 u_, .int .i64 g_, .int .i64 t_, .int .i64 s_, .int .u8 48, .string k_] 43 (0, 0)) (by have h_ := (blk_set (blk_set BH.out 5 (.int .i64 t_)) 7 (.int .u8 48)); exact h_) hb); clear HB BG BH hb; have HB := n0_; have BG := n1_; have BH := n2_; clear n0_ n1_ n2_; have hg0 := (blk_cell BG.out 0).trans (rfl : _ = some (.string (⟨#[]⟩ : ByteArray) : Value)); have fg0 := blk_frozen BG.out 0; have hg1 := (blk_cell BG.out 1).trans (rfl : _ = some (.string (⟨#[]⟩ : ByteArray) : Value)); have fg1 := blk_frozen BG.out 1; have hg2 := (blk_cell BG.out 2).trans (rfl : _ = some (.int .i64 0 : Value)); have fg2 := blk_frozen BG.out 2; have hg3 := (blk_cell BG.out 3).trans (rfl : _ = some (.int .i64 0 : Value)); have fg3 := blk_frozen BG.out 3; have hg4 := (blk_cell BG.out 4).trans (rfl : _ = some (.int .i64 0 : Value)); have fg4 := blk_frozen BG.out 4; have hg5 := (blk_cell BG.out 5).trans (rfl : _ = some (.int .i64 0 : Value)); have fg5 := blk_frozen BG.out 5; have hg6 := (blk_cell BG.out 6).trans (rfl : _ = some (.int .i64 0 : Value)); have fg6 := blk_frozen BG.out 6; have hg7 := (blk_cell BG.out 7).trans (rfl : _ = some (.int .u8 0 : Value)); have fg7 := blk_frozen BG.out 7; have hg8 := (blk_cell BG.out 8).trans (rfl : _ = some (.string (⟨#[]⟩ : ByteArray) : Value)); have fg8 := blk_frozen BG.out 8; have hh0 := (blk_cell BH.out 0).trans (rfl : _ = some (.string p_ : Value)); have fh0 := blk_frozen BH.out 0; have hh1 := (blk_cell BH.out 1).trans (rfl : _ = some (.string n_ : Value)); have fh1 := blk_frozen BH.out 1; have hh2 := (blk_cell BH.out 2).trans (rfl : _ = some (.int .i64 m_ : Value)); have fh2 := blk_frozen BH.out 2; have hh3 := (blk_cell BH.out 3).trans (rfl : _ = some (.int .i64 u_ : Value)); have fh3 := blk_frozen BH.out 3; have hh4 := (blk_cell BH.out 4).trans (rfl : _ = some (.int .i64 g_ : Value)); have fh4 := blk_frozen BH.out 4; have hh5 := (blk_cell BH.out 5).trans (rfl : _ = some (.int .i64 t_ : Value)); have fh5 := blk_frozen BH.out 5; have hh6 := (blk_cell BH.out 6).trans (rfl : _ = some (.int .i64 s_ : Value)); have fh6 := blk_frozen BH.out 6; have hh7 := (blk_cell BH.out 7).trans (rfl : _ = some (.int .u8 48 : Value)); have fh7 := blk_frozen BH.out 7; have hh8 := (blk_cell BH.out 8).trans (rfl : _ = some (.string k_ : Value)); have fh8 := blk_frozen BH.out 8))
        refine bodyPost_ret (results_ct rfl _ _ gg 43 #[.string (⟨#[]⟩ : ByteArray), .string (⟨#[]⟩ : ByteArray), .int .i64 0, .int .i64 0, .int .i64 0, .int .i64 0, .int .i64 0, .int .u8 0, .string (⟨#[]⟩ : ByteArray)] (0, 0) _ rfl (by have h_ := (blk_set (blk_set (blk_set (blk_set (blk_set (blk_set (blk_set (blk_set (blk_set BG.out 0 (.string (⟨#[]⟩ : ByteArray))) 1 (.string (⟨#[]⟩ : ByteArray))) 2 (.int .i64 0)) 3 (.int .i64 0)) 4 (.int .i64 0)) 5 (.int .i64 0)) 6 (.int .i64 0)) 7 (.int .u8 0)) 8 (.string (⟨#[]⟩ : ByteArray))); exact h_) Tryz.underlying43 rfl (by kernel_rfl)) rfl ?_
        exact ⟨rfl, (by repeat (first | (with_reducible first | exact HB.out | apply below_alloc | apply pw_below_drewN | apply below_drew1 | refine below_set ?_ GG.out | refine below_set ?_ GH.out) | exact HB.out))⟩
      | false =>
        rw [if_neg (by decide)] at h
        simp only [Option.some.injEq, Prod.mk.injEq] at h
        obtain ⟨rfl, rfl, rfl, rfl, rfl, rfl, rfl, rfl, rfl, rfl⟩ := h
        go_wp2_with (first | (go_at_call 38; (with_reducible refine (head_IsType.calls 48 true _ HT.out).mono ?_); rintro e w' ⟨rfl, ⟨nd, rfl⟩⟩) | (go_at_call 39; (with_reducible refine (head_below.calls p_ n_ m_ u_ g_ t_ s_ 48 k_ false _ HBw.out).mono ?_); rintro e w14 ⟨rfl, hb⟩; have n0_ := Aside0.mk (below_step (by repeat (first | (with_reducible first | exact HB.out | apply below_alloc | apply pw_below_drewN | apply below_drew1 | refine below_set ?_ GG.out | refine below_set ?_ GH.out) | exact HB.out)) hb); have n1_ := Aside0.mk (blk_below (g := gg) (o := .cells #[.string (⟨#[]⟩ : ByteArray), .string (⟨#[]⟩ : ByteArray), .int .i64 0, .int .i64 0, .int .i64 0, .int .i64 0, .int .i64 0, .int .u8 0, .string (⟨#[]⟩ : ByteArray)] 43 (0, 0)) (by have h_ := (blk_far (blk_far BG.out (p := ⟨gh, 5, none⟩) NGH.out (.int .i64 t_)) (p := ⟨gh, 7, none⟩) NGH.out (.int .u8 48)); exact h_) hb); have n2_ := Aside0.mk (blk_below (g := gh) (o := .cells #[.string p_, .string n_, .int .i64 m_, .int .i64 u_, .int .i64 g_, .int .i64 t_, .int .i64 s_, .int .u8 48, .string k_] 43 (0, 0)) (by have h_ := (blk_set (blk_set BH.out 5 (.int .i64 t_)) 7 (.int .u8 48)); exact h_) hb); clear HB BG BH hb; have HB := n0_; have BG := n1_; have BH := n2_; clear n0_ n1_ n2_; have hg0 := (blk_cell BG.out 0).trans (rfl : _ = some (.string (⟨#[]⟩ : ByteArray) : Value)); have fg0 := blk_frozen BG.out 0; have hg1 := (blk_cell BG.out 1).trans (rfl : _ = some (.string (⟨#[]⟩ : ByteArray) : Value)); have fg1 := blk_frozen BG.out 1; have hg2 := (blk_cell BG.out 2).trans (rfl : _ = some (.int .i64 0 : Value)); have fg2 := blk_frozen BG.out 2; have hg3 := (blk_cell BG.out 3).trans (rfl : _ = some (.int .i64 0 : Value)); have fg3 := blk_frozen BG.out 3; have hg4 := (blk_cell BG.out 4).trans (rfl : _ = some (.int .i64 0 : Value)); have fg4 := blk_frozen BG.out 4; have hg5 := (blk_cell BG.out 5).trans (rfl : _ = some (.int .i64 0 : Value)); have fg5 := blk_frozen BG.out 5; have hg6 := (blk_cell BG.out 6).trans (rfl : _ = some (.int .i64 0 : Value)); have fg6 := blk_frozen BG.out 6; have hg7 := (blk_cell BG.out 7).trans (rfl : _ = some (.int .u8 0 : Value)); have fg7 := blk_frozen BG.out 7; have hg8 := (blk_cell BG.out 8).trans (rfl : _ = some (.string (⟨#[]⟩ : ByteArray) : Value)); have fg8 := blk_frozen BG.out 8; have hh0 := (blk_cell BH.out 0).trans (rfl : _ = some (.string p_ : Value)); have fh0 := blk_frozen BH.out 0; have hh1 := (blk_cell BH.out 1).trans (rfl : _ = some (.string n_ : Value)); have fh1 := blk_frozen BH.out 1; have hh2 := (blk_cell BH.out 2).trans (rfl : _ = some (.int .i64 m_ : Value)); have fh2 := blk_frozen BH.out 2; have hh3 := (blk_cell BH.out 3).trans (rfl : _ = some (.int .i64 u_ : Value)); have fh3 := blk_frozen BH.out 3; have hh4 := (blk_cell BH.out 4).trans (rfl : _ = some (.int .i64 g_ : Value)); have fh4 := blk_frozen BH.out 4; have hh5 := (blk_cell BH.out 5).trans (rfl : _ = some (.int .i64 t_ : Value)); have fh5 := blk_frozen BH.out 5; have hh6 := (blk_cell BH.out 6).trans (rfl : _ = some (.int .i64 s_ : Value)); have fh6 := blk_frozen BH.out 6; have hh7 := (blk_cell BH.out 7).trans (rfl : _ = some (.int .u8 48 : Value)); have fh7 := blk_frozen BH.out 7; have hh8 := (blk_cell BH.out 8).trans (rfl : _ = some (.string k_ : Value)); have fh8 := blk_frozen BH.out 8))
        refine bodyPost_ret (results_ct rfl _ _ gg 43 #[.string p_, .string n_, .int .i64 m_, .int .i64 u_, .int .i64 g_, .int .i64 t_, .int .i64 s_, .int .u8 48, .string k_] (0, 0) _ rfl (by have h_ := (blk_set (blk_set (blk_set (blk_set (blk_set (blk_set (blk_set (blk_set (blk_set BG.out 0 (.string p_)) 1 (.string n_)) 2 (.int .i64 m_)) 3 (.int .i64 u_)) 4 (.int .i64 g_)) 5 (.int .i64 t_)) 6 (.int .i64 s_)) 7 (.int .u8 48)) 8 (.string k_)); exact h_) Tryz.underlying43 rfl (by kernel_rfl)) rfl ?_
        exact ⟨rfl, (by repeat (first | (with_reducible first | exact HB.out | apply below_alloc | apply pw_below_drewN | apply below_drew1 | refine below_set ?_ GG.out | refine below_set ?_ GH.out) | exact HB.out))⟩
  · have bz : (x7 == 0) = false := beq_eq_false_iff_ne.2 cz
    have HZ := Aside0.mk cz
    clear cz
    have h := HH.out
    clear HH
    rw [if_neg HZ.out] at h
    have hh0 := (blk_cell BH.out 0).trans (rfl : _ = some (.string p_ : Value))
    have fh0 := blk_frozen BH.out 0
    have hh1 := (blk_cell BH.out 1).trans (rfl : _ = some (.string n_ : Value))
    have fh1 := blk_frozen BH.out 1
    have hh2 := (blk_cell BH.out 2).trans (rfl : _ = some (.int .i64 m_ : Value))
    have fh2 := blk_frozen BH.out 2
    have hh3 := (blk_cell BH.out 3).trans (rfl : _ = some (.int .i64 u_ : Value))
    have fh3 := blk_frozen BH.out 3
    have hh4 := (blk_cell BH.out 4).trans (rfl : _ = some (.int .i64 g_ : Value))
    have fh4 := blk_frozen BH.out 4
    have hh5 := (blk_cell BH.out 5).trans (rfl : _ = some (.int .i64 0 : Value))
    have fh5 := blk_frozen BH.out 5
    have hh6 := (blk_cell BH.out 6).trans (rfl : _ = some (.int .i64 s_ : Value))
    have fh6 := blk_frozen BH.out 6
    have hh7 := (blk_cell BH.out 7).trans (rfl : _ = some (.int .u8 x7 : Value))
    have fh7 := blk_frozen BH.out 7
    have hh8 := (blk_cell BH.out 8).trans (rfl : _ = some (.string k_ : Value))
    have fh8 := blk_frozen BH.out 8
    have hg0 := (blk_cell BG.out 0).trans (rfl : _ = some (.string (⟨#[]⟩ : ByteArray) : Value))
    have fg0 := blk_frozen BG.out 0
    have hg1 := (blk_cell BG.out 1).trans (rfl : _ = some (.string (⟨#[]⟩ : ByteArray) : Value))
    have fg1 := blk_frozen BG.out 1
    have hg2 := (blk_cell BG.out 2).trans (rfl : _ = some (.int .i64 0 : Value))
    have fg2 := blk_frozen BG.out 2
    have hg3 := (blk_cell BG.out 3).trans (rfl : _ = some (.int .i64 0 : Value))
    have fg3 := blk_frozen BG.out 3
    have hg4 := (blk_cell BG.out 4).trans (rfl : _ = some (.int .i64 0 : Value))
    have fg4 := blk_frozen BG.out 4
    have hg5 := (blk_cell BG.out 5).trans (rfl : _ = some (.int .i64 0 : Value))
    have fg5 := blk_frozen BG.out 5
    have hg6 := (blk_cell BG.out 6).trans (rfl : _ = some (.int .i64 0 : Value))
    have fg6 := blk_frozen BG.out 6
    have hg7 := (blk_cell BG.out 7).trans (rfl : _ = some (.int .u8 0 : Value))
    have fg7 := blk_frozen BG.out 7
    have hg8 := (blk_cell BG.out 8).trans (rfl : _ = some (.string (⟨#[]⟩ : ByteArray) : Value))
    have fg8 := blk_frozen BG.out 8
    have hr1 := (blk_cell BR.out 1).trans (rfl : _ = some (.int .i64 E8 : Value))
    by_cases cE : ¬ E8 = 0
    · rw [if_neg cE] at h
      unfold noHead at h
      simp only [Option.some.injEq, Prod.mk.injEq] at h
      obtain ⟨rfl, rfl, rfl, rfl, rfl, rfl, rfl, rfl, rfl, rfl⟩ := h
      have b1 : (E8 != 0) = true := bne_iff_ne.2 cE
      clear cE
      have BX := Aside0.mk (show (World.setCell w13 ⟨gh, 5, none⟩ (.int .i64 t_)).heap[gg]? = some (.cells #[.string (⟨#[]⟩ : ByteArray), .string (⟨#[]⟩ : ByteArray), .int .i64 0, .int .i64 0, .int .i64 0, .int .i64 0, .int .i64 0, .int .u8 0, .string (⟨#[]⟩ : ByteArray)] 43 (0, 0)) from (blk_far BG.out (p := ⟨gh, 5, none⟩) NGH.out (.int .i64 t_)))
      obtain ⟨xg0, xg1, xg2, xg3, xg4, xg5, xg6, xg7, xg8, xf0, xf1, xf2, xf3, xf4, xf5, xf6, xf7, xf8⟩ := blk_all9 BX.out
      clear hg0 fg0 hh0 fh0 hg1 fg1 hh1 fh1 hg2 fg2 hh2 fh2 hg3 fg3 hh3 fh3 hg4 fg4 hh4 fh4 hg6 fg6 hh6 fh6 hg8 fg8 hh8 fh8 hg5 fg5 hg7 fg7
      go_wp2
      have n0_ := Aside0.mk (below_drew1 (show Below w.heap.size w (World.setCell w13 ⟨gh, 5, none⟩ (.int .i64 t_)) from (below_set (j := 5) (v := .int .i64 t_) HB.out GH.out)))
      have n1_ : Aside0 ((World.drew (World.setCell w13 ⟨gh, 5, none⟩ (.int .i64 t_))).heap[gg]? = some (.cells #[.string (⟨#[]⟩ : ByteArray), .string (⟨#[]⟩ : ByteArray), .int .i64 0, .int .i64 0, .int .i64 0, .int .i64 0, .int .i64 0, .int .u8 0, .string (⟨#[]⟩ : ByteArray)] 43 (0, 0))) := ⟨blk_drew BX.out⟩
      have n2_ : Aside0 ((World.drew (World.setCell w13 ⟨gh, 5, none⟩ (.int .i64 t_))).heap[gr]? = some (.cells #[.slice (some ⟨ab, ao, none⟩) l0.length c0, .int .i64 E8] 75 (0, 0))) := ⟨blk_drew (blk_far BR.out (p := ⟨gh, 5, none⟩) NRH.out (.int .i64 t_))⟩
      clear HB BG BR BX
      have HB := n0_
      have BG := n1_
      have BR := n2_
      clear n0_ n1_ n2_ xg0 xf0 xg1 xf1 xg2 xf2 xg3 xf3 xg4 xf4 xg5 xf5 xg6 xf6 xg7 xf7 xg8 xf8
      refine start_ (n := 7) (S := fun w' => w'.cell? ⟨gr, 1, none⟩ = some (.int .i64 E8)) (ds := []) #[false, false, false, false, false, false, false] (by kernel_rfl) rfl rfl ((blk_cell BR.out 1).trans rfl) (fun hHeld => ?_)
      generalize World.drew (World.setCell w13 ⟨gh, 5, none⟩ (.int .i64 t_)) = wx at HB BG BR hHeld ⊢
      obtain ⟨xg0, xg1, xg2, xg3, xg4, xg5, xg6, xg7, xg8, xf0, xf1, xf2, xf3, xf4, xf5, xf6, xf7, xf8⟩ := blk_all9 BG.out
      refine pure_ (i := 0) (N := some 65) (v := ?_) (a' := ?_) #[true, false, false, false, false, false, false] rfl rfl (by kernel_rfl) (fun _ _ _ h => h) (Or.inl ⟨by rfl, ?_⟩) ?_ ?_
      rotate_left
      · intro w'
        go_simp
        with_reducible rfl
      rotate_left
      · simp only [Act.put, List.setIfInBounds_toArray, List.set_cons_zero, List.set_cons_succ, i64_w, i32_w]
        rfl
      refine pure_ (i := 1) (N := some 66) (v := ?_) (a' := ?_) #[true, true, false, false, false, false, false] rfl rfl (by kernel_rfl) (fun _ _ _ h => h) (Or.inl ⟨by rfl, ?_⟩) ?_ ?_
      rotate_left
      · intro w'
        go_simp
        with_reducible rfl
      rotate_left
      · simp only [Act.put, List.setIfInBounds_toArray, List.set_cons_zero, List.set_cons_succ, i64_w, i32_w]
        rfl
      refine pure_ (i := 2) (N := some 67) (v := ?_) (a' := ?_) #[true, true, true, false, false, false, false] rfl rfl (by kernel_rfl) (fun _ _ _ h => h) (Or.inl ⟨by rfl, ?_⟩) ?_ ?_
      rotate_left
      · intro w'
        go_simp
        with_reducible rfl
      rotate_left
      · simp only [Act.put, List.setIfInBounds_toArray, List.set_cons_zero, List.set_cons_succ, i64_w, i32_w]
        rfl
      refine pure_ (i := 3) (N := some 68) (v := ?_) (a' := ?_) #[true, true, true, true, false, false, false] rfl rfl (by kernel_rfl) (fun _ _ _ h => h) (Or.inl ⟨by rfl, ?_⟩) ?_ ?_
      rotate_left
      · intro w'
        go_simp
        with_reducible rfl
      rotate_left
      · simp only [Act.put, List.setIfInBounds_toArray, List.set_cons_zero, List.set_cons_succ, i64_w, i32_w]
        rfl
      refine take_ (i := 4) (N := some 69) (v := ?_) (a' := ?_) #[true, true, true, true, true, false, false] rfl rfl (by kernel_rfl) (fun _ _ _ h => h) (Or.inl ⟨by rfl, ?_⟩) hHeld ?_ ?_
      rotate_left
      · intro w' s0
        go_simp
        with_reducible rfl
      rotate_left
      · simp only [Act.put, List.setIfInBounds_toArray, List.set_cons_zero, List.set_cons_succ, i64_w, i32_w]
        rfl
      refine one_ (i := 5) (N := none) #[true, true, true, true, true, true, false] rfl rfl (by kernel_rfl) (by decide) (fun K hK => ?_)
      refine skip_ (w1 := ?_) (by rfl) rfl ?_ ?_
      rotate_left
      · go_simp
        rfl
      refine hK.out _ _ ((blk_cell (blk_far (blk_far (blk_far (blk_far (blk_far (blk_far (blk_far (blk_far (blk_far BR.out (p := ⟨gg, 0, none⟩) NRG.out.symm (.string (⟨#[]⟩ : ByteArray))) (p := ⟨gg, 1, none⟩) NRG.out.symm (.string (⟨#[]⟩ : ByteArray))) (p := ⟨gg, 2, none⟩) NRG.out.symm (.int .i64 0)) (p := ⟨gg, 3, none⟩) NRG.out.symm (.int .i64 0)) (p := ⟨gg, 4, none⟩) NRG.out.symm (.int .i64 0)) (p := ⟨gg, 5, none⟩) NRG.out.symm (.int .i64 0)) (p := ⟨gg, 6, none⟩) NRG.out.symm (.int .i64 0)) (p := ⟨gg, 7, none⟩) NRG.out.symm (.int .u8 0)) (p := ⟨gg, 8, none⟩) NRG.out.symm (.string (⟨#[]⟩ : ByteArray))) 1).trans rfl) (fun hHeld => ?_)
      clear hK K
      refine pure_ (i := 6) (N := some 3) (v := ?_) (a' := ?_) #[true, true, true, true, true, true, true] rfl rfl (by kernel_rfl) (fun _ _ _ h => h) (Or.inl ⟨by rfl, ?_⟩) ?_ ?_
      rotate_left
      · intro w'
        go_simp
        with_reducible rfl
      rotate_left
      · simp only [Act.put, List.setIfInBounds_toArray, List.set_cons_zero, List.set_cons_succ, i64_w, i32_w]
        rfl
      refine done_ (by kernel_rfl) ?_
      go_wp2
      refine bodyPost_ret (results_ct rfl _ _ gg 43 #[.string (⟨#[]⟩ : ByteArray), .string (⟨#[]⟩ : ByteArray), .int .i64 0, .int .i64 0, .int .i64 0, .int .i64 0, .int .i64 0, .int .u8 0, .string (⟨#[]⟩ : ByteArray)] (0, 0) _ rfl (by have h_ := (blk_set (blk_set (blk_set (blk_set (blk_set (blk_set (blk_set (blk_set (blk_set BG.out 0 (.string (⟨#[]⟩ : ByteArray))) 1 (.string (⟨#[]⟩ : ByteArray))) 2 (.int .i64 0)) 3 (.int .i64 0)) 4 (.int .i64 0)) 5 (.int .i64 0)) 6 (.int .i64 0)) 7 (.int .u8 0)) 8 (.string (⟨#[]⟩ : ByteArray))); exact h_) Tryz.underlying43 rfl (by kernel_rfl)) rfl ?_
      exact ⟨rfl, (by repeat (first | (with_reducible first | exact HB.out | apply below_alloc | apply pw_below_drewN | apply below_drew1 | refine below_set ?_ GG.out | refine below_set ?_ GH.out) | exact HB.out))⟩
    have cE' := Decidable.of_not_not cE
    subst cE'
    clear cE
    rw [if_pos rfl] at h
    obtain ⟨b, hT, h⟩ := Option.bind_eq_some_iff.1 h
    have HT := Aside0.mk hT
    clear hT
    cases b with
    | false =>
      rw [if_neg (by decide)] at h
      unfold noHead at h
      simp only [Option.some.injEq, Prod.mk.injEq] at h
      obtain ⟨rfl, rfl, rfl, rfl, rfl, rfl, rfl, rfl, rfl, rfl⟩ := h
      go_wp2_with ((go_at_call 38; (with_reducible refine (head_IsType.calls x7 false _ HT.out).mono ?_); rintro e w14 ⟨rfl, hd⟩; have hb := drawn_below hd; have n0_ := Aside0.mk (below_step (by repeat (first | (with_reducible first | exact HB.out | apply below_alloc | apply pw_below_drewN | apply below_drew1 | refine below_set ?_ GG.out | refine below_set ?_ GH.out) | exact HB.out)) hb); have n1_ := Aside0.mk (blk_below (g := gg) (o := .cells #[.string (⟨#[]⟩ : ByteArray), .string (⟨#[]⟩ : ByteArray), .int .i64 0, .int .i64 0, .int .i64 0, .int .i64 0, .int .i64 0, .int .u8 0, .string (⟨#[]⟩ : ByteArray)] 43 (0, 0)) (by have h_ := (blk_far BG.out (p := ⟨gh, 5, none⟩) NGH.out (.int .i64 t_)); exact h_) hb); clear HB BG hb hd; have HB := n0_; have BG := n1_; clear n0_ n1_; obtain ⟨hg0, hg1, hg2, hg3, hg4, hg5, hg6, hg7, hg8, fg0, fg1, fg2, fg3, fg4, fg5, fg6, fg7, fg8⟩ := blk_all9 BG.out))
      refine bodyPost_ret (results_ct rfl _ _ gg 43 #[.string (⟨#[]⟩ : ByteArray), .string (⟨#[]⟩ : ByteArray), .int .i64 0, .int .i64 0, .int .i64 0, .int .i64 0, .int .i64 0, .int .u8 0, .string (⟨#[]⟩ : ByteArray)] (0, 0) _ rfl (by have h_ := (blk_set (blk_set (blk_set (blk_set (blk_set (blk_set (blk_set (blk_set (blk_set BG.out 0 (.string (⟨#[]⟩ : ByteArray))) 1 (.string (⟨#[]⟩ : ByteArray))) 2 (.int .i64 0)) 3 (.int .i64 0)) 4 (.int .i64 0)) 5 (.int .i64 0)) 6 (.int .i64 0)) 7 (.int .u8 0)) 8 (.string (⟨#[]⟩ : ByteArray))); exact h_) Tryz.underlying43 rfl (by kernel_rfl)) rfl ?_
      exact ⟨rfl, (by repeat (first | (with_reducible first | exact HB.out | apply below_alloc | apply pw_below_drewN | apply below_drew1 | refine below_set ?_ GG.out | refine below_set ?_ GH.out) | exact HB.out))⟩
    | true =>
      rw [if_pos rfl] at h
      obtain ⟨c, hB, h⟩ := Option.bind_eq_some_iff.1 h
      have HBw := Aside0.mk hB
      clear hB
      cases c with
      | true =>
        rw [if_pos rfl] at h
        unfold noHead at h
        simp only [Option.some.injEq, Prod.mk.injEq] at h
        obtain ⟨rfl, rfl, rfl, rfl, rfl, rfl, rfl, rfl, rfl, rfl⟩ := h
        go_wp2_with (first | (go_at_call 38; (with_reducible refine (head_IsType.calls x7 true _ HT.out).mono ?_); rintro e w' ⟨rfl, ⟨nd, rfl⟩⟩) | (go_at_call 39; (with_reducible refine (head_below.calls p_ n_ m_ u_ g_ t_ s_ x7 k_ true _ HBw.out).mono ?_); rintro e w14 ⟨rfl, hb⟩; have n0_ := Aside0.mk (below_step (by repeat (first | (with_reducible first | exact HB.out | apply below_alloc | apply pw_below_drewN | apply below_drew1 | refine below_set ?_ GG.out | refine below_set ?_ GH.out) | exact HB.out)) hb); have n1_ := Aside0.mk (blk_below (g := gg) (o := .cells #[.string (⟨#[]⟩ : ByteArray), .string (⟨#[]⟩ : ByteArray), .int .i64 0, .int .i64 0, .int .i64 0, .int .i64 0, .int .i64 0, .int .u8 0, .string (⟨#[]⟩ : ByteArray)] 43 (0, 0)) (by have h_ := (blk_far BG.out (p := ⟨gh, 5, none⟩) NGH.out (.int .i64 t_)); exact h_) hb); have n2_ := Aside0.mk (blk_below (g := gh) (o := .cells #[.string p_, .string n_, .int .i64 m_, .int .i64 u_, .int .i64 g_, .int .i64 t_, .int .i64 s_, .int .u8 x7, .string k_] 43 (0, 0)) (by have h_ := (blk_set BH.out 5 (.int .i64 t_)); exact h_) hb); clear HB BG BH hb; have HB := n0_; have BG := n1_; have BH := n2_; clear n0_ n1_ n2_; have hg0 := (blk_cell BG.out 0).trans (rfl : _ = some (.string (⟨#[]⟩ : ByteArray) : Value)); have fg0 := blk_frozen BG.out 0; have hg1 := (blk_cell BG.out 1).trans (rfl : _ = some (.string (⟨#[]⟩ : ByteArray) : Value)); have fg1 := blk_frozen BG.out 1; have hg2 := (blk_cell BG.out 2).trans (rfl : _ = some (.int .i64 0 : Value)); have fg2 := blk_frozen BG.out 2; have hg3 := (blk_cell BG.out 3).trans (rfl : _ = some (.int .i64 0 : Value)); have fg3 := blk_frozen BG.out 3; have hg4 := (blk_cell BG.out 4).trans (rfl : _ = some (.int .i64 0 : Value)); have fg4 := blk_frozen BG.out 4; have hg5 := (blk_cell BG.out 5).trans (rfl : _ = some (.int .i64 0 : Value)); have fg5 := blk_frozen BG.out 5; have hg6 := (blk_cell BG.out 6).trans (rfl : _ = some (.int .i64 0 : Value)); have fg6 := blk_frozen BG.out 6; have hg7 := (blk_cell BG.out 7).trans (rfl : _ = some (.int .u8 0 : Value)); have fg7 := blk_frozen BG.out 7; have hg8 := (blk_cell BG.out 8).trans (rfl : _ = some (.string (⟨#[]⟩ : ByteArray) : Value)); have fg8 := blk_frozen BG.out 8; have hh0 := (blk_cell BH.out 0).trans (rfl : _ = some (.string p_ : Value)); have fh0 := blk_frozen BH.out 0; have hh1 := (blk_cell BH.out 1).trans (rfl : _ = some (.string n_ : Value)); have fh1 := blk_frozen BH.out 1; have hh2 := (blk_cell BH.out 2).trans (rfl : _ = some (.int .i64 m_ : Value)); have fh2 := blk_frozen BH.out 2; have hh3 := (blk_cell BH.out 3).trans (rfl : _ = some (.int .i64 u_ : Value)); have fh3 := blk_frozen BH.out 3; have hh4 := (blk_cell BH.out 4).trans (rfl : _ = some (.int .i64 g_ : Value)); have fh4 := blk_frozen BH.out 4; have hh5 := (blk_cell BH.out 5).trans (rfl : _ = some (.int .i64 t_ : Value)); have fh5 := blk_frozen BH.out 5; have hh6 := (blk_cell BH.out 6).trans (rfl : _ = some (.int .i64 s_ : Value)); have fh6 := blk_frozen BH.out 6; have hh7 := (blk_cell BH.out 7).trans (rfl : _ = some (.int .u8 x7 : Value)); have fh7 := blk_frozen BH.out 7; have hh8 := (blk_cell BH.out 8).trans (rfl : _ = some (.string k_ : Value)); have fh8 := blk_frozen BH.out 8))
        refine bodyPost_ret (results_ct rfl _ _ gg 43 #[.string (⟨#[]⟩ : ByteArray), .string (⟨#[]⟩ : ByteArray), .int .i64 0, .int .i64 0, .int .i64 0, .int .i64 0, .int .i64 0, .int .u8 0, .string (⟨#[]⟩ : ByteArray)] (0, 0) _ rfl (by have h_ := (blk_set (blk_set (blk_set (blk_set (blk_set (blk_set (blk_set (blk_set (blk_set BG.out 0 (.string (⟨#[]⟩ : ByteArray))) 1 (.string (⟨#[]⟩ : ByteArray))) 2 (.int .i64 0)) 3 (.int .i64 0)) 4 (.int .i64 0)) 5 (.int .i64 0)) 6 (.int .i64 0)) 7 (.int .u8 0)) 8 (.string (⟨#[]⟩ : ByteArray))); exact h_) Tryz.underlying43 rfl (by kernel_rfl)) rfl ?_
        exact ⟨rfl, (by repeat (first | (with_reducible first | exact HB.out | apply below_alloc | apply pw_below_drewN | apply below_drew1 | refine below_set ?_ GG.out | refine below_set ?_ GH.out) | exact HB.out))⟩
      | false =>
        rw [if_neg (by decide)] at h
        simp only [Option.some.injEq, Prod.mk.injEq] at h
        obtain ⟨rfl, rfl, rfl, rfl, rfl, rfl, rfl, rfl, rfl, rfl⟩ := h
        go_wp2_with (first | (go_at_call 38; (with_reducible refine (head_IsType.calls x7 true _ HT.out).mono ?_); rintro e w' ⟨rfl, ⟨nd, rfl⟩⟩) | (go_at_call 39; (with_reducible refine (head_below.calls p_ n_ m_ u_ g_ t_ s_ x7 k_ false _ HBw.out).mono ?_); rintro e w14 ⟨rfl, hb⟩; have n0_ := Aside0.mk (below_step (by repeat (first | (with_reducible first | exact HB.out | apply below_alloc | apply pw_below_drewN | apply below_drew1 | refine below_set ?_ GG.out | refine below_set ?_ GH.out) | exact HB.out)) hb); have n1_ := Aside0.mk (blk_below (g := gg) (o := .cells #[.string (⟨#[]⟩ : ByteArray), .string (⟨#[]⟩ : ByteArray), .int .i64 0, .int .i64 0, .int .i64 0, .int .i64 0, .int .i64 0, .int .u8 0, .string (⟨#[]⟩ : ByteArray)] 43 (0, 0)) (by have h_ := (blk_far BG.out (p := ⟨gh, 5, none⟩) NGH.out (.int .i64 t_)); exact h_) hb); have n2_ := Aside0.mk (blk_below (g := gh) (o := .cells #[.string p_, .string n_, .int .i64 m_, .int .i64 u_, .int .i64 g_, .int .i64 t_, .int .i64 s_, .int .u8 x7, .string k_] 43 (0, 0)) (by have h_ := (blk_set BH.out 5 (.int .i64 t_)); exact h_) hb); clear HB BG BH hb; have HB := n0_; have BG := n1_; have BH := n2_; clear n0_ n1_ n2_; have hg0 := (blk_cell BG.out 0).trans (rfl : _ = some (.string (⟨#[]⟩ : ByteArray) : Value)); have fg0 := blk_frozen BG.out 0; have hg1 := (blk_cell BG.out 1).trans (rfl : _ = some (.string (⟨#[]⟩ : ByteArray) : Value)); have fg1 := blk_frozen BG.out 1; have hg2 := (blk_cell BG.out 2).trans (rfl : _ = some (.int .i64 0 : Value)); have fg2 := blk_frozen BG.out 2; have hg3 := (blk_cell BG.out 3).trans (rfl : _ = some (.int .i64 0 : Value)); have fg3 := blk_frozen BG.out 3; have hg4 := (blk_cell BG.out 4).trans (rfl : _ = some (.int .i64 0 : Value)); have fg4 := blk_frozen BG.out 4; have hg5 := (blk_cell BG.out 5).trans (rfl : _ = some (.int .i64 0 : Value)); have fg5 := blk_frozen BG.out 5; have hg6 := (blk_cell BG.out 6).trans (rfl : _ = some (.int .i64 0 : Value)); have fg6 := blk_frozen BG.out 6; have hg7 := (blk_cell BG.out 7).trans (rfl : _ = some (.int .u8 0 : Value)); have fg7 := blk_frozen BG.out 7; have hg8 := (blk_cell BG.out 8).trans (rfl : _ = some (.string (⟨#[]⟩ : ByteArray) : Value)); have fg8 := blk_frozen BG.out 8; have hh0 := (blk_cell BH.out 0).trans (rfl : _ = some (.string p_ : Value)); have fh0 := blk_frozen BH.out 0; have hh1 := (blk_cell BH.out 1).trans (rfl : _ = some (.string n_ : Value)); have fh1 := blk_frozen BH.out 1; have hh2 := (blk_cell BH.out 2).trans (rfl : _ = some (.int .i64 m_ : Value)); have fh2 := blk_frozen BH.out 2; have hh3 := (blk_cell BH.out 3).trans (rfl : _ = some (.int .i64 u_ : Value)); have fh3 := blk_frozen BH.out 3; have hh4 := (blk_cell BH.out 4).trans (rfl : _ = some (.int .i64 g_ : Value)); have fh4 := blk_frozen BH.out 4; have hh5 := (blk_cell BH.out 5).trans (rfl : _ = some (.int .i64 t_ : Value)); have fh5 := blk_frozen BH.out 5; have hh6 := (blk_cell BH.out 6).trans (rfl : _ = some (.int .i64 s_ : Value)); have fh6 := blk_frozen BH.out 6; have hh7 := (blk_cell BH.out 7).trans (rfl : _ = some (.int .u8 x7 : Value)); have fh7 := blk_frozen BH.out 7; have hh8 := (blk_cell BH.out 8).trans (rfl : _ = some (.string k_ : Value)); have fh8 := blk_frozen BH.out 8))
        refine bodyPost_ret (results_ct rfl _ _ gg 43 #[.string p_, .string n_, .int .i64 m_, .int .i64 u_, .int .i64 g_, .int .i64 t_, .int .i64 s_, .int .u8 x7, .string k_] (0, 0) _ rfl (by have h_ := (blk_set (blk_set (blk_set (blk_set (blk_set (blk_set (blk_set (blk_set (blk_set BG.out 0 (.string p_)) 1 (.string n_)) 2 (.int .i64 m_)) 3 (.int .i64 u_)) 4 (.int .i64 g_)) 5 (.int .i64 t_)) 6 (.int .i64 s_)) 7 (.int .u8 x7)) 8 (.string k_)); exact h_) Tryz.underlying43 rfl (by kernel_rfl)) rfl ?_
        exact ⟨rfl, (by repeat (first | (with_reducible first | exact HB.out | apply below_alloc | apply pw_below_drewN | apply below_drew1 | refine below_set ?_ GG.out | refine below_set ?_ GH.out) | exact HB.out))⟩
end Go.Proofs.YtjidenkhgeoaiaaGreatDoor.Hand

/- head.Parse: more rounds give the same answer. -/
namespace Go.Proofs.YtjidenkhgeoaiaaGreatDoor.Hand
open Go.RowKit Go.Proofs.YtjidenkhgeoaiaaGreatDoor.P Go.Proofs.YtjidenkhgeoaiaaGreatDoorW Go.Proofs.YtjidenkhgeoaiaaGreatDoorW.PrintWords Go.Proofs.YtjidenkhgeoaiaaGreatDoorW.PrintLast Go.Proofs.YtjidenkhgeoaiaaGreatDoorW.PrintMore
set_option linter.unusedVariables false
set_option linter.unusedSimpArgs false
theorem head_Parse.mono : ∀ l k, LeO (head_Parse.f k l) (head_Parse.f (k + 1) l) := by
  intro l k
  unfold head_Parse.f
  exact LeO.bind (hsum_Check.mono _ _) (fun _ => LeO.refl _)
end Go.Proofs.YtjidenkhgeoaiaaGreatDoor.Hand

namespace Go.Proofs.YtjidenkhgeoaiaaGreatDoor.P
open Go.RowKit Go.Proofs.YtjidenkhgeoaiaaGreatDoorW.PrintWords Go.Proofs.YtjidenkhgeoaiaaGreatDoorW.PrintLast Go.Proofs.YtjidenkhgeoaiaaGreatDoorW.PrintMore Go.Proofs.YtjidenkhgeoaiaaGreatDoor.Hand
attribute [local go_sem] max2_int min2_int max_two min_two max_three min_three max_four min_four   -- for this text's walks alone
set_option linter.unusedVariables false
set_option linter.unusedSimpArgs false

/-! ### thwartlaw08_alive: function 10 -/
def thwartlaw08_alive.f (k : Nat)  : Option (Bool) := (memb_Lay.f k (⟨#[97]⟩ : ByteArray) 4 0 0 0 0 (⟨#[]⟩ : ByteArray) ([] : List Int)).bind fun bt232 => ((head_Parse.f k bt232.1).bind fun bt236 => ((memb_From.f k bt236.1 bt236.2.1 bt236.2.2.1 bt236.2.2.2.1 bt236.2.2.2.2.1 bt236.2.2.2.2.2.1 bt236.2.2.2.2.2.2.1 bt236.2.2.2.2.2.2.2.1 bt236.2.2.2.2.2.2.2.2.1 ([] : List (S35)) ([] : List Int)).bind fun bt247 => (if (bt232.1.length : Int) = 512 then (if bt232.2 = 0 then (if bt236.2.2.2.2.2.2.2.2.2 = 0 then ((memb_Same.f bt247.1 bt247.2.1 bt247.2.2.1 bt247.2.2.2.1 bt247.2.2.2.2.1 bt247.2.2.2.2.2.1 bt247.2.2.2.2.2.2.1 bt247.2.2.2.2.2.2.2.1 (⟨#[97]⟩ : ByteArray) 4 0 0 0 0 (⟨#[]⟩ : ByteArray) ([] : List Int)).bind fun t259 => (if t259 = true then (if bt247.2.2.2.2.2.2.2.2 = 0 then ((memb_Type.f 3).bind fun t260 => (if t260 = 50 then ((memb_Kind.f 53).bind fun t261 => (if t261 = 4 then ((memb_Len.f k (⟨#[97]⟩ : ByteArray) 4 0 0 0 0 (⟨#[]⟩ : ByteArray) ([] : List Int)).bind fun t262 => (some (t262 == 512))) else (some false))) else (some false))) else (some false)) else (some false))) else (some false)) else (some false)) else (some false))))
theorem thwartlaw08_alive.mono : ∀ k, LeO (thwartlaw08_alive.f k ) (thwartlaw08_alive.f (k + 1) ) := by
 intro  k
 unfold thwartlaw08_alive.f
 repeat' first
   | (with_reducible exact head_Parse.mono _ _)
   | (with_reducible exact memb_From.mono _ _ _ _ _ _ _ _ _ _ _ _)
   | (with_reducible exact memb_Lay.mono _ _ _ _ _ _ _ _ _)
   | (with_reducible exact memb_Len.mono _ _ _ _ _ _ _ _ _)
   | (with_reducible exact LeO.refl _)
   | (with_reducible exact LeO.none _)
   | (with_reducible refine LeO.ite ?_ ?_)
   | (with_reducible refine LeO.bind ?_ (fun _ => ?_))
   | exact head_Parse.mono _ _
   | exact memb_From.mono _ _ _ _ _ _ _ _ _ _ _ _
   | exact memb_Lay.mono _ _ _ _ _ _ _ _ _
   | exact memb_Len.mono _ _ _ _ _ _ _ _ _
   | exact LeO.none _
   | refine LeO.ite ?_ ?_
   | refine LeO.bind ?_ (fun _ => ?_)
set_option maxHeartbeats 8000000 in
set_option maxRecDepth 100000 in
theorem thwartlaw08_alive.calls (k : Nat)  (r : Bool) (w : World) (HTB : Aside0 (TabOk w)) (htrue : r = true) (h : thwartlaw08_alive.f k  = some r) :
  Calls Tryz.prog 10 #[] w fun e w' => e = .returned (.bool r) ∧ Below w.heap.size w w' := by
 have HT := Aside0.mk htrue
 clear htrue
 have hu38 := Tryz.underlying38
 have hu43 := Tryz.underlying43
 have HB := Aside0.mk (Below.refl w.heap.size w)
 have H : ((memb_Lay.f k (⟨#[97]⟩ : ByteArray) 4 0 0 0 0 (⟨#[]⟩ : ByteArray) ([] : List Int)).bind fun bt232 => ((head_Parse.f k bt232.1).bind fun bt236 => ((memb_From.f k bt236.1 bt236.2.1 bt236.2.2.1 bt236.2.2.2.1 bt236.2.2.2.2.1 bt236.2.2.2.2.2.1 bt236.2.2.2.2.2.2.1 bt236.2.2.2.2.2.2.2.1 bt236.2.2.2.2.2.2.2.2.1 ([] : List (S35)) ([] : List Int)).bind fun bt247 => (if (bt232.1.length : Int) = 512 then (if bt232.2 = 0 then (if bt236.2.2.2.2.2.2.2.2.2 = 0 then ((memb_Same.f bt247.1 bt247.2.1 bt247.2.2.1 bt247.2.2.2.1 bt247.2.2.2.2.1 bt247.2.2.2.2.2.1 bt247.2.2.2.2.2.2.1 bt247.2.2.2.2.2.2.2.1 (⟨#[97]⟩ : ByteArray) 4 0 0 0 0 (⟨#[]⟩ : ByteArray) ([] : List Int)).bind fun t259 => (if t259 = true then (if bt247.2.2.2.2.2.2.2.2 = 0 then ((memb_Type.f 3).bind fun t260 => (if t260 = 50 then ((memb_Kind.f 53).bind fun t261 => (if t261 = 4 then ((memb_Len.f k (⟨#[97]⟩ : ByteArray) 4 0 0 0 0 (⟨#[]⟩ : ByteArray) ([] : List Int)).bind fun t262 => (some (t262 == 512))) else (some false))) else (some false))) else (some false)) else (some false))) else (some false)) else (some false)) else (some false))))) = some r := h
 clear h
 replace H := Option.bind_eq_some_iff.mp H
 obtain ⟨⟨t232, t235⟩, A10, H⟩ := H
 try dsimp only at H
 have A1 := Aside0.mk A10
 clear A10
 replace H := Option.bind_eq_some_iff.mp H
 obtain ⟨⟨t236, t237, t238, t239, t240, t241, t242, t243, t244, t245⟩, A20, H⟩ := H
 try dsimp only at H
 have A2 := Aside0.mk A20
 clear A20
 replace H := Option.bind_eq_some_iff.mp H
 obtain ⟨⟨t247, t248, t249, t250, t251, t252, t253, t254, t257⟩, A30, H⟩ := H
 try dsimp only at H
 have A3 := Aside0.mk A30
 clear A30
 by_cases c4 : (t232.length : Int) = 512
 ·rw [if_pos c4] at H
  have c4b0 : ((t232.length : Int) == 512) = true := beq_iff_eq.mpr c4
  have c4b1 : ((t232.length : Int) != 512) = false := bne_eq_false_iff_eq.mpr c4
  clear c4
  by_cases c5 : t235 = 0
  ·rw [if_pos c5] at H
   have c5b0 : (t235 == 0) = true := beq_iff_eq.mpr c5
   have c5b1 : (t235 != 0) = false := bne_eq_false_iff_eq.mpr c5
   clear c5
   by_cases c6 : t245 = 0
   ·rw [if_pos c6] at H
    have c6b0 : (t245 == 0) = true := beq_iff_eq.mpr c6
    have c6b1 : (t245 != 0) = false := bne_eq_false_iff_eq.mpr c6
    clear c6
    replace H := Option.bind_eq_some_iff.mp H
    obtain ⟨t259, A70, H⟩ := H
    try dsimp only at H
    have A7 := Aside0.mk A70
    clear A70
    by_cases c8 : t259 = true
    ·subst c8
     have H1 := H; rw [if_pos rfl] at H1
     clear H
     have H := H1
     clear H1
     by_cases c9 : t257 = 0
     ·rw [if_pos c9] at H
      have c9b0 : (t257 == 0) = true := beq_iff_eq.mpr c9
      have c9b1 : (t257 != 0) = false := bne_eq_false_iff_eq.mpr c9
      clear c9
      replace H := Option.bind_eq_some_iff.mp H
      obtain ⟨t260, A100, H⟩ := H
      try dsimp only at H
      have A10 := Aside0.mk A100
      clear A100
      by_cases c11 : t260 = 50
      ·rw [if_pos c11] at H
       have c11b0 : (t260 == 50) = true := beq_iff_eq.mpr c11
       have c11b1 : (t260 != 50) = false := bne_eq_false_iff_eq.mpr c11
       clear c11
       replace H := Option.bind_eq_some_iff.mp H
       obtain ⟨t261, A120, H⟩ := H
       try dsimp only at H
       have A12 := Aside0.mk A120
       clear A120
       by_cases c13 : t261 = 4
       ·rw [if_pos c13] at H
        have c13b0 : (t261 == 4) = true := beq_iff_eq.mpr c13
        have c13b1 : (t261 != 4) = false := bne_eq_false_iff_eq.mpr c13
        clear c13
        replace H := Option.bind_eq_some_iff.mp H
        obtain ⟨t262, A140, H⟩ := H
        try dsimp only at H
        have A14 := Aside0.mk A140
        clear A140
        obtain rfl := Option.some.inj H
        go_enter Tryz.func10, Tryz.ntmps10
        go_wp2_with (first | ((with_reducible refine gate_dst (N := 1) rfl ?_); refine boxA_ 1 38 #[.string (⟨#[]⟩ : ByteArray), .int .i64 0, .int .i64 0, .int .i64 0, .int .i64 0, .int .i64 0, .string (⟨#[]⟩ : ByteArray), .slice none 0 0] ?_; intro gb231 hg w15 hbox hb; have n0_ := Aside0.mk (bstep_ hb); have n1_ := Aside0.mk (hbox); have n2_ := Aside0.mk ((by rw [hg]; exact bsize_ : w.heap.size ≤ gb231)); have n3_ := Aside0.mk ((by rw [hg]; exact bsize_ : w.heap.size ≤ gb231)); clear HB; have HB := n0_; have BK231 := n1_; have GW231 := n2_; have GE231 := n3_; clear n0_ n1_ n2_ n3_; clear hb hbox hg; obtain ⟨hcz16_0, hcz16_1, hcz16_2, hcz16_3, hcz16_4, hcz16_5, hcz16_6, hcz16_7, hfz16_0, hfz16_1, hfz16_2, hfz16_3, hfz16_4, hfz16_5, hfz16_6, hfz16_7⟩ := blk_all8 BK231.out) | ((with_reducible refine gate_callee (f := 16) rfl ?_); refine goesL_ (some 11) rfl rfl Tryz.func16 (by kernel_rfl) rfl #[.agg #[.string (⟨#[97]⟩ : ByteArray), .int .i64 4, .int .i64 0, .int .i64 0, .int .i64 0, .int .i64 0, .string (⟨#[]⟩ : ByteArray), .slice none 0 0]] rfl (by (try simp only [List.map_toArray, List.map_cons, List.map_nil]); first | done | rfl | (simp only [List.length_drop, List.length_take]; rfl)) ?_; (refine (memb_Lay.calls k (⟨#[97]⟩ : ByteArray) 4 0 0 0 0 (⟨#[]⟩ : ByteArray) _ _ ([] : List Int) t232 t235 _ ⟨HTB.out.below belA_⟩ ?side1 ?side2 A1.out).mono ?_); (case side1 => exact Kd.C_nil _ _); (case side2 => exact Nat.le_refl _); rintro e w17 ⟨v233, rfl, ho0, hb⟩; refine ⟨_, rfl, ?_⟩; have n0_ := Aside0.mk (Kd.R_lower ho0 bsize_); have n1_ := Aside0.mk (blk_below (g := gb231) (o := .cells #[.string (⟨#[97]⟩ : ByteArray), .int .i64 4, .int .i64 0, .int .i64 0, .int .i64 0, .int .i64 0, .string (⟨#[]⟩ : ByteArray), .slice none 0 0] 38 (0, 0)) (by (with_reducible repeat (first | refine blk_drewN ?_ _ | refine blk_drew ?_ | refine blk_alloc ?_ _)); refine blk_put (cs := #[.string (⟨#[97]⟩ : ByteArray), .int .i64 4, .int .i64 0, .int .i64 0, .int .i64 0, .int .i64 0, .string (⟨#[]⟩ : ByteArray), .slice none 0 0]) ?_ 7 _ rfl; (with_reducible repeat (first | refine blk_drewN ?_ _ | refine blk_drew ?_ | refine blk_alloc ?_ _)); refine blk_put (cs := #[.string (⟨#[97]⟩ : ByteArray), .int .i64 4, .int .i64 0, .int .i64 0, .int .i64 0, .int .i64 0, .string (⟨#[]⟩ : ByteArray), .slice none 0 0]) ?_ 6 _ rfl; (with_reducible repeat (first | refine blk_drewN ?_ _ | refine blk_drew ?_ | refine blk_alloc ?_ _)); refine blk_put (cs := #[.string (⟨#[97]⟩ : ByteArray), .int .i64 4, .int .i64 0, .int .i64 0, .int .i64 0, .int .i64 0, .string (⟨#[]⟩ : ByteArray), .slice none 0 0]) ?_ 5 _ rfl; (with_reducible repeat (first | refine blk_drewN ?_ _ | refine blk_drew ?_ | refine blk_alloc ?_ _)); refine blk_put (cs := #[.string (⟨#[97]⟩ : ByteArray), .int .i64 4, .int .i64 0, .int .i64 0, .int .i64 0, .int .i64 0, .string (⟨#[]⟩ : ByteArray), .slice none 0 0]) ?_ 4 _ rfl; (with_reducible repeat (first | refine blk_drewN ?_ _ | refine blk_drew ?_ | refine blk_alloc ?_ _)); refine blk_put (cs := #[.string (⟨#[97]⟩ : ByteArray), .int .i64 4, .int .i64 0, .int .i64 0, .int .i64 0, .int .i64 0, .string (⟨#[]⟩ : ByteArray), .slice none 0 0]) ?_ 3 _ rfl; (with_reducible repeat (first | refine blk_drewN ?_ _ | refine blk_drew ?_ | refine blk_alloc ?_ _)); refine blk_put (cs := #[.string (⟨#[97]⟩ : ByteArray), .int .i64 4, .int .i64 0, .int .i64 0, .int .i64 0, .int .i64 0, .string (⟨#[]⟩ : ByteArray), .slice none 0 0]) ?_ 2 _ rfl; (with_reducible repeat (first | refine blk_drewN ?_ _ | refine blk_drew ?_ | refine blk_alloc ?_ _)); refine blk_put (cs := #[.string (⟨#[97]⟩ : ByteArray), .int .i64 0, .int .i64 0, .int .i64 0, .int .i64 0, .int .i64 0, .string (⟨#[]⟩ : ByteArray), .slice none 0 0]) ?_ 1 _ rfl; (with_reducible repeat (first | refine blk_drewN ?_ _ | refine blk_drew ?_ | refine blk_alloc ?_ _)); refine blk_put (cs := #[.string (⟨#[]⟩ : ByteArray), .int .i64 0, .int .i64 0, .int .i64 0, .int .i64 0, .int .i64 0, .string (⟨#[]⟩ : ByteArray), .slice none 0 0]) ?_ 0 _ rfl; (with_reducible repeat (first | refine blk_drewN ?_ _ | refine blk_drew ?_ | refine blk_alloc ?_ _)); exact BK231.out) hb); have n2_ := Aside0.mk (bstep_ hb); clear BK231; clear HB; have HO234 := n0_; have BK231 := n1_; have HB := n2_; clear n0_ n1_ n2_; (try clear hb); (try clear hb2); (try clear hk); (try clear hi); (try clear ho0); obtain ⟨Ao18, co18, eo18⟩ := Kd.R_slice HO234.out; subst eo18) | ((with_reducible refine gate_callee (f := 18) rfl ?_); refine goesA_ (some 16) Tryz.func18 #[.slice Ao18 t232.length co18] ?_; (with_reducible refine (head_Parse.calls k _ _ t232 t236 t237 t238 t239 t240 t241 t242 t243 t244 t245 _ ?side1 ?side2 A2.out).mono ?_); (case side1 => repeat (first | exact (Kd.R_reads' HO234.out).2.2 | (with_reducible refine Kd.C_alloc ?_ _) | (with_reducible refine Kd.C_drewN ?_ _) | (with_reducible refine Kd.C_drew ?_))); (case side2 => exact (Kd.R_reads' HO234.out).2.1); rintro e w19 ⟨rfl, hb⟩; refine ⟨_, rfl, ?_⟩; have n0_ := Aside0.mk (Kd.R_below (by (with_reducible repeat (first | apply Kd.R_alloc | apply Kd.R_drewN | apply Kd.R_drew)); exact HO234.out) hb); have n1_ := Aside0.mk (blkB_ BK231.out hb); have n2_ := Aside0.mk (bstep_ hb); clear HO234; clear BK231; clear HB; have HO234 := n0_; have BK231 := n1_; have HB := n2_; clear n0_ n1_ n2_; (try clear hb); (try clear hb2); (try clear hk); (try clear hi)) | ((with_reducible refine gate_dst (N := 4) rfl ?_); refine boxA_ 4 43 #[.string (⟨#[]⟩ : ByteArray), .string (⟨#[]⟩ : ByteArray), .int .i64 0, .int .i64 0, .int .i64 0, .int .i64 0, .int .i64 0, .int .u8 0, .string (⟨#[]⟩ : ByteArray)] ?_; intro gb246 hg w20 hbox hb; have n0_ := Aside0.mk (Kd.R_below (by (with_reducible repeat (first | apply Kd.R_alloc | apply Kd.R_drewN | apply Kd.R_drew)); exact HO234.out) hb); have n1_ := Aside0.mk (blkB_ BK231.out hb); have n2_ := Aside0.mk (bstep_ hb); have n3_ := Aside0.mk (hbox); have n4_ := Aside0.mk ((by rw [hg]; exact bsize_ : w.heap.size ≤ gb246)); have n5_ := Aside0.mk ((by rw [hg]; exact bsize_ : w.heap.size ≤ gb246)); have n6_ := Aside0.mk ((by rw [hg]; exact Nat.ne_of_lt (blkL_ BK231.out) : gb231 ≠ gb246)); have n7_ := Aside0.mk ((by rw [hg]; exact Nat.ne_of_gt (blkL_ BK231.out) : gb246 ≠ gb231)); clear HO234; clear BK231; clear HB; have HO234 := n0_; have BK231 := n1_; have HB := n2_; have BK246 := n3_; have GW246 := n4_; have GE246 := n5_; have NB231_246 := n6_; have NB246_231 := n7_; clear n0_ n1_ n2_ n3_ n4_ n5_ n6_ n7_; clear hb hbox hg; have hnb21 := NB246_231.out; have hnc21 := NB231_246.out; obtain ⟨hcz22_0, hcz22_1, hcz22_2, hcz22_3, hcz22_4, hcz22_5, hcz22_6, hcz22_7, hcz22_8, hfz22_0, hfz22_1, hfz22_2, hfz22_3, hfz22_4, hfz22_5, hfz22_6, hfz22_7, hfz22_8⟩ := blk_all9 BK246.out) | ((with_reducible refine gate_callee (f := 11) rfl ?_); refine goesA_ (some 21) Tryz.func11 #[.agg #[.string t236, .string t237, .int .i64 t238, .int .i64 t239, .int .i64 t240, .int .i64 t241, .int .i64 t242, .int .u8 t243, .string t244], .slice none 0 0, .slice none 0 0] ?_; (refine (memb_From.calls k t236 t237 t238 t239 t240 t241 t242 t243 t244 _ _ ([] : List (S35)) _ _ ([] : List Int) t247 t248 t249 t250 t251 t252 t253 t254 t257 _ ?side1 ?side2 ?side3 ?side4 A3.out).mono ?_); (case side1 => exact Kd.C_nil _ _); (case side2 => exact Nat.le_refl _); (case side3 => exact Kd.C_nil _ _); (case side4 => exact Nat.le_refl _); rintro e w23 ⟨v255, rfl, ho0, hb⟩; refine ⟨_, rfl, ?_⟩; have n0_ := Aside0.mk (Kd.R_elder' (by (with_reducible repeat (first | apply Kd.R_alloc | apply Kd.R_drewN | apply Kd.R_drew)); exact (Kd.R_mono (Kd.R_far (p := ⟨gb246, 8, none⟩) (Kd.R_far (p := ⟨gb246, 7, none⟩) (Kd.R_far (p := ⟨gb246, 6, none⟩) (Kd.R_far (p := ⟨gb246, 5, none⟩) (Kd.R_far (p := ⟨gb246, 4, none⟩) (Kd.R_far (p := ⟨gb246, 3, none⟩) (Kd.R_far (p := ⟨gb246, 2, none⟩) (Kd.R_far (p := ⟨gb246, 1, none⟩) (Kd.R_far (p := ⟨gb246, 0, none⟩) (Kd.R_types HO234.out BK246.out (by decide)) (fun _ hk => hk.2) (.string t236)) (fun _ hk => hk.2) (.string t237)) (fun _ hk => hk.2) (.int .i64 t238)) (fun _ hk => hk.2) (.int .i64 t239)) (fun _ hk => hk.2) (.int .i64 t240)) (fun _ hk => hk.2) (.int .i64 t241)) (fun _ hk => hk.2) (.int .i64 t242)) (fun _ hk => hk.2) (.int .u8 t243)) (fun _ hk => hk.2) (.string t244)) (fun _ h_ => h_.1))) (Kd.R_base ho0) hb); have n1_ := Aside0.mk (Kd.R_lower (Kd.R_new' ho0 (Kd.R_lt (by (with_reducible repeat (first | apply Kd.R_alloc | apply Kd.R_drewN | apply Kd.R_drew)); exact (Kd.R_mono (Kd.R_far (p := ⟨gb246, 8, none⟩) (Kd.R_far (p := ⟨gb246, 7, none⟩) (Kd.R_far (p := ⟨gb246, 6, none⟩) (Kd.R_far (p := ⟨gb246, 5, none⟩) (Kd.R_far (p := ⟨gb246, 4, none⟩) (Kd.R_far (p := ⟨gb246, 3, none⟩) (Kd.R_far (p := ⟨gb246, 2, none⟩) (Kd.R_far (p := ⟨gb246, 1, none⟩) (Kd.R_far (p := ⟨gb246, 0, none⟩) (Kd.R_types HO234.out BK246.out (by decide)) (fun _ hk => hk.2) (.string t236)) (fun _ hk => hk.2) (.string t237)) (fun _ hk => hk.2) (.int .i64 t238)) (fun _ hk => hk.2) (.int .i64 t239)) (fun _ hk => hk.2) (.int .i64 t240)) (fun _ hk => hk.2) (.int .i64 t241)) (fun _ hk => hk.2) (.int .i64 t242)) (fun _ hk => hk.2) (.int .u8 t243)) (fun _ hk => hk.2) (.string t244)) (fun _ h_ => h_.1))))) bsize_); have n2_ := Aside0.mk (blk_below (g := gb231) (o := .cells #[.string (⟨#[97]⟩ : ByteArray), .int .i64 4, .int .i64 0, .int .i64 0, .int .i64 0, .int .i64 0, .string (⟨#[]⟩ : ByteArray), .slice none 0 0] 38 (0, 0)) (by (with_reducible repeat (first | refine blk_drewN ?_ _ | refine blk_drew ?_ | refine blk_alloc ?_ _)); refine blk_far ?_ NB231_246.out _; (with_reducible repeat (first | refine blk_drewN ?_ _ | refine blk_drew ?_ | refine blk_alloc ?_ _)); refine blk_far ?_ NB231_246.out _; (with_reducible repeat (first | refine blk_drewN ?_ _ | refine blk_drew ?_ | refine blk_alloc ?_ _)); refine blk_far ?_ NB231_246.out _; (with_reducible repeat (first | refine blk_drewN ?_ _ | refine blk_drew ?_ | refine blk_alloc ?_ _)); refine blk_far ?_ NB231_246.out _; (with_reducible repeat (first | refine blk_drewN ?_ _ | refine blk_drew ?_ | refine blk_alloc ?_ _)); refine blk_far ?_ NB231_246.out _; (with_reducible repeat (first | refine blk_drewN ?_ _ | refine blk_drew ?_ | refine blk_alloc ?_ _)); refine blk_far ?_ NB231_246.out _; (with_reducible repeat (first | refine blk_drewN ?_ _ | refine blk_drew ?_ | refine blk_alloc ?_ _)); refine blk_far ?_ NB231_246.out _; (with_reducible repeat (first | refine blk_drewN ?_ _ | refine blk_drew ?_ | refine blk_alloc ?_ _)); refine blk_far ?_ NB231_246.out _; (with_reducible repeat (first | refine blk_drewN ?_ _ | refine blk_drew ?_ | refine blk_alloc ?_ _)); refine blk_far ?_ NB231_246.out _; (with_reducible repeat (first | refine blk_drewN ?_ _ | refine blk_drew ?_ | refine blk_alloc ?_ _)); exact BK231.out) hb); have n3_ := Aside0.mk (blk_below (g := gb246) (o := .cells #[.string t236, .string t237, .int .i64 t238, .int .i64 t239, .int .i64 t240, .int .i64 t241, .int .i64 t242, .int .u8 t243, .string t244] 43 (0, 0)) (by (with_reducible repeat (first | refine blk_drewN ?_ _ | refine blk_drew ?_ | refine blk_alloc ?_ _)); refine blk_put (cs := #[.string t236, .string t237, .int .i64 t238, .int .i64 t239, .int .i64 t240, .int .i64 t241, .int .i64 t242, .int .u8 t243, .string (⟨#[]⟩ : ByteArray)]) ?_ 8 _ rfl; (with_reducible repeat (first | refine blk_drewN ?_ _ | refine blk_drew ?_ | refine blk_alloc ?_ _)); refine blk_put (cs := #[.string t236, .string t237, .int .i64 t238, .int .i64 t239, .int .i64 t240, .int .i64 t241, .int .i64 t242, .int .u8 0, .string (⟨#[]⟩ : ByteArray)]) ?_ 7 _ rfl; (with_reducible repeat (first | refine blk_drewN ?_ _ | refine blk_drew ?_ | refine blk_alloc ?_ _)); refine blk_put (cs := #[.string t236, .string t237, .int .i64 t238, .int .i64 t239, .int .i64 t240, .int .i64 t241, .int .i64 0, .int .u8 0, .string (⟨#[]⟩ : ByteArray)]) ?_ 6 _ rfl; (with_reducible repeat (first | refine blk_drewN ?_ _ | refine blk_drew ?_ | refine blk_alloc ?_ _)); refine blk_put (cs := #[.string t236, .string t237, .int .i64 t238, .int .i64 t239, .int .i64 t240, .int .i64 0, .int .i64 0, .int .u8 0, .string (⟨#[]⟩ : ByteArray)]) ?_ 5 _ rfl; (with_reducible repeat (first | refine blk_drewN ?_ _ | refine blk_drew ?_ | refine blk_alloc ?_ _)); refine blk_put (cs := #[.string t236, .string t237, .int .i64 t238, .int .i64 t239, .int .i64 0, .int .i64 0, .int .i64 0, .int .u8 0, .string (⟨#[]⟩ : ByteArray)]) ?_ 4 _ rfl; (with_reducible repeat (first | refine blk_drewN ?_ _ | refine blk_drew ?_ | refine blk_alloc ?_ _)); refine blk_put (cs := #[.string t236, .string t237, .int .i64 t238, .int .i64 0, .int .i64 0, .int .i64 0, .int .i64 0, .int .u8 0, .string (⟨#[]⟩ : ByteArray)]) ?_ 3 _ rfl; (with_reducible repeat (first | refine blk_drewN ?_ _ | refine blk_drew ?_ | refine blk_alloc ?_ _)); refine blk_put (cs := #[.string t236, .string t237, .int .i64 0, .int .i64 0, .int .i64 0, .int .i64 0, .int .i64 0, .int .u8 0, .string (⟨#[]⟩ : ByteArray)]) ?_ 2 _ rfl; (with_reducible repeat (first | refine blk_drewN ?_ _ | refine blk_drew ?_ | refine blk_alloc ?_ _)); refine blk_put (cs := #[.string t236, .string (⟨#[]⟩ : ByteArray), .int .i64 0, .int .i64 0, .int .i64 0, .int .i64 0, .int .i64 0, .int .u8 0, .string (⟨#[]⟩ : ByteArray)]) ?_ 1 _ rfl; (with_reducible repeat (first | refine blk_drewN ?_ _ | refine blk_drew ?_ | refine blk_alloc ?_ _)); refine blk_put (cs := #[.string (⟨#[]⟩ : ByteArray), .string (⟨#[]⟩ : ByteArray), .int .i64 0, .int .i64 0, .int .i64 0, .int .i64 0, .int .i64 0, .int .u8 0, .string (⟨#[]⟩ : ByteArray)]) ?_ 0 _ rfl; (with_reducible repeat (first | refine blk_drewN ?_ _ | refine blk_drew ?_ | refine blk_alloc ?_ _)); exact BK246.out) hb); have n4_ := Aside0.mk (bstep_ hb); clear HO234; clear BK231; clear BK246; clear HB; have HO234 := n0_; have HO256 := n1_; have BK231 := n2_; have BK246 := n3_; have HB := n4_; clear n0_ n1_ n2_ n3_ n4_; (try clear hb); (try clear hb2); (try clear hk); (try clear hi); (try clear ho0)) | ((with_reducible refine gate_dst (N := 6) rfl ?_); refine boxA_ 6 38 #[.string (⟨#[]⟩ : ByteArray), .int .i64 0, .int .i64 0, .int .i64 0, .int .i64 0, .int .i64 0, .string (⟨#[]⟩ : ByteArray), .slice none 0 0] ?_; intro gb258 hg w24 hbox hb; have n0_ := Aside0.mk (Kd.R_below (by (with_reducible repeat (first | apply Kd.R_alloc | apply Kd.R_drewN | apply Kd.R_drew)); exact HO234.out) hb); have n1_ := Aside0.mk (Kd.R_below (by (with_reducible repeat (first | apply Kd.R_alloc | apply Kd.R_drewN | apply Kd.R_drew)); exact HO256.out) hb); have n2_ := Aside0.mk (blkB_ BK231.out hb); have n3_ := Aside0.mk (blkB_ BK246.out hb); have n4_ := Aside0.mk (bstep_ hb); have n5_ := Aside0.mk (hbox); have n6_ := Aside0.mk ((by rw [hg]; exact bsize_ : w.heap.size ≤ gb258)); have n7_ := Aside0.mk ((by rw [hg]; exact bsize_ : w.heap.size ≤ gb258)); have n8_ := Aside0.mk ((by rw [hg]; exact Nat.ne_of_lt (blkL_ BK231.out) : gb231 ≠ gb258)); have n9_ := Aside0.mk ((by rw [hg]; exact Nat.ne_of_gt (blkL_ BK231.out) : gb258 ≠ gb231)); have n10_ := Aside0.mk ((by rw [hg]; exact Nat.ne_of_lt (blkL_ BK246.out) : gb246 ≠ gb258)); have n11_ := Aside0.mk ((by rw [hg]; exact Nat.ne_of_gt (blkL_ BK246.out) : gb258 ≠ gb246)); clear HO234; clear HO256; clear BK231; clear BK246; clear HB; have HO234 := n0_; have HO256 := n1_; have BK231 := n2_; have BK246 := n3_; have HB := n4_; have BK258 := n5_; have GW258 := n6_; have GE258 := n7_; have NB231_258 := n8_; have NB258_231 := n9_; have NB246_258 := n10_; have NB258_246 := n11_; clear n0_ n1_ n2_ n3_ n4_ n5_ n6_ n7_ n8_ n9_ n10_ n11_; clear hb hbox hg; have hnb25 := NB258_231.out; have hnc25 := NB231_258.out; have hnb26 := NB258_246.out; have hnc26 := NB246_258.out; obtain ⟨hcz27_0, hcz27_1, hcz27_2, hcz27_3, hcz27_4, hcz27_5, hcz27_6, hcz27_7, hfz27_0, hfz27_1, hfz27_2, hfz27_3, hfz27_4, hfz27_5, hfz27_6, hfz27_7⟩ := blk_all8 BK258.out; obtain ⟨Ao28, co28, eo28⟩ := Kd.R_slice HO256.out; subst eo28; obtain ⟨hcz29_0, hcz29_1, hcz29_2, hcz29_3, hcz29_4, hcz29_5, hcz29_6, hcz29_7, hfz29_0, hfz29_1, hfz29_2, hfz29_3, hfz29_4, hfz29_5, hfz29_6, hfz29_7⟩ := blk_all8 BK231.out) | (go_at_call 14; (refine (memb_Same.calls t247 t248 t249 t250 t251 t252 t253 _ _ t254 (⟨#[97]⟩ : ByteArray) 4 0 0 0 0 (⟨#[]⟩ : ByteArray) _ _ ([] : List Int) true _ ?side1 ?side2 ?side3 ?side4 A7.out).mono ?_); (case side1 => refine (Kd.R_reads' (e := 5) (base := w.heap.size) (ok := fun k_ => (True ∧ some k_ ≠ (.slice Ao18 t232.length co18 : Value).ownBlock)) (n := t254.length) (c := co28) ?_).2.2; exact (by (with_reducible repeat (first | apply Kd.R_alloc | apply Kd.R_drewN | apply Kd.R_drew)); exact (Kd.R_mono (Kd.R_far (p := ⟨gb258, 7, none⟩) (Kd.R_far (p := ⟨gb258, 6, none⟩) (Kd.R_far (p := ⟨gb258, 5, none⟩) (Kd.R_far (p := ⟨gb258, 4, none⟩) (Kd.R_far (p := ⟨gb258, 3, none⟩) (Kd.R_far (p := ⟨gb258, 2, none⟩) (Kd.R_far (p := ⟨gb258, 1, none⟩) (Kd.R_far (p := ⟨gb258, 0, none⟩) (Kd.R_types HO256.out BK258.out (by decide)) (fun _ hk => hk.2) (.string t247)) (fun _ hk => hk.2) (.int .i64 t248)) (fun _ hk => hk.2) (.int .i64 t249)) (fun _ hk => hk.2) (.int .i64 t250)) (fun _ hk => hk.2) (.int .i64 t251)) (fun _ hk => hk.2) (.int .i64 t252)) (fun _ hk => hk.2) (.string t253)) (fun _ hk => hk.2) (.slice Ao28 t254.length co28)) (fun _ h_ => h_.1)))); (case side2 => exact (Kd.R_reads' HO256.out).2.1); (case side3 => exact Kd.C_nil _ _); (case side4 => exact Nat.le_refl _); rintro e w30 ⟨rfl, hb⟩; have n0_ := Aside0.mk (Kd.R_below (by (with_reducible repeat (first | apply Kd.R_alloc | apply Kd.R_drewN | apply Kd.R_drew)); exact (Kd.R_mono (Kd.R_far (p := ⟨gb258, 7, none⟩) (Kd.R_far (p := ⟨gb258, 6, none⟩) (Kd.R_far (p := ⟨gb258, 5, none⟩) (Kd.R_far (p := ⟨gb258, 4, none⟩) (Kd.R_far (p := ⟨gb258, 3, none⟩) (Kd.R_far (p := ⟨gb258, 2, none⟩) (Kd.R_far (p := ⟨gb258, 1, none⟩) (Kd.R_far (p := ⟨gb258, 0, none⟩) (Kd.R_types HO234.out BK258.out (by decide)) (fun _ hk => hk.2) (.string t247)) (fun _ hk => hk.2) (.int .i64 t248)) (fun _ hk => hk.2) (.int .i64 t249)) (fun _ hk => hk.2) (.int .i64 t250)) (fun _ hk => hk.2) (.int .i64 t251)) (fun _ hk => hk.2) (.int .i64 t252)) (fun _ hk => hk.2) (.string t253)) (fun _ hk => hk.2) (.slice Ao28 t254.length co28)) (fun _ h_ => h_.1))) hb); have n1_ := Aside0.mk (Kd.R_below (by (with_reducible repeat (first | apply Kd.R_alloc | apply Kd.R_drewN | apply Kd.R_drew)); exact (Kd.R_mono (Kd.R_far (p := ⟨gb258, 7, none⟩) (Kd.R_far (p := ⟨gb258, 6, none⟩) (Kd.R_far (p := ⟨gb258, 5, none⟩) (Kd.R_far (p := ⟨gb258, 4, none⟩) (Kd.R_far (p := ⟨gb258, 3, none⟩) (Kd.R_far (p := ⟨gb258, 2, none⟩) (Kd.R_far (p := ⟨gb258, 1, none⟩) (Kd.R_far (p := ⟨gb258, 0, none⟩) (Kd.R_types HO256.out BK258.out (by decide)) (fun _ hk => hk.2) (.string t247)) (fun _ hk => hk.2) (.int .i64 t248)) (fun _ hk => hk.2) (.int .i64 t249)) (fun _ hk => hk.2) (.int .i64 t250)) (fun _ hk => hk.2) (.int .i64 t251)) (fun _ hk => hk.2) (.int .i64 t252)) (fun _ hk => hk.2) (.string t253)) (fun _ hk => hk.2) (.slice Ao28 t254.length co28)) (fun _ h_ => h_.1))) hb); have n2_ := Aside0.mk (blk_below (g := gb231) (o := .cells #[.string (⟨#[97]⟩ : ByteArray), .int .i64 4, .int .i64 0, .int .i64 0, .int .i64 0, .int .i64 0, .string (⟨#[]⟩ : ByteArray), .slice none 0 0] 38 (0, 0)) (by (with_reducible repeat (first | refine blk_drewN ?_ _ | refine blk_drew ?_ | refine blk_alloc ?_ _)); refine blk_far ?_ NB231_258.out _; (with_reducible repeat (first | refine blk_drewN ?_ _ | refine blk_drew ?_ | refine blk_alloc ?_ _)); refine blk_far ?_ NB231_258.out _; (with_reducible repeat (first | refine blk_drewN ?_ _ | refine blk_drew ?_ | refine blk_alloc ?_ _)); refine blk_far ?_ NB231_258.out _; (with_reducible repeat (first | refine blk_drewN ?_ _ | refine blk_drew ?_ | refine blk_alloc ?_ _)); refine blk_far ?_ NB231_258.out _; (with_reducible repeat (first | refine blk_drewN ?_ _ | refine blk_drew ?_ | refine blk_alloc ?_ _)); refine blk_far ?_ NB231_258.out _; (with_reducible repeat (first | refine blk_drewN ?_ _ | refine blk_drew ?_ | refine blk_alloc ?_ _)); refine blk_far ?_ NB231_258.out _; (with_reducible repeat (first | refine blk_drewN ?_ _ | refine blk_drew ?_ | refine blk_alloc ?_ _)); refine blk_far ?_ NB231_258.out _; (with_reducible repeat (first | refine blk_drewN ?_ _ | refine blk_drew ?_ | refine blk_alloc ?_ _)); refine blk_far ?_ NB231_258.out _; (with_reducible repeat (first | refine blk_drewN ?_ _ | refine blk_drew ?_ | refine blk_alloc ?_ _)); exact BK231.out) hb); have n3_ := Aside0.mk (blk_below (g := gb246) (o := .cells #[.string t236, .string t237, .int .i64 t238, .int .i64 t239, .int .i64 t240, .int .i64 t241, .int .i64 t242, .int .u8 t243, .string t244] 43 (0, 0)) (by (with_reducible repeat (first | refine blk_drewN ?_ _ | refine blk_drew ?_ | refine blk_alloc ?_ _)); refine blk_far ?_ NB246_258.out _; (with_reducible repeat (first | refine blk_drewN ?_ _ | refine blk_drew ?_ | refine blk_alloc ?_ _)); refine blk_far ?_ NB246_258.out _; (with_reducible repeat (first | refine blk_drewN ?_ _ | refine blk_drew ?_ | refine blk_alloc ?_ _)); refine blk_far ?_ NB246_258.out _; (with_reducible repeat (first | refine blk_drewN ?_ _ | refine blk_drew ?_ | refine blk_alloc ?_ _)); refine blk_far ?_ NB246_258.out _; (with_reducible repeat (first | refine blk_drewN ?_ _ | refine blk_drew ?_ | refine blk_alloc ?_ _)); refine blk_far ?_ NB246_258.out _; (with_reducible repeat (first | refine blk_drewN ?_ _ | refine blk_drew ?_ | refine blk_alloc ?_ _)); refine blk_far ?_ NB246_258.out _; (with_reducible repeat (first | refine blk_drewN ?_ _ | refine blk_drew ?_ | refine blk_alloc ?_ _)); refine blk_far ?_ NB246_258.out _; (with_reducible repeat (first | refine blk_drewN ?_ _ | refine blk_drew ?_ | refine blk_alloc ?_ _)); refine blk_far ?_ NB246_258.out _; (with_reducible repeat (first | refine blk_drewN ?_ _ | refine blk_drew ?_ | refine blk_alloc ?_ _)); exact BK246.out) hb); have n4_ := Aside0.mk (blk_below (g := gb258) (o := .cells #[.string t247, .int .i64 t248, .int .i64 t249, .int .i64 t250, .int .i64 t251, .int .i64 t252, .string t253, .slice Ao28 t254.length co28] 38 (0, 0)) (by (with_reducible repeat (first | refine blk_drewN ?_ _ | refine blk_drew ?_ | refine blk_alloc ?_ _)); refine blk_put (cs := #[.string t247, .int .i64 t248, .int .i64 t249, .int .i64 t250, .int .i64 t251, .int .i64 t252, .string t253, .slice none 0 0]) ?_ 7 _ rfl; (with_reducible repeat (first | refine blk_drewN ?_ _ | refine blk_drew ?_ | refine blk_alloc ?_ _)); refine blk_put (cs := #[.string t247, .int .i64 t248, .int .i64 t249, .int .i64 t250, .int .i64 t251, .int .i64 t252, .string (⟨#[]⟩ : ByteArray), .slice none 0 0]) ?_ 6 _ rfl; (with_reducible repeat (first | refine blk_drewN ?_ _ | refine blk_drew ?_ | refine blk_alloc ?_ _)); refine blk_put (cs := #[.string t247, .int .i64 t248, .int .i64 t249, .int .i64 t250, .int .i64 t251, .int .i64 0, .string (⟨#[]⟩ : ByteArray), .slice none 0 0]) ?_ 5 _ rfl; (with_reducible repeat (first | refine blk_drewN ?_ _ | refine blk_drew ?_ | refine blk_alloc ?_ _)); refine blk_put (cs := #[.string t247, .int .i64 t248, .int .i64 t249, .int .i64 t250, .int .i64 0, .int .i64 0, .string (⟨#[]⟩ : ByteArray), .slice none 0 0]) ?_ 4 _ rfl; (with_reducible repeat (first | refine blk_drewN ?_ _ | refine blk_drew ?_ | refine blk_alloc ?_ _)); refine blk_put (cs := #[.string t247, .int .i64 t248, .int .i64 t249, .int .i64 0, .int .i64 0, .int .i64 0, .string (⟨#[]⟩ : ByteArray), .slice none 0 0]) ?_ 3 _ rfl; (with_reducible repeat (first | refine blk_drewN ?_ _ | refine blk_drew ?_ | refine blk_alloc ?_ _)); refine blk_put (cs := #[.string t247, .int .i64 t248, .int .i64 0, .int .i64 0, .int .i64 0, .int .i64 0, .string (⟨#[]⟩ : ByteArray), .slice none 0 0]) ?_ 2 _ rfl; (with_reducible repeat (first | refine blk_drewN ?_ _ | refine blk_drew ?_ | refine blk_alloc ?_ _)); refine blk_put (cs := #[.string t247, .int .i64 0, .int .i64 0, .int .i64 0, .int .i64 0, .int .i64 0, .string (⟨#[]⟩ : ByteArray), .slice none 0 0]) ?_ 1 _ rfl; (with_reducible repeat (first | refine blk_drewN ?_ _ | refine blk_drew ?_ | refine blk_alloc ?_ _)); refine blk_put (cs := #[.string (⟨#[]⟩ : ByteArray), .int .i64 0, .int .i64 0, .int .i64 0, .int .i64 0, .int .i64 0, .string (⟨#[]⟩ : ByteArray), .slice none 0 0]) ?_ 0 _ rfl; (with_reducible repeat (first | refine blk_drewN ?_ _ | refine blk_drew ?_ | refine blk_alloc ?_ _)); exact BK258.out) hb); have n5_ := Aside0.mk (bstep_ hb); clear HO234; clear HO256; clear BK231; clear BK246; clear BK258; clear HB; have HO234 := n0_; have HO256 := n1_; have BK231 := n2_; have BK246 := n3_; have BK258 := n4_; have HB := n5_; clear n0_ n1_ n2_ n3_ n4_ n5_; (try clear hb); (try clear hb2); (try clear hk); (try clear hi)) | (go_at_call 6; (with_reducible refine (memb_Type.calls 3 t260 _ A10.out).mono ?_); rintro e w' ⟨rfl, ⟨nd, rfl⟩⟩) | (go_at_call 7; (with_reducible refine (memb_Kind.calls 53 t261 _ A12.out).mono ?_); rintro e w31 ⟨rfl, hb⟩; have n0_ := Aside0.mk (Kd.R_below (by (with_reducible repeat (first | apply Kd.R_alloc | apply Kd.R_drewN | apply Kd.R_drew)); exact HO234.out) hb); have n1_ := Aside0.mk (Kd.R_below (by (with_reducible repeat (first | apply Kd.R_alloc | apply Kd.R_drewN | apply Kd.R_drew)); exact HO256.out) hb); have n2_ := Aside0.mk (blkB_ BK231.out hb); have n3_ := Aside0.mk (blkB_ BK246.out hb); have n4_ := Aside0.mk (blkB_ BK258.out hb); have n5_ := Aside0.mk (bstep_ hb); clear HO234; clear HO256; clear BK231; clear BK246; clear BK258; clear HB; have HO234 := n0_; have HO256 := n1_; have BK231 := n2_; have BK246 := n3_; have BK258 := n4_; have HB := n5_; clear n0_ n1_ n2_ n3_ n4_ n5_; (try clear hb); (try clear hb2); (try clear hk); (try clear hi); obtain ⟨hcz32_0, hcz32_1, hcz32_2, hcz32_3, hcz32_4, hcz32_5, hcz32_6, hcz32_7, hfz32_0, hfz32_1, hfz32_2, hfz32_3, hfz32_4, hfz32_5, hfz32_6, hfz32_7⟩ := blk_all8 BK231.out) | (go_at_call 20; (refine (memb_Len.calls k (⟨#[97]⟩ : ByteArray) 4 0 0 0 0 (⟨#[]⟩ : ByteArray) _ _ ([] : List Int) t262 _ ⟨HTB.out.below belA_⟩ ?side1 ?side2 A14.out).mono ?_); (case side1 => exact Kd.C_nil _ _); (case side2 => exact Nat.le_refl _); rintro e w33 ⟨rfl, hb⟩; have n0_ := Aside0.mk (Kd.R_below (by (with_reducible repeat (first | apply Kd.R_alloc | apply Kd.R_drewN | apply Kd.R_drew)); exact HO234.out) hb); have n1_ := Aside0.mk (Kd.R_below (by (with_reducible repeat (first | apply Kd.R_alloc | apply Kd.R_drewN | apply Kd.R_drew)); exact HO256.out) hb); have n2_ := Aside0.mk (blkB_ BK231.out hb); have n3_ := Aside0.mk (blkB_ BK246.out hb); have n4_ := Aside0.mk (blkB_ BK258.out hb); have n5_ := Aside0.mk (bstep_ hb); clear HO234; clear HO256; clear BK231; clear BK246; clear BK258; clear HB; have HO234 := n0_; have HO256 := n1_; have BK231 := n2_; have BK246 := n3_; have BK258 := n4_; have HB := n5_; clear n0_ n1_ n2_ n3_ n4_ n5_; (try clear hb); (try clear hb2); (try clear hk); (try clear hi)))
        go_ret
        exact finA_
       ·rw [if_neg c13] at H
        have c13b0 : (t261 == 4) = false := beq_eq_false_iff_ne.mpr c13
        have c13b1 : (t261 != 4) = true := bne_iff_ne.mpr c13
        exact absurd (H.trans (congrArg some HT.out)) (by simp)
      ·rw [if_neg c11] at H
       have c11b0 : (t260 == 50) = false := beq_eq_false_iff_ne.mpr c11
       have c11b1 : (t260 != 50) = true := bne_iff_ne.mpr c11
       exact absurd (H.trans (congrArg some HT.out)) (by simp)
     ·rw [if_neg c9] at H
      have c9b0 : (t257 == 0) = false := beq_eq_false_iff_ne.mpr c9
      have c9b1 : (t257 != 0) = true := bne_iff_ne.mpr c9
      exact absurd (H.trans (congrArg some HT.out)) (by simp)
    ·replace c8 := Bool.eq_false_iff.mpr c8
     subst c8
     have H1 := H; rw [if_neg (show ¬ (false = true) by decide)] at H1
     clear H
     have H := H1
     clear H1
     exact absurd (H.trans (congrArg some HT.out)) (by simp)
   ·rw [if_neg c6] at H
    have c6b0 : (t245 == 0) = false := beq_eq_false_iff_ne.mpr c6
    have c6b1 : (t245 != 0) = true := bne_iff_ne.mpr c6
    exact absurd (H.trans (congrArg some HT.out)) (by simp)
  ·rw [if_neg c5] at H
   have c5b0 : (t235 == 0) = false := beq_eq_false_iff_ne.mpr c5
   have c5b1 : (t235 != 0) = true := bne_iff_ne.mpr c5
   exact absurd (H.trans (congrArg some HT.out)) (by simp)
 ·rw [if_neg c4] at H
  have c4b0 : ((t232.length : Int) == 512) = false := beq_eq_false_iff_ne.mpr c4
  have c4b1 : ((t232.length : Int) != 512) = true := bne_iff_ne.mpr c4
  exact absurd (H.trans (congrArg some HT.out)) (by simp)

/-! ### thwartlaw08_theirs: function 13 -/
def thwartlaw08_theirs.f (a0_0 : ByteArray) (a0_1 : Int) (a0_2 : Int) (a0_3 : Int) (a0_4 : Int) (a0_5 : Int) (a0_6 : ByteArray) (l0_7 : List Int) : Option (ByteArray × Int × Int × Int × Int × Int × ByteArray × List Int) := some (a0_0, a0_1, a0_2, a0_3, a0_4, a0_5, a0_6, l0_7)
set_option maxHeartbeats 8000000 in
set_option maxRecDepth 100000 in
theorem thwartlaw08_theirs.calls (a0_0 : ByteArray) (a0_1 : Int) (a0_2 : Int) (a0_3 : Int) (a0_4 : Int) (a0_5 : Int) (a0_6 : ByteArray) (P0_7_ : Nat → Prop) (A0_7 : Option Addr) (c0_7 : Nat) (l0_7 : List Int) (r1 : ByteArray) (r2 : Int) (r3 : Int) (r4 : Int) (r5 : Int) (r6 : Int) (r7 : ByteArray) (r8 : List Int) (w : World) (hs0_7 : Kd.V (Kd.int .u8) 5 w w.heap.size (fun k_ => P0_7_ k_) (.slice A0_7 l0_7.length c0_7) l0_7) (h : thwartlaw08_theirs.f a0_0 a0_1 a0_2 a0_3 a0_4 a0_5 a0_6 l0_7 = some (r1, r2, r3, r4, r5, r6, r7, r8)) :
  Calls Tryz.prog 13 #[.agg #[.string a0_0, .int .i64 a0_1, .int .i64 a0_2, .int .i64 a0_3, .int .i64 a0_4, .int .i64 a0_5, .string a0_6, .slice A0_7 l0_7.length c0_7]] w fun e w' => ∃ v7_ : Value, e = .returned (.agg #[.string r1, .int .i64 r2, .int .i64 r3, .int .i64 r4, .int .i64 r5, .int .i64 r6, .string r7, v7_]) ∧ Kd.V (Kd.int .u8) 5 w' w.heap.size (fun k_ => (P0_7_ k_ ∨ w.heap.size ≤ k_)) v7_ r8 ∧ Below w.heap.size w w' := by
 have hu45 := Tryz.underlying45
 have hu38 := Tryz.underlying38
 have hu27 := Tryz.underlying27
 have HO0_7 := Aside0.mk (show Kd.V (Kd.int .u8) 5 w w.heap.size (fun k_ => (P0_7_ k_ ∨ w.heap.size ≤ k_)) (.slice A0_7 l0_7.length c0_7) l0_7 from Kd.V_mono hs0_7 (fun k_ hk => .inl hk))
 have HB := Aside0.mk (Below.refl w.heap.size w)
 have H : (some (a0_0, a0_1, a0_2, a0_3, a0_4, a0_5, a0_6, l0_7)) = some (r1, r2, r3, r4, r5, r6, r7, r8) := h
 clear h
 simp only [Option.some.injEq, Prod.mk.injEq] at H
 obtain ⟨rfl, rfl, rfl, rfl, rfl, rfl, rfl, rfl⟩ := H
 go_enter Tryz.func13, Tryz.ntmps13
 go_wp2_with (first | ((with_reducible refine gate_dst (N := 1) rfl ?_); refine boxA_ 1 45 #[.string a0_0, .int .i64 a0_1, .int .i64 a0_2, .int .i64 a0_3, .int .i64 a0_4, .int .i64 a0_5, .string a0_6, .slice A0_7 l0_7.length c0_7] ?_; intro gb312 hg w2 hbox hb; have n0_ := Aside0.mk (Kd.V_below (Kd.V_elderB (by (with_reducible repeat (first | apply Kd.V_alloc | apply Kd.V_drewN | apply Kd.V_drew)); exact HO0_7.out) gb312 (Nat.le_of_eq hg.symm)) hb); have n1_ := Aside0.mk (bstep_ hb); have n2_ := Aside0.mk (hbox); have n3_ := Aside0.mk ((by rw [hg]; exact bsize_ : w.heap.size ≤ gb312)); have n4_ := Aside0.mk ((by rw [hg]; exact bsize_ : w.heap.size ≤ gb312)); clear HO0_7; clear HB; have HO0_7 := n0_; have HB := n1_; have BK312 := n2_; have GW312 := n3_; have GE312 := n4_; clear n0_ n1_ n2_ n3_ n4_; clear hb hbox hg) | ((with_reducible refine gate_dst (N := 2) rfl ?_); refine boxA_ 2 38 #[.string (⟨#[]⟩ : ByteArray), .int .i64 0, .int .i64 0, .int .i64 0, .int .i64 0, .int .i64 0, .string (⟨#[]⟩ : ByteArray), .slice none 0 0] ?_; intro gb313 hg w3 hbox hb; have n0_ := Aside0.mk (Kd.V_below (Kd.V_elderB (by (with_reducible repeat (first | apply Kd.V_alloc | apply Kd.V_drewN | apply Kd.V_drew)); exact HO0_7.out) gb313 (Nat.le_of_eq hg.symm)) hb); have n1_ := Aside0.mk (blkB_ BK312.out hb); have n2_ := Aside0.mk (bstep_ hb); have n3_ := Aside0.mk (hbox); have n4_ := Aside0.mk ((by rw [hg]; exact bsize_ : w.heap.size ≤ gb313)); have n5_ := Aside0.mk ((by rw [hg]; exact bsize_ : w.heap.size ≤ gb313)); have n6_ := Aside0.mk ((by rw [hg]; exact Nat.ne_of_lt (blkL_ BK312.out) : gb312 ≠ gb313)); have n7_ := Aside0.mk ((by rw [hg]; exact Nat.ne_of_gt (blkL_ BK312.out) : gb313 ≠ gb312)); clear HO0_7; clear BK312; clear HB; have HO0_7 := n0_; have BK312 := n1_; have HB := n2_; have BK313 := n3_; have GW313 := n4_; have GE313 := n5_; have NB312_313 := n6_; have NB313_312 := n7_; clear n0_ n1_ n2_ n3_ n4_ n5_ n6_ n7_; clear hb hbox hg; have hnb4 := NB312_313.out; have hnc4 := NB313_312.out; obtain ⟨hcz5_0, hcz5_1, hcz5_2, hcz5_3, hcz5_4, hcz5_5, hcz5_6, hcz5_7, hfz5_0, hfz5_1, hfz5_2, hfz5_3, hfz5_4, hfz5_5, hfz5_6, hfz5_7⟩ := blk_all8 BK312.out; obtain ⟨hcz6_0, hcz6_1, hcz6_2, hcz6_3, hcz6_4, hcz6_5, hcz6_6, hcz6_7, hfz6_0, hfz6_1, hfz6_2, hfz6_3, hfz6_4, hfz6_5, hfz6_6, hfz6_7⟩ := blk_all8 BK313.out))
 refine bodyPost_ret (results_cell_row rfl _ _ gb313 38 #[.string a0_0, .int .i64 a0_1, .int .i64 a0_2, .int .i64 a0_3, .int .i64 a0_4, .int .i64 a0_5, .string a0_6, .slice A0_7 l0_7.length c0_7] (0, 0) _ rfl (by (with_reducible repeat (first | refine blk_drewN ?_ _ | refine blk_drew ?_ | refine blk_alloc ?_ _)); refine blk_put (cs := #[.string a0_0, .int .i64 a0_1, .int .i64 a0_2, .int .i64 a0_3, .int .i64 a0_4, .int .i64 a0_5, .string a0_6, .slice none 0 0]) ?_ 7 _ rfl; (with_reducible repeat (first | refine blk_drewN ?_ _ | refine blk_drew ?_ | refine blk_alloc ?_ _)); refine blk_put (cs := #[.string a0_0, .int .i64 a0_1, .int .i64 a0_2, .int .i64 a0_3, .int .i64 a0_4, .int .i64 a0_5, .string (⟨#[]⟩ : ByteArray), .slice none 0 0]) ?_ 6 _ rfl; (with_reducible repeat (first | refine blk_drewN ?_ _ | refine blk_drew ?_ | refine blk_alloc ?_ _)); refine blk_put (cs := #[.string a0_0, .int .i64 a0_1, .int .i64 a0_2, .int .i64 a0_3, .int .i64 a0_4, .int .i64 0, .string (⟨#[]⟩ : ByteArray), .slice none 0 0]) ?_ 5 _ rfl; (with_reducible repeat (first | refine blk_drewN ?_ _ | refine blk_drew ?_ | refine blk_alloc ?_ _)); refine blk_put (cs := #[.string a0_0, .int .i64 a0_1, .int .i64 a0_2, .int .i64 a0_3, .int .i64 0, .int .i64 0, .string (⟨#[]⟩ : ByteArray), .slice none 0 0]) ?_ 4 _ rfl; (with_reducible repeat (first | refine blk_drewN ?_ _ | refine blk_drew ?_ | refine blk_alloc ?_ _)); refine blk_put (cs := #[.string a0_0, .int .i64 a0_1, .int .i64 a0_2, .int .i64 0, .int .i64 0, .int .i64 0, .string (⟨#[]⟩ : ByteArray), .slice none 0 0]) ?_ 3 _ rfl; (with_reducible repeat (first | refine blk_drewN ?_ _ | refine blk_drew ?_ | refine blk_alloc ?_ _)); refine blk_put (cs := #[.string a0_0, .int .i64 a0_1, .int .i64 0, .int .i64 0, .int .i64 0, .int .i64 0, .string (⟨#[]⟩ : ByteArray), .slice none 0 0]) ?_ 2 _ rfl; (with_reducible repeat (first | refine blk_drewN ?_ _ | refine blk_drew ?_ | refine blk_alloc ?_ _)); refine blk_put (cs := #[.string a0_0, .int .i64 0, .int .i64 0, .int .i64 0, .int .i64 0, .int .i64 0, .string (⟨#[]⟩ : ByteArray), .slice none 0 0]) ?_ 1 _ rfl; (with_reducible repeat (first | refine blk_drewN ?_ _ | refine blk_drew ?_ | refine blk_alloc ?_ _)); refine blk_put (cs := #[.string (⟨#[]⟩ : ByteArray), .int .i64 0, .int .i64 0, .int .i64 0, .int .i64 0, .int .i64 0, .string (⟨#[]⟩ : ByteArray), .slice none 0 0]) ?_ 0 _ rfl; (with_reducible repeat (first | refine blk_drewN ?_ _ | refine blk_drew ?_ | refine blk_alloc ?_ _)); exact BK313.out) Tryz.underlying38 rfl (by kernel_rfl)) rfl ?_
 exact ⟨_, by first | rfl | (simp [errW_none, errW_some] <;> rfl) | (simp [*, errW_none, errW_some] <;> rfl), by (with_reducible repeat (first | apply Kd.V_alloc | apply Kd.V_drewN | apply Kd.V_drew)); exact Kd.V_mono (Kd.V_far (p := ⟨gb313, 7, none⟩) (Kd.V_far (p := ⟨gb313, 6, none⟩) (Kd.V_far (p := ⟨gb313, 5, none⟩) (Kd.V_far (p := ⟨gb313, 4, none⟩) (Kd.V_far (p := ⟨gb313, 3, none⟩) (Kd.V_far (p := ⟨gb313, 2, none⟩) (Kd.V_far (p := ⟨gb313, 1, none⟩) (Kd.V_far (p := ⟨gb313, 0, none⟩) (Kd.V_mono HO0_7.out (fun k_ hk => (⟨hk, hk.2⟩ : _ ∧ k_ ≠ gb313))) (fun _ hk => hk.2) (.string a0_0)) (fun _ hk => hk.2) (.int .i64 a0_1)) (fun _ hk => hk.2) (.int .i64 a0_2)) (fun _ hk => hk.2) (.int .i64 a0_3)) (fun _ hk => hk.2) (.int .i64 a0_4)) (fun _ hk => hk.2) (.int .i64 a0_5)) (fun _ hk => hk.2) (.string a0_6)) (fun _ hk => hk.2) (.slice A0_7 l0_7.length c0_7)) (fun _ hk => hk.1.1.1), by repeat (first | (with_reducible first | exact HB.out | apply below_alloc | apply pw_below_drewN | apply below_drew1 | refine below_set ?_ GE312.out | refine below_set ?_ GE313.out) | exact HB.out)⟩


/-! ### thwartlaw08_far: function 15 -/
def thwartlaw08_far.f (a0_0 : ByteArray) (a0_1 : Int) (a0_2 : Int) (a0_3 : Int) (a0_4 : Int) (a0_5 : Int) (a0_6 : ByteArray) (l0_7 : List Int) : Option (Bool) := if (a0_0.size : Int) > 600 then (some true) else (if (a0_6.size : Int) > 600 then (some true) else (some (decide ((l0_7.length : Int) > 5000))))
set_option maxHeartbeats 8000000 in
set_option maxRecDepth 100000 in
theorem thwartlaw08_far.calls (a0_0 : ByteArray) (a0_1 : Int) (a0_2 : Int) (a0_3 : Int) (a0_4 : Int) (a0_5 : Int) (a0_6 : ByteArray) (A0_7 : Option Addr) (c0_7 : Nat) (l0_7 : List Int) (r : Bool) (w : World) (hr0_7 : Kd.C (Kd.int .u8) w A0_7 l0_7.length l0_7) (hc0_7 : l0_7.length ≤ c0_7) (h : thwartlaw08_far.f a0_0 a0_1 a0_2 a0_3 a0_4 a0_5 a0_6 l0_7 = some r) :
  Calls Tryz.prog 15 #[.agg #[.string a0_0, .int .i64 a0_1, .int .i64 a0_2, .int .i64 a0_3, .int .i64 a0_4, .int .i64 a0_5, .string a0_6, .slice A0_7 l0_7.length c0_7]] w fun e w' => e = .returned (.bool r) ∧ Below w.heap.size w w' := by
 have hu45 := Tryz.underlying45
 have HR0_7 := Aside0.mk hr0_7
 have HC0_7 := Aside0.mk hc0_7
 clear hr0_7 hc0_7
 have HB := Aside0.mk (Below.refl w.heap.size w)
 have H : (if (a0_0.size : Int) > 600 then (some true) else (if (a0_6.size : Int) > 600 then (some true) else (some (decide ((l0_7.length : Int) > 5000))))) = some r := h
 clear h
 by_cases c2 : (a0_0.size : Int) > 600
 ·rw [if_pos c2] at H
  have c2b0 : decide (600 < (a0_0.size : Int)) = true := decide_eq_true c2
  have c2b1 : decide (600 < a0_0.size) = true := decide_eq_true (by omega)
  clear c2
  obtain rfl := Option.some.inj H
  go_enter Tryz.func15, Tryz.ntmps15
  go_wp2_with (first | ((with_reducible refine gate_dst (N := 1) rfl ?_); (try (refine gate_guard (by rfl) ?_; dsimp only)); refine boxA_ 1 45 #[.string a0_0, .int .i64 a0_1, .int .i64 a0_2, .int .i64 a0_3, .int .i64 a0_4, .int .i64 a0_5, .string a0_6, .slice A0_7 l0_7.length c0_7] ?_; intro gb370 hg w3 hbox hb; have n0_ := Aside0.mk (bstep_ hb); have n1_ := Aside0.mk (hbox); have n2_ := Aside0.mk ((by rw [hg]; exact bsize_ : w.heap.size ≤ gb370)); have n3_ := Aside0.mk ((by rw [hg]; exact bsize_ : w.heap.size ≤ gb370)); clear HB; have HB := n0_; have BK370 := n1_; have GW370 := n2_; have GE370 := n3_; clear n0_ n1_ n2_ n3_; clear hb hbox hg; obtain ⟨hcz4_0, hcz4_1, hcz4_2, hcz4_3, hcz4_4, hcz4_5, hcz4_6, hcz4_7, hfz4_0, hfz4_1, hfz4_2, hfz4_3, hfz4_4, hfz4_5, hfz4_6, hfz4_7⟩ := blk_all8 BK370.out))
  go_ret
  exact finA_
 ·rw [if_neg c2] at H
  have c2b0 : decide (600 < (a0_0.size : Int)) = false := decide_eq_false c2
  have c2b1 : decide (600 < a0_0.size) = false := decide_eq_false (by omega)
  clear c2
  by_cases c5 : (a0_6.size : Int) > 600
  ·rw [if_pos c5] at H
   have c5b0 : decide (600 < (a0_6.size : Int)) = true := decide_eq_true c5
   have c5b1 : decide (600 < a0_6.size) = true := decide_eq_true (by omega)
   clear c5
   obtain rfl := Option.some.inj H
   go_enter Tryz.func15, Tryz.ntmps15
   go_wp2_with (first | ((with_reducible refine gate_dst (N := 1) rfl ?_); (try (refine gate_guard (by rfl) ?_; dsimp only)); refine boxA_ 1 45 #[.string a0_0, .int .i64 a0_1, .int .i64 a0_2, .int .i64 a0_3, .int .i64 a0_4, .int .i64 a0_5, .string a0_6, .slice A0_7 l0_7.length c0_7] ?_; intro gb370 hg w6 hbox hb; have n0_ := Aside0.mk (bstep_ hb); have n1_ := Aside0.mk (hbox); have n2_ := Aside0.mk ((by rw [hg]; exact bsize_ : w.heap.size ≤ gb370)); have n3_ := Aside0.mk ((by rw [hg]; exact bsize_ : w.heap.size ≤ gb370)); clear HB; have HB := n0_; have BK370 := n1_; have GW370 := n2_; have GE370 := n3_; clear n0_ n1_ n2_ n3_; clear hb hbox hg; obtain ⟨hcz7_0, hcz7_1, hcz7_2, hcz7_3, hcz7_4, hcz7_5, hcz7_6, hcz7_7, hfz7_0, hfz7_1, hfz7_2, hfz7_3, hfz7_4, hfz7_5, hfz7_6, hfz7_7⟩ := blk_all8 BK370.out))
   go_ret
   exact finA_
  ·rw [if_neg c5] at H
   have c5b0 : decide (600 < (a0_6.size : Int)) = false := decide_eq_false c5
   have c5b1 : decide (600 < a0_6.size) = false := decide_eq_false (by omega)
   clear c5
   obtain rfl := Option.some.inj H
   go_enter Tryz.func15, Tryz.ntmps15
   go_wp2_with (first | ((with_reducible refine gate_dst (N := 1) rfl ?_); (try (refine gate_guard (by rfl) ?_; dsimp only)); refine boxA_ 1 45 #[.string a0_0, .int .i64 a0_1, .int .i64 a0_2, .int .i64 a0_3, .int .i64 a0_4, .int .i64 a0_5, .string a0_6, .slice A0_7 l0_7.length c0_7] ?_; intro gb370 hg w8 hbox hb; have n0_ := Aside0.mk (bstep_ hb); have n1_ := Aside0.mk (hbox); have n2_ := Aside0.mk ((by rw [hg]; exact bsize_ : w.heap.size ≤ gb370)); have n3_ := Aside0.mk ((by rw [hg]; exact bsize_ : w.heap.size ≤ gb370)); clear HB; have HB := n0_; have BK370 := n1_; have GW370 := n2_; have GE370 := n3_; clear n0_ n1_ n2_ n3_; clear hb hbox hg; obtain ⟨hcz9_0, hcz9_1, hcz9_2, hcz9_3, hcz9_4, hcz9_5, hcz9_6, hcz9_7, hfz9_0, hfz9_1, hfz9_2, hfz9_3, hfz9_4, hfz9_5, hfz9_6, hfz9_7⟩ := blk_all8 BK370.out))
   go_ret
   exact finA_


/-! ### thwartlaw08_MembWhole: function 5 -/
def thwartlaw08_MembWhole.j0 : Nat → List Int → List (S35) → Int → Bool → ByteArray → Int → Int → Int → Int → Int → ByteArray → List Int → Option (Bool)
 | 0, _, _, _, _, _, _, _, _, _, _, _, _ => none
 | k + 1, x3, x5, x6, x57, x372000, x372001, x372002, x372003, x372004, x372005, x372006, x372007 => if x57 = true then (some false) else (if 0 ≤ (wrap64 ((x3.length : Int) - x6)) then (if (wrap64 ((x3.length : Int) - x6)) ≤ (x3.length : Int) then ((some (x3.drop ((wrap64 ((x3.length : Int) - x6)) : Int).toNat : List Int)).bind fun y402 => (if 512 ≤ (y402.length : Int) then ((head_Parse.f k (y402.take 512)).bind fun bt410 => (if 0 ≤ (wrap64 ((wrap64 ((x3.length : Int) - x6)) + 512)) then (if (wrap64 ((wrap64 ((x3.length : Int) - x6)) + 512)) ≤ (x3.length : Int) then ((some (x3.drop ((wrap64 ((wrap64 ((x3.length : Int) - x6)) + 512)) : Int).toNat : List Int)).bind fun y421 => (if 0 ≤ (x372007.length : Int) then (if (x372007.length : Int) ≤ (y421.length : Int) then ((memb_From.f k bt410.1 bt410.2.1 bt410.2.2.1 bt410.2.2.2.1 bt410.2.2.2.2.1 bt410.2.2.2.2.2.1 bt410.2.2.2.2.2.2.1 bt410.2.2.2.2.2.2.2.1 bt410.2.2.2.2.2.2.2.2.1 x5 (y421.take ((x372007.length : Int) : Int).toNat)).bind fun bt429 => (if bt410.2.2.2.2.2.2.2.2.2 = 0 then (if bt429.2.2.2.2.2.2.2.2 = 0 then ((thwartlaw08_theirs.f x372000 x372001 x372002 x372003 x372004 x372005 x372006 x372007).bind fun bt441 => ((memb_Same.f bt429.1 bt429.2.1 bt429.2.2.1 bt429.2.2.2.1 bt429.2.2.2.2.1 bt429.2.2.2.2.2.1 bt429.2.2.2.2.2.2.1 bt429.2.2.2.2.2.2.2.1 bt441.1 bt441.2.1 bt441.2.2.1 bt441.2.2.2.1 bt441.2.2.2.2.1 bt441.2.2.2.2.2.1 bt441.2.2.2.2.2.2.1 bt441.2.2.2.2.2.2.2).bind fun t451 => (if t451 = true then (if bt410.2.2.2.2.2.2.1 = (x372007.length : Int) then ((thwartlaw08_alive.f k).bind fun t452 => (some t452)) else (some false)) else (some false)))) else (some false)) else (some false))) else (none)) else (none))) else (none)) else (none))) else (none))) else (none)) else (none))
def thwartlaw08_MembWhole.f (k : Nat) (a0_0 : ByteArray) (a0_1 : Int) (a0_2 : Int) (a0_3 : Int) (a0_4 : Int) (a0_5 : Int) (a0_6 : ByteArray) (l0_7 : List Int) : Option (Bool) := (thwartlaw08_far.f a0_0 a0_1 a0_2 a0_3 a0_4 a0_5 a0_6 l0_7).bind fun t372 => (if t372 = true then ((thwartlaw08_alive.f k).bind fun t373 => (some t373)) else ((thwartlaw08_theirs.f a0_0 a0_1 a0_2 a0_3 a0_4 a0_5 a0_6 l0_7).bind fun bt374 => ((memb_Lay.f k bt374.1 bt374.2.1 bt374.2.2.1 bt374.2.2.2.1 bt374.2.2.2.2.1 bt374.2.2.2.2.2.1 bt374.2.2.2.2.2.2.1 bt374.2.2.2.2.2.2.2).bind fun bt384 => (if bt384.2 = 0 then ((thwartlaw08_theirs.f a0_0 a0_1 a0_2 a0_3 a0_4 a0_5 a0_6 l0_7).bind fun bt389 => ((memb_Recs.f bt389.1 bt389.2.1 bt389.2.2.1 bt389.2.2.2.1 bt389.2.2.2.2.1 bt389.2.2.2.2.2.1 bt389.2.2.2.2.2.2.1 bt389.2.2.2.2.2.2.2).bind fun t399 => (if ((bt384.1.length : Int) % 512) = 0 then (if (bt384.1.length : Int) < (wrap64 (512 + (wrap64 ((wrap64 (Int.tdiv (wrap64 ((l0_7.length : Int) + 511)) 512)) * 512)))) then (thwartlaw08_MembWhole.j0 k bt384.1 t399 (wrap64 (512 + (wrap64 ((wrap64 (Int.tdiv (wrap64 ((l0_7.length : Int) + 511)) 512)) * 512)))) true a0_0 a0_1 a0_2 a0_3 a0_4 a0_5 a0_6 l0_7) else (thwartlaw08_MembWhole.j0 k bt384.1 t399 (wrap64 (512 + (wrap64 ((wrap64 (Int.tdiv (wrap64 ((l0_7.length : Int) + 511)) 512)) * 512)))) ((decide ((bt384.1.length : Int) > (wrap64 (512 + (wrap64 ((wrap64 (Int.tdiv (wrap64 ((l0_7.length : Int) + 511)) 512)) * 512)))))) != (decide ((t399.length : Int) > 0))) a0_0 a0_1 a0_2 a0_3 a0_4 a0_5 a0_6 l0_7)) else (thwartlaw08_MembWhole.j0 k bt384.1 t399 (wrap64 (512 + (wrap64 ((wrap64 (Int.tdiv (wrap64 ((l0_7.length : Int) + 511)) 512)) * 512)))) true a0_0 a0_1 a0_2 a0_3 a0_4 a0_5 a0_6 l0_7)))) else (if (bt384.1.length : Int) = 0 then ((thwartlaw08_alive.f k).bind fun t388 => (some t388)) else (some false))))))
theorem bne_l_ (a b : Bool) : (a == b) = (!a != b) := by cases a <;> cases b <;> rfl
theorem thwartlaw08_MembWhole.mono_l : ∀ k, (∀ y0 y1 y2 y3 y4 y5 y6 y7 y8 y9 y10 y11, LeO (thwartlaw08_MembWhole.j0 k y0 y1 y2 y3 y4 y5 y6 y7 y8 y9 y10 y11) (thwartlaw08_MembWhole.j0 (k + 1) y0 y1 y2 y3 y4 y5 y6 y7 y8 y9 y10 y11))
 | 0 => fun _ _ _ _ _ _ _ _ _ _ _ _ r h => by simp [thwartlaw08_MembWhole.j0] at h
 | k + 1 => by
  have ih0 := thwartlaw08_MembWhole.mono_l k
  ·intro y0 y1 y2 y3 y4 y5 y6 y7 y8 y9 y10 y11
   unfold thwartlaw08_MembWhole.j0
   repeat' first
   | (with_reducible exact ih0 _ _ _ _ _ _ _ _ _ _ _ _)
   | (with_reducible exact head_Parse.mono _ _)
   | (with_reducible exact memb_From.mono _ _ _ _ _ _ _ _ _ _ _ _)
   | (with_reducible exact memb_Lay.mono _ _ _ _ _ _ _ _ _)
   | (with_reducible exact thwartlaw08_alive.mono _)
   | (with_reducible exact LeO.refl _)
   | (with_reducible exact LeO.none _)
   | (with_reducible refine LeO.ite ?_ ?_)
   | (with_reducible refine LeO.bind ?_ (fun _ => ?_))
   | exact ih0 _ _ _ _ _ _ _ _ _ _ _ _
   | exact head_Parse.mono _ _
   | exact memb_From.mono _ _ _ _ _ _ _ _ _ _ _ _
   | exact memb_Lay.mono _ _ _ _ _ _ _ _ _
   | exact thwartlaw08_alive.mono _
   | exact LeO.none _
   | refine LeO.ite ?_ ?_
   | refine LeO.bind ?_ (fun _ => ?_)
theorem thwartlaw08_MembWhole.mono : ∀ a0 a1 a2 a3 a4 a5 a6 a7 k, LeO (thwartlaw08_MembWhole.f k a0 a1 a2 a3 a4 a5 a6 a7) (thwartlaw08_MembWhole.f (k + 1) a0 a1 a2 a3 a4 a5 a6 a7) := by
 intro a0 a1 a2 a3 a4 a5 a6 a7 k
 have ih0 := thwartlaw08_MembWhole.mono_l k
 unfold thwartlaw08_MembWhole.f
 repeat' first
   | (with_reducible exact ih0 _ _ _ _ _ _ _ _ _ _ _ _)
   | (with_reducible exact head_Parse.mono _ _)
   | (with_reducible exact memb_From.mono _ _ _ _ _ _ _ _ _ _ _ _)
   | (with_reducible exact memb_Lay.mono _ _ _ _ _ _ _ _ _)
   | (with_reducible exact thwartlaw08_alive.mono _)
   | (with_reducible exact LeO.refl _)
   | (with_reducible exact LeO.none _)
   | (with_reducible refine LeO.ite ?_ ?_)
   | (with_reducible refine LeO.bind ?_ (fun _ => ?_))
   | exact ih0 _ _ _ _ _ _ _ _ _ _ _ _
   | exact head_Parse.mono _ _
   | exact memb_From.mono _ _ _ _ _ _ _ _ _ _ _ _
   | exact memb_Lay.mono _ _ _ _ _ _ _ _ _
   | exact thwartlaw08_alive.mono _
   | exact LeO.none _
   | refine LeO.ite ?_ ?_
   | refine LeO.bind ?_ (fun _ => ?_)
def thwartlaw08_MembWhole.T11 : Bool × List (List Nat × List Nat) := (true, [([], []), ([], []), ([], []), ([], []), ([3], [3]), ([], []), ([4, 5], [4, 5]), ([6], [6]), ([2, 7], [2, 7]), ([], []), ([9], [9]), ([10], [10]), ([8, 11], [8, 11]), ([0, 1, 12], [0, 1, 12]), ([13], [13]), ([14], [14]), ([14], [14]), ([], []), ([17, 15, 13, 0, 1, 2, 3, 4, 5, 6, 7, 8, 9, 10, 11, 12, 13, 14, 15, 17], [15, 17]), ([16, 18, 0, 1, 2, 3, 4, 5, 6, 7, 8, 9, 10, 11, 12, 13, 14, 15, 16, 17, 18], [16])])
def thwartlaw08_MembWhole.B11 : List Nat := [0, 0, 0, 0, 8, 0, 56, 120, 252, 0, 512, 1536, 4092, 8191, 16383, 32767, 32767, 0, 196607, 524287]
theorem thwartlaw08_MembWhole.tab11 : rtab .any (opsOf Tryz.f5 11) = thwartlaw08_MembWhole.T11 := by kernel_rfl
theorem thwartlaw08_MembWhole.bits11 : waitsOk thwartlaw08_MembWhole.T11.2 thwartlaw08_MembWhole.B11 = true := by kernel_rfl
def thwartlaw08_MembWhole.T12 : Bool × List (List Nat × List Nat) := (true, [([], []), ([0], [0]), ([1], [1]), ([2], [2]), ([3, 2], [2, 3]), ([2, 4], [2, 4]), ([5, 2], [5]), ([6], [6]), ([6], [6]), ([8, 6, 6], [6, 8]), ([7, 9, 9, 6], [6, 7, 9]), ([6, 10], [6, 10]), ([11, 10], [11]), ([12], [12]), ([13, 12], [12, 13]), ([12], [12]), ([15, 12], [12, 15]), ([16, 12], [12, 16]), ([14, 17, 12], [12, 14, 17]), ([12, 18], [12, 18]), ([19, 12], [19]), ([20, 20], [20]), ([20, 21], [20, 21]), ([22, 21, 0, 1, 2, 3, 4, 5, 6, 7, 8, 9, 10, 11, 12, 13, 14, 15, 16, 17, 18, 19, 20, 21, 22], [22])])
def thwartlaw08_MembWhole.B12 : List Nat := [0, 1, 3, 7, 15, 31, 63, 127, 127, 383, 1023, 2047, 4095, 8191, 16383, 8191, 40959, 106495, 262143, 524287, 1048575, 2097151, 4194303, 8388607]
theorem thwartlaw08_MembWhole.tab12 : rtab .any (opsOf Tryz.f5 12) = thwartlaw08_MembWhole.T12 := by kernel_rfl
theorem thwartlaw08_MembWhole.bits12 : waitsOk thwartlaw08_MembWhole.T12.2 thwartlaw08_MembWhole.B12 = true := by kernel_rfl
set_option maxHeartbeats 8000000 in
set_option maxRecDepth 100000 in
theorem thwartlaw08_MembWhole.calls (k : Nat) (a0_0 : ByteArray) (a0_1 : Int) (a0_2 : Int) (a0_3 : Int) (a0_4 : Int) (a0_5 : Int) (a0_6 : ByteArray) (A0_7 : Option Addr) (c0_7 : Nat) (l0_7 : List Int) (r : Bool) (w : World) (HTB : Aside0 (TabOk w)) (hr0_7 : Kd.C (Kd.int .u8) w A0_7 l0_7.length l0_7) (hc0_7 : l0_7.length ≤ c0_7) (htrue : r = true) (h : thwartlaw08_MembWhole.f k a0_0 a0_1 a0_2 a0_3 a0_4 a0_5 a0_6 l0_7 = some r) :
  Calls Tryz.prog 5 #[.agg #[.string a0_0, .int .i64 a0_1, .int .i64 a0_2, .int .i64 a0_3, .int .i64 a0_4, .int .i64 a0_5, .string a0_6, .slice A0_7 l0_7.length c0_7]] w fun e w' => e = .returned (.bool r) ∧ Below w.heap.size w w' := by
 have HT := Aside0.mk htrue
 clear htrue
 have hu45 := Tryz.underlying45
 have hu43 := Tryz.underlying43
 have hu38 := Tryz.underlying38
 have HR0_7 := Aside0.mk hr0_7
 have HC0_7 := Aside0.mk hc0_7
 clear hr0_7 hc0_7
 have HB := Aside0.mk (Below.refl w.heap.size w)
 have H : ((thwartlaw08_far.f a0_0 a0_1 a0_2 a0_3 a0_4 a0_5 a0_6 l0_7).bind fun t372 => (if t372 = true then ((thwartlaw08_alive.f k).bind fun t373 => (some t373)) else ((thwartlaw08_theirs.f a0_0 a0_1 a0_2 a0_3 a0_4 a0_5 a0_6 l0_7).bind fun bt374 => ((memb_Lay.f k bt374.1 bt374.2.1 bt374.2.2.1 bt374.2.2.2.1 bt374.2.2.2.2.1 bt374.2.2.2.2.2.1 bt374.2.2.2.2.2.2.1 bt374.2.2.2.2.2.2.2).bind fun bt384 => (if bt384.2 = 0 then ((thwartlaw08_theirs.f a0_0 a0_1 a0_2 a0_3 a0_4 a0_5 a0_6 l0_7).bind fun bt389 => ((memb_Recs.f bt389.1 bt389.2.1 bt389.2.2.1 bt389.2.2.2.1 bt389.2.2.2.2.1 bt389.2.2.2.2.2.1 bt389.2.2.2.2.2.2.1 bt389.2.2.2.2.2.2.2).bind fun t399 => (if ((bt384.1.length : Int) % 512) = 0 then (if (bt384.1.length : Int) < (wrap64 (512 + (wrap64 ((wrap64 (Int.tdiv (wrap64 ((l0_7.length : Int) + 511)) 512)) * 512)))) then (thwartlaw08_MembWhole.j0 k bt384.1 t399 (wrap64 (512 + (wrap64 ((wrap64 (Int.tdiv (wrap64 ((l0_7.length : Int) + 511)) 512)) * 512)))) true a0_0 a0_1 a0_2 a0_3 a0_4 a0_5 a0_6 l0_7) else (thwartlaw08_MembWhole.j0 k bt384.1 t399 (wrap64 (512 + (wrap64 ((wrap64 (Int.tdiv (wrap64 ((l0_7.length : Int) + 511)) 512)) * 512)))) ((decide ((bt384.1.length : Int) > (wrap64 (512 + (wrap64 ((wrap64 (Int.tdiv (wrap64 ((l0_7.length : Int) + 511)) 512)) * 512)))))) != (decide ((t399.length : Int) > 0))) a0_0 a0_1 a0_2 a0_3 a0_4 a0_5 a0_6 l0_7)) else (thwartlaw08_MembWhole.j0 k bt384.1 t399 (wrap64 (512 + (wrap64 ((wrap64 (Int.tdiv (wrap64 ((l0_7.length : Int) + 511)) 512)) * 512)))) true a0_0 a0_1 a0_2 a0_3 a0_4 a0_5 a0_6 l0_7)))) else (if (bt384.1.length : Int) = 0 then ((thwartlaw08_alive.f k).bind fun t388 => (some t388)) else (some false))))))) = some r := h
 clear h
 replace H := Option.bind_eq_some_iff.mp H
 obtain ⟨t372, A20, H⟩ := H
 try dsimp only at H
 have A2 := Aside0.mk A20
 clear A20
 by_cases c3 : t372 = true
 ·subst c3
  have H1 := H; rw [if_pos rfl] at H1
  clear H
  have H := H1
  clear H1
  replace H := Option.bind_eq_some_iff.mp H
  obtain ⟨t373, A40, H⟩ := H
  try dsimp only at H
  have A4 := Aside0.mk A40
  clear A40
  obtain rfl := Option.some.inj H
  go_enter Tryz.func5, Tryz.ntmps5
  go_wp2_with (first | ((with_reducible refine gate_dst (N := 1) rfl ?_); (try (refine gate_guard (by rfl) ?_; dsimp only)); refine boxA_ 1 45 #[.string a0_0, .int .i64 a0_1, .int .i64 a0_2, .int .i64 a0_3, .int .i64 a0_4, .int .i64 a0_5, .string a0_6, .slice A0_7 l0_7.length c0_7] ?_; intro gb371 hg w5 hbox hb; have n0_ := Aside0.mk (bstep_ hb); have n1_ := Aside0.mk (hbox); have n2_ := Aside0.mk ((by rw [hg]; exact bsize_ : w.heap.size ≤ gb371)); have n3_ := Aside0.mk ((by rw [hg]; exact bsize_ : w.heap.size ≤ gb371)); clear HB; have HB := n0_; have BK371 := n1_; have GW371 := n2_; have GE371 := n3_; clear n0_ n1_ n2_ n3_; clear hb hbox hg; obtain ⟨hcz6_0, hcz6_1, hcz6_2, hcz6_3, hcz6_4, hcz6_5, hcz6_6, hcz6_7, hfz6_0, hfz6_1, hfz6_2, hfz6_3, hfz6_4, hfz6_5, hfz6_6, hfz6_7⟩ := blk_all8 BK371.out) | ((with_reducible refine gate_callee (f := 15) rfl ?_); refine goesA_ (some 12) Tryz.func15 #[.agg #[.string a0_0, .int .i64 a0_1, .int .i64 a0_2, .int .i64 a0_3, .int .i64 a0_4, .int .i64 a0_5, .string a0_6, .slice A0_7 l0_7.length c0_7]] ?_; (with_reducible refine (thwartlaw08_far.calls a0_0 a0_1 a0_2 a0_3 a0_4 a0_5 a0_6 _ _ l0_7 true _ ?side1 ?side2 A2.out).mono ?_); (case side1 => repeat (first | exact (Kd.C_below HR0_7.out HB.out) | (with_reducible refine Kd.C_alloc ?_ _) | (with_reducible refine Kd.C_drewN ?_ _) | (with_reducible refine Kd.C_drew ?_))); (case side2 => exact HC0_7.out); rintro e w7 ⟨rfl, hb⟩; refine ⟨_, rfl, ?_⟩; have n0_ := Aside0.mk (blkB_ BK371.out hb); have n1_ := Aside0.mk (bstep_ hb); clear BK371; clear HB; have BK371 := n0_; have HB := n1_; clear n0_ n1_; (try clear hb); (try clear hb2); (try clear hk); (try clear hi)) | ((with_reducible refine gate_callee (f := 10) rfl ?_); refine goesA_ (some 13) Tryz.func10 #[] ?_; (with_reducible refine (thwartlaw08_alive.calls k  t373 _ ⟨HTB.out.below belA_⟩ HT.out A4.out).mono ?_); rintro e w8 ⟨rfl, hb⟩; refine ⟨_, rfl, ?_⟩; have n0_ := Aside0.mk (blkB_ BK371.out hb); have n1_ := Aside0.mk (bstep_ hb); clear BK371; clear HB; have BK371 := n0_; have HB := n1_; clear n0_ n1_; (try clear hb); (try clear hb2); (try clear hk); (try clear hi)))
  go_ret
  exact finA_
 ·replace c3 := Bool.eq_false_iff.mpr c3
  subst c3
  have H1 := H; rw [if_neg (show ¬ (false = true) by decide)] at H1
  clear H
  have H := H1
  clear H1
  replace H := Option.bind_eq_some_iff.mp H
  obtain ⟨⟨t374, t375, t376, t377, t378, t379, t380, t381⟩, A90, H⟩ := H
  try dsimp only at H
  have A9 := Aside0.mk A90
  clear A90
  replace H := Option.bind_eq_some_iff.mp H
  obtain ⟨⟨t384, t387⟩, A100, H⟩ := H
  try dsimp only at H
  have A10 := Aside0.mk A100
  clear A100
  by_cases c11 : t387 = 0
  ·rw [if_pos c11] at H
   have c11b0 : (t387 == 0) = true := beq_iff_eq.mpr c11
   have c11b1 : (t387 != 0) = false := bne_eq_false_iff_eq.mpr c11
   clear c11
   replace H := Option.bind_eq_some_iff.mp H
   obtain ⟨⟨t389, t390, t391, t392, t393, t394, t395, t396⟩, A120, H⟩ := H
   try dsimp only at H
   have A12 := Aside0.mk A120
   clear A120
   replace H := Option.bind_eq_some_iff.mp H
   obtain ⟨t399, A130, H⟩ := H
   try dsimp only at H
   have A13 := Aside0.mk A130
   clear A130
   have HC14 := Aside0.mk H
   clear H
   go_enter Tryz.func5, Tryz.ntmps5
   go_upto_region 8 with (first | ((with_reducible refine gate_dst (N := 1) rfl ?_); (try (refine gate_guard (by rfl) ?_; dsimp only)); refine boxA_ 1 45 #[.string a0_0, .int .i64 a0_1, .int .i64 a0_2, .int .i64 a0_3, .int .i64 a0_4, .int .i64 a0_5, .string a0_6, .slice A0_7 l0_7.length c0_7] ?_; intro gb371 hg w15 hbox hb; have n0_ := Aside0.mk (bstep_ hb); have n1_ := Aside0.mk (hbox); have n2_ := Aside0.mk ((by rw [hg]; exact bsize_ : w.heap.size ≤ gb371)); have n3_ := Aside0.mk ((by rw [hg]; exact bsize_ : w.heap.size ≤ gb371)); clear HB; have HB := n0_; have BK371 := n1_; have GW371 := n2_; have GE371 := n3_; clear n0_ n1_ n2_ n3_; clear hb hbox hg; obtain ⟨hcz16_0, hcz16_1, hcz16_2, hcz16_3, hcz16_4, hcz16_5, hcz16_6, hcz16_7, hfz16_0, hfz16_1, hfz16_2, hfz16_3, hfz16_4, hfz16_5, hfz16_6, hfz16_7⟩ := blk_all8 BK371.out) | ((with_reducible refine gate_callee (f := 15) rfl ?_); refine goesA_ (some 12) Tryz.func15 #[.agg #[.string a0_0, .int .i64 a0_1, .int .i64 a0_2, .int .i64 a0_3, .int .i64 a0_4, .int .i64 a0_5, .string a0_6, .slice A0_7 l0_7.length c0_7]] ?_; (with_reducible refine (thwartlaw08_far.calls a0_0 a0_1 a0_2 a0_3 a0_4 a0_5 a0_6 _ _ l0_7 false _ ?side1 ?side2 A2.out).mono ?_); (case side1 => repeat (first | exact (Kd.C_below HR0_7.out HB.out) | (with_reducible refine Kd.C_alloc ?_ _) | (with_reducible refine Kd.C_drewN ?_ _) | (with_reducible refine Kd.C_drew ?_))); (case side2 => exact HC0_7.out); rintro e w17 ⟨rfl, hb⟩; refine ⟨_, rfl, ?_⟩; have n0_ := Aside0.mk (blkB_ BK371.out hb); have n1_ := Aside0.mk (bstep_ hb); clear BK371; clear HB; have BK371 := n0_; have HB := n1_; clear n0_ n1_; (try clear hb); (try clear hb2); (try clear hk); (try clear hi); obtain ⟨hcz18_0, hcz18_1, hcz18_2, hcz18_3, hcz18_4, hcz18_5, hcz18_6, hcz18_7, hfz18_0, hfz18_1, hfz18_2, hfz18_3, hfz18_4, hfz18_5, hfz18_6, hfz18_7⟩ := blk_all8 BK371.out) | ((with_reducible refine gate_callee (f := 13) rfl ?_); refine goesA_ (some 16) Tryz.func13 #[.agg #[.string a0_0, .int .i64 a0_1, .int .i64 a0_2, .int .i64 a0_3, .int .i64 a0_4, .int .i64 a0_5, .string a0_6, .slice A0_7 l0_7.length c0_7]] ?_; (with_reducible refine (thwartlaw08_theirs.calls a0_0 a0_1 a0_2 a0_3 a0_4 a0_5 a0_6 (fun k_ => k_ < w.heap.size) _ _ l0_7 t374 t375 t376 t377 t378 t379 t380 t381 _ ?side1 A9.out).mono ?_); (case side1 => exact Kd.V_mk HC0_7.out (Kd.F_below (Kd.C_F (Kd.heap_int .u8) HR0_7.out) belA_)); rintro e w19 ⟨v382, rfl, ho0, hb⟩; refine ⟨_, rfl, ?_⟩; have n0_ := Aside0.mk (Kd.V_lower (Kd.V_mono (ok' := fun k_ => k_ ≠ gb371) ho0 (fun k_ hk_ => Or.elim hk_ (fun hs_ => fun e_ => Nat.not_le.2 hs_ (by rw [e_]; exact GW371.out)) (fun hn_ => (Kd.freshB (g := gb371) (o := .cells #[.string a0_0, .int .i64 a0_1, .int .i64 a0_2, .int .i64 a0_3, .int .i64 a0_4, .int .i64 a0_5, .string a0_6, .slice A0_7 l0_7.length c0_7] 45 (0, 0)) (by (with_reducible repeat (first | refine blk_drewN ?_ _ | refine blk_drew ?_ | refine blk_alloc ?_ _)); exact BK371.out) k_ hn_)))) bsize_); have n1_ := Aside0.mk (blkB_ BK371.out hb); have n2_ := Aside0.mk (bstep_ hb); clear BK371; clear HB; have HO383 := n0_; have BK371 := n1_; have HB := n2_; clear n0_ n1_ n2_; (try clear hb); (try clear hb2); (try clear hk); (try clear hi); (try clear ho0); obtain ⟨Ao20, co20, eo20⟩ := Kd.V_slice HO383.out; subst eo20) | ((with_reducible refine gate_callee (f := 16) rfl ?_); refine goesA_ (some 17) Tryz.func16 #[.agg #[.string t374, .int .i64 t375, .int .i64 t376, .int .i64 t377, .int .i64 t378, .int .i64 t379, .string t380, .slice Ao20 t381.length co20]] ?_; (with_reducible refine (memb_Lay.calls k t374 t375 t376 t377 t378 t379 t380 _ _ t381 t384 t387 _ ⟨HTB.out.below belA_⟩ ?side1 ?side2 A10.out).mono ?_); (case side1 => repeat (first | exact (Kd.V_reads' HO383.out).2.2 | (with_reducible refine Kd.C_alloc ?_ _) | (with_reducible refine Kd.C_drewN ?_ _) | (with_reducible refine Kd.C_drew ?_))); (case side2 => exact (Kd.V_reads' HO383.out).2.1); rintro e w21 ⟨v385, rfl, ho0, hb⟩; refine ⟨_, rfl, ?_⟩; have n0_ := Aside0.mk (Kd.V_elder' (by (with_reducible repeat (first | apply Kd.V_alloc | apply Kd.V_drewN | apply Kd.V_drew)); exact HO383.out) (Kd.R_base ho0) hb); have n1_ := Aside0.mk (Kd.R_lower ho0 bsize_); have n2_ := Aside0.mk (blkB_ BK371.out hb); have n3_ := Aside0.mk (bstep_ hb); clear HO383; clear BK371; clear HB; have HO383 := n0_; have HO386 := n1_; have BK371 := n2_; have HB := n3_; clear n0_ n1_ n2_ n3_; (try clear hb); (try clear hb2); (try clear hk); (try clear hi); (try clear ho0); obtain ⟨hcz22_0, hcz22_1, hcz22_2, hcz22_3, hcz22_4, hcz22_5, hcz22_6, hcz22_7, hfz22_0, hfz22_1, hfz22_2, hfz22_3, hfz22_4, hfz22_5, hfz22_6, hfz22_7⟩ := blk_all8 BK371.out) | ((with_reducible refine gate_callee (f := 13) rfl ?_); refine goesA_ (some 29) Tryz.func13 #[.agg #[.string a0_0, .int .i64 a0_1, .int .i64 a0_2, .int .i64 a0_3, .int .i64 a0_4, .int .i64 a0_5, .string a0_6, .slice A0_7 l0_7.length c0_7]] ?_; (with_reducible refine (thwartlaw08_theirs.calls a0_0 a0_1 a0_2 a0_3 a0_4 a0_5 a0_6 (fun k_ => k_ < w.heap.size) _ _ l0_7 t389 t390 t391 t392 t393 t394 t395 t396 _ ?side1 A12.out).mono ?_); (case side1 => exact Kd.V_mk HC0_7.out (Kd.F_below (Kd.C_F (Kd.heap_int .u8) HR0_7.out) belA_)); rintro e w23 ⟨v397, rfl, ho0, hb⟩; refine ⟨_, rfl, ?_⟩; have n0_ := Aside0.mk (Kd.V_below (by (with_reducible repeat (first | apply Kd.V_alloc | apply Kd.V_drewN | apply Kd.V_drew)); exact HO383.out) hb); have n1_ := Aside0.mk (Kd.R_below (by (with_reducible repeat (first | apply Kd.R_alloc | apply Kd.R_drewN | apply Kd.R_drew)); exact HO386.out) hb); have n2_ := Aside0.mk (Kd.V_lower (Kd.V_mono (ok' := fun k_ => some k_ ≠ (v385 : Value).ownBlock ∧ k_ ≠ gb371) ho0 (fun k_ hk_ => ⟨Or.elim hk_ (fun hs_ => fun e_ => Nat.not_le.2 hs_ (Kd.R_base HO386.out k_ e_.symm)) (fun hn_ => (Kd.fresh' (Kd.R_lt (by (with_reducible repeat (first | apply Kd.R_alloc | apply Kd.R_drewN | apply Kd.R_drew)); exact HO386.out)) k_ hn_)), Or.elim hk_ (fun hs_ => fun e_ => Nat.not_le.2 hs_ (by rw [e_]; exact GW371.out)) (fun hn_ => (Kd.freshB (g := gb371) (o := .cells #[.string a0_0, .int .i64 a0_1, .int .i64 a0_2, .int .i64 a0_3, .int .i64 a0_4, .int .i64 a0_5, .string a0_6, .slice A0_7 l0_7.length c0_7] 45 (0, 0)) (by (with_reducible repeat (first | refine blk_drewN ?_ _ | refine blk_drew ?_ | refine blk_alloc ?_ _)); exact BK371.out) k_ hn_))⟩)) bsize_); have n3_ := Aside0.mk (blkB_ BK371.out hb); have n4_ := Aside0.mk (bstep_ hb); clear HO383; clear HO386; clear BK371; clear HB; have HO383 := n0_; have HO386 := n1_; have HO398 := n2_; have BK371 := n3_; have HB := n4_; clear n0_ n1_ n2_ n3_ n4_; (try clear hb); (try clear hb2); (try clear hk); (try clear hi); (try clear ho0); obtain ⟨Ao24, co24, eo24⟩ := Kd.V_slice HO398.out; subst eo24) | ((with_reducible refine gate_callee (f := 17) rfl ?_); refine goesA_ (some 30) Tryz.func17 #[.agg #[.string t389, .int .i64 t390, .int .i64 t391, .int .i64 t392, .int .i64 t393, .int .i64 t394, .string t395, .slice Ao24 t396.length co24]] ?_; (with_reducible refine (memb_Recs.calls t389 t390 t391 t392 t393 t394 t395 _ _ t396 t399 _ ?side1 ?side2 A13.out).mono ?_); (case side1 => repeat (first | exact (Kd.V_reads' HO398.out).2.2 | (with_reducible refine Kd.C_alloc ?_ _) | (with_reducible refine Kd.C_drewN ?_ _) | (with_reducible refine Kd.C_drew ?_))); (case side2 => exact (Kd.V_reads' HO398.out).2.1); rintro e w25 ⟨v400, rfl, ho0, hb⟩; refine ⟨_, rfl, ?_⟩; have n0_ := Aside0.mk (Kd.V_elder' (by (with_reducible repeat (first | apply Kd.V_alloc | apply Kd.V_drewN | apply Kd.V_drew)); exact HO383.out) (Kd.R_base ho0) hb); have n1_ := Aside0.mk (Kd.R_below (by (with_reducible repeat (first | apply Kd.R_alloc | apply Kd.R_drewN | apply Kd.R_drew)); exact HO386.out) hb); have n2_ := Aside0.mk (Kd.V_elder' (by (with_reducible repeat (first | apply Kd.V_alloc | apply Kd.V_drewN | apply Kd.V_drew)); exact HO398.out) (Kd.R_base ho0) hb); have n3_ := Aside0.mk (Kd.R_lower ho0 bsize_); have n4_ := Aside0.mk (blkB_ BK371.out hb); have n5_ := Aside0.mk (bstep_ hb); clear HO383; clear HO386; clear HO398; clear BK371; clear HB; have HO383 := n0_; have HO386 := n1_; have HO398 := n2_; have HO401 := n3_; have BK371 := n4_; have HB := n5_; clear n0_ n1_ n2_ n3_ n4_ n5_; (try clear hb); (try clear hb2); (try clear hk); (try clear hi); (try clear ho0); obtain ⟨hcz26_0, hcz26_1, hcz26_2, hcz26_3, hcz26_4, hcz26_5, hcz26_6, hcz26_7, hfz26_0, hfz26_1, hfz26_2, hfz26_3, hfz26_4, hfz26_5, hfz26_6, hfz26_7⟩ := blk_all8 BK371.out))
   (try simp only [Act.put, List.setIfInBounds_toArray, List.set_cons_zero, List.set_cons_succ])
   go_cut [57] (fun v57 wc => ∃ (kq : Nat) (x57_13 : Bool), v57 = .bool x57_13 ∧ Aside0 (thwartlaw08_MembWhole.j0 kq t384 t399 (wrap64 (512 + (wrap64 ((wrap64 (Int.tdiv (wrap64 ((l0_7.length : Int) + 511)) 512)) * 512)))) x57_13 a0_0 a0_1 a0_2 a0_3 a0_4 a0_5 a0_6 l0_7 = some r) ∧ Aside0 (kq ≤ k) ∧ Aside0 (Kd.R (Kd.int .u8) 5 wc w.heap.size (fun _ => True) v385 t384) ∧ Aside0 (Kd.R k35 35 wc w.heap.size (fun _ => True) v400 t399) ∧ Aside0 (wc.heap[gb371]? = some (.cells #[.string a0_0, .int .i64 a0_1, .int .i64 a0_2, .int .i64 a0_3, .int .i64 a0_4, .int .i64 a0_5, .string a0_6, (.slice A0_7 l0_7.length c0_7)] 45 (0, 0))) ∧ Aside0 (Below w.heap.size w wc))
   case first =>
    have H := HC14.out
    clear HC14
    by_cases c27 : ((t384.length : Int) % 512) = 0
    ·rw [if_pos c27] at H
     have c27b0 : (((t384.length : Int) % 512) == 0) = true := beq_iff_eq.mpr c27
     have c27b1 : (((t384.length : Int) % 512) != 0) = false := bne_eq_false_iff_eq.mpr c27
     clear c27
     (first | rw [c27b0] | (simp only [i64_w, i32_w]; rw [c27b0]) | skip)
     by_cases c28 : (t384.length : Int) < (wrap64 (512 + (wrap64 ((wrap64 (Int.tdiv (wrap64 ((l0_7.length : Int) + 511)) 512)) * 512))))
     ·rw [if_pos c28] at H
      have c28b0 : decide ((t384.length : Int) < (wrap64 (512 + (wrap64 ((wrap64 (Int.tdiv (wrap64 ((l0_7.length : Int) + 511)) 512)) * 512))))) = true := decide_eq_true c28
      clear c28
      have H' := Aside0.mk H
      clear H
      obtain ⟨Ao29, co29, eo29⟩ := Kd.R_slice HO386.out
      subst eo29
      go_wp2
      go_meet
      case rel => exact ⟨_, (true), (by first | rfl | (simp; done) | (simp; exact bne_l_ _ _) | (simp [*]; done)), H', ⟨by first | omega | exact Nat.le_refl _⟩, ⟨by (with_reducible repeat (first | apply Kd.R_alloc | apply Kd.R_drewN | apply Kd.R_drew)); exact HO386.out⟩, ⟨by (with_reducible repeat (first | apply Kd.R_alloc | apply Kd.R_drewN | apply Kd.R_drew)); exact HO401.out⟩, ⟨by (with_reducible repeat (first | refine blk_drewN ?_ _ | refine blk_drew ?_ | refine blk_alloc ?_ _)); exact BK371.out⟩, ⟨by repeat (first | (with_reducible first | exact HB.out | apply below_alloc | apply pw_below_drewN | apply below_drew1 | refine below_set ?_ GE371.out) | exact HB.out)⟩⟩
     ·rw [if_neg c28] at H
      have c28b0 : decide ((t384.length : Int) < (wrap64 (512 + (wrap64 ((wrap64 (Int.tdiv (wrap64 ((l0_7.length : Int) + 511)) 512)) * 512))))) = false := decide_eq_false c28
      clear c28
      have H' := Aside0.mk H
      clear H
      obtain ⟨Ao30, co30, eo30⟩ := Kd.R_slice HO386.out
      subst eo30
      obtain ⟨Ao31, co31, eo31⟩ := Kd.R_slice HO401.out
      subst eo31
      go_wp2
      go_meet
      case rel => exact ⟨_, (((decide ((t384.length : Int) > (wrap64 (512 + (wrap64 ((wrap64 (Int.tdiv (wrap64 ((l0_7.length : Int) + 511)) 512)) * 512)))))) != (decide ((t399.length : Int) > 0)))), (by first | rfl | (simp; done) | (simp; exact bne_l_ _ _) | (simp [*]; done)), H', ⟨by first | omega | exact Nat.le_refl _⟩, ⟨by (with_reducible repeat (first | apply Kd.R_alloc | apply Kd.R_drewN | apply Kd.R_drew)); exact HO386.out⟩, ⟨by (with_reducible repeat (first | apply Kd.R_alloc | apply Kd.R_drewN | apply Kd.R_drew)); exact HO401.out⟩, ⟨by (with_reducible repeat (first | refine blk_drewN ?_ _ | refine blk_drew ?_ | refine blk_alloc ?_ _)); exact BK371.out⟩, ⟨by repeat (first | (with_reducible first | exact HB.out | apply below_alloc | apply pw_below_drewN | apply below_drew1 | refine below_set ?_ GE371.out) | exact HB.out)⟩⟩
    ·rw [if_neg c27] at H
     have c27b0 : (((t384.length : Int) % 512) == 0) = false := beq_eq_false_iff_ne.mpr c27
     have c27b1 : (((t384.length : Int) % 512) != 0) = true := bne_iff_ne.mpr c27
     (first | rw [c27b0] | (simp only [i64_w, i32_w]; rw [c27b0]) | skip)
     have H' := Aside0.mk H
     clear H
     obtain ⟨Ao32, co32, eo32⟩ := Kd.R_slice HO386.out
     subst eo32
     go_wp2
     go_meet
     case rel => exact ⟨_, (true), (by first | rfl | (simp; done) | (simp; exact bne_l_ _ _) | (simp [*]; done)), H', ⟨by first | omega | exact Nat.le_refl _⟩, ⟨by (with_reducible repeat (first | apply Kd.R_alloc | apply Kd.R_drewN | apply Kd.R_drew)); exact HO386.out⟩, ⟨by (with_reducible repeat (first | apply Kd.R_alloc | apply Kd.R_drewN | apply Kd.R_drew)); exact HO401.out⟩, ⟨by (with_reducible repeat (first | refine blk_drewN ?_ _ | refine blk_drew ?_ | refine blk_alloc ?_ _)); exact BK371.out⟩, ⟨by repeat (first | (with_reducible first | exact HB.out | apply below_alloc | apply pw_below_drewN | apply below_drew1 | refine below_set ?_ GE371.out) | exact HB.out)⟩⟩
   case rest =>
    clear HC14
    try clear c1
    try clear c2
    try clear p2
    try clear c3
    try clear c5
    try clear p6
    try clear c10
    try clear c11
    try clear c11b0
    try clear c11b1
    try clear c13
    try clear c15
    try clear c16
    try clear c17
    try clear c27
    try clear c27b0
    try clear c27b1
    try clear c28
    try clear c28b0
    try clear hcz16_0
    try clear hcz16_1
    try clear hcz16_2
    try clear hcz16_3
    try clear hcz16_4
    try clear hcz16_5
    try clear hcz16_6
    try clear hcz16_7
    try clear hcz18_0
    try clear hcz18_1
    try clear hcz18_2
    try clear hcz18_3
    try clear hcz18_4
    try clear hcz18_5
    try clear hcz18_6
    try clear hcz18_7
    try clear hcz22_0
    try clear hcz22_1
    try clear hcz22_2
    try clear hcz22_3
    try clear hcz22_4
    try clear hcz22_5
    try clear hcz22_6
    try clear hcz22_7
    try clear hcz26_0
    try clear hcz26_1
    try clear hcz26_2
    try clear hcz26_3
    try clear hcz26_4
    try clear hcz26_5
    try clear hcz26_6
    try clear hcz26_7
    try clear hcz6_0
    try clear hcz6_1
    try clear hcz6_2
    try clear hcz6_3
    try clear hcz6_4
    try clear hcz6_5
    try clear hcz6_6
    try clear hcz6_7
    try clear hfz16_0
    try clear hfz16_1
    try clear hfz16_2
    try clear hfz16_3
    try clear hfz16_4
    try clear hfz16_5
    try clear hfz16_6
    try clear hfz16_7
    try clear hfz18_0
    try clear hfz18_1
    try clear hfz18_2
    try clear hfz18_3
    try clear hfz18_4
    try clear hfz18_5
    try clear hfz18_6
    try clear hfz18_7
    try clear hfz22_0
    try clear hfz22_1
    try clear hfz22_2
    try clear hfz22_3
    try clear hfz22_4
    try clear hfz22_5
    try clear hfz22_6
    try clear hfz22_7
    try clear hfz26_0
    try clear hfz26_1
    try clear hfz26_2
    try clear hfz26_3
    try clear hfz26_4
    try clear hfz26_5
    try clear hfz26_6
    try clear hfz26_7
    try clear hfz6_0
    try clear hfz6_1
    try clear hfz6_2
    try clear hfz6_3
    try clear hfz6_4
    try clear hfz6_5
    try clear hfz6_6
    try clear hfz6_7
    obtain ⟨kq, x57_13, rfl, HA, HJ13, HO_3, HO_5, BK371, HB⟩ := hcut
    cases kq with
    | zero => exact absurd HA.out (by simp [thwartlaw08_MembWhole.j0])
    | succ kj13 =>
     have H := HA.out
     clear HA
     simp only [thwartlaw08_MembWhole.j0] at H
     by_cases c33 : x57_13 = true
     ·subst c33
      have H1 := H; rw [if_pos rfl] at H1
      clear H
      have H := H1
      clear H1
      exact absurd (H.trans (congrArg some HT.out)) (by simp)
     ·replace c33 := Bool.eq_false_iff.mpr c33
      subst c33
      have H1 := H; rw [if_neg (show ¬ (false = true) by decide)] at H1
      clear H
      have H := H1
      clear H1
      obtain ⟨ji34, hji34⟩ : ∃ j_ : Int, (wrap64 ((t384.length : Int) - (wrap64 (512 + (wrap64 ((wrap64 (Int.tdiv (wrap64 ((l0_7.length : Int) + 511)) 512)) * 512)))))) = j_ := ⟨_, rfl⟩
      replace H : (if 0 ≤ (ji34) then (if (ji34) ≤ (t384.length : Int) then ((some (t384.drop ((ji34) : Int).toNat : List Int)).bind fun y402 => (if 512 ≤ (y402.length : Int) then ((head_Parse.f kj13 (y402.take 512)).bind fun bt410 => (if 0 ≤ (wrap64 ((ji34) + 512)) then (if (wrap64 ((ji34) + 512)) ≤ (t384.length : Int) then ((some (t384.drop ((wrap64 ((ji34) + 512)) : Int).toNat : List Int)).bind fun y421 => (if 0 ≤ (l0_7.length : Int) then (if (l0_7.length : Int) ≤ (y421.length : Int) then ((memb_From.f kj13 bt410.1 bt410.2.1 bt410.2.2.1 bt410.2.2.2.1 bt410.2.2.2.2.1 bt410.2.2.2.2.2.1 bt410.2.2.2.2.2.2.1 bt410.2.2.2.2.2.2.2.1 bt410.2.2.2.2.2.2.2.2.1 t399 (y421.take ((l0_7.length : Int) : Int).toNat)).bind fun bt429 => (if bt410.2.2.2.2.2.2.2.2.2 = 0 then (if bt429.2.2.2.2.2.2.2.2 = 0 then ((thwartlaw08_theirs.f a0_0 a0_1 a0_2 a0_3 a0_4 a0_5 a0_6 l0_7).bind fun bt441 => ((memb_Same.f bt429.1 bt429.2.1 bt429.2.2.1 bt429.2.2.2.1 bt429.2.2.2.2.1 bt429.2.2.2.2.2.1 bt429.2.2.2.2.2.2.1 bt429.2.2.2.2.2.2.2.1 bt441.1 bt441.2.1 bt441.2.2.1 bt441.2.2.2.1 bt441.2.2.2.2.1 bt441.2.2.2.2.2.1 bt441.2.2.2.2.2.2.1 bt441.2.2.2.2.2.2.2).bind fun t451 => (if t451 = true then (if bt410.2.2.2.2.2.2.1 = (l0_7.length : Int) then ((thwartlaw08_alive.f kj13).bind fun t452 => (some t452)) else (some false)) else (some false)))) else (some false)) else (some false))) else (none)) else (none))) else (none)) else (none))) else (none))) else (none)) else (none)) = some r := by first | (rw [hji34] at H; exact H) | (simp only [hji34] at H ⊢; exact H)
      have hji34w : (IntKind.i64.wrap ((t384.length : Int) - (wrap64 (512 + (wrap64 ((wrap64 (Int.tdiv (wrap64 ((l0_7.length : Int) + 511)) 512)) * 512)))))) = ji34 := (i64_w _).trans hji34
      by_cases c35 : 0 ≤ (ji34)
      ·rw [if_pos c35] at H
       have c35b0 := eq_true c35
       have c35b1 : decide (0 ≤ (ji34)) = true := decide_eq_true c35
       clear c35
       by_cases c36 : (ji34) ≤ (t384.length : Int)
       ·rw [if_pos c36] at H
        have c36b0 := eq_true c36
        have c36b1 : decide ((ji34) ≤ (t384.length : Int)) = true := decide_eq_true c36
        clear c36
        obtain ⟨y402, hy402⟩ : ∃ y_ : List Int, y_ = (t384.drop ((ji34) : Int).toNat) := ⟨_, rfl⟩
        replace H : (if 512 ≤ (y402.length : Int) then ((head_Parse.f kj13 (y402.take 512)).bind fun bt410 => (if 0 ≤ (wrap64 ((ji34) + 512)) then (if (wrap64 ((ji34) + 512)) ≤ (t384.length : Int) then ((some (t384.drop ((wrap64 ((ji34) + 512)) : Int).toNat : List Int)).bind fun y421 => (if 0 ≤ (l0_7.length : Int) then (if (l0_7.length : Int) ≤ (y421.length : Int) then ((memb_From.f kj13 bt410.1 bt410.2.1 bt410.2.2.1 bt410.2.2.2.1 bt410.2.2.2.2.1 bt410.2.2.2.2.2.1 bt410.2.2.2.2.2.2.1 bt410.2.2.2.2.2.2.2.1 bt410.2.2.2.2.2.2.2.2.1 t399 (y421.take ((l0_7.length : Int) : Int).toNat)).bind fun bt429 => (if bt410.2.2.2.2.2.2.2.2.2 = 0 then (if bt429.2.2.2.2.2.2.2.2 = 0 then ((thwartlaw08_theirs.f a0_0 a0_1 a0_2 a0_3 a0_4 a0_5 a0_6 l0_7).bind fun bt441 => ((memb_Same.f bt429.1 bt429.2.1 bt429.2.2.1 bt429.2.2.2.1 bt429.2.2.2.2.1 bt429.2.2.2.2.2.1 bt429.2.2.2.2.2.2.1 bt429.2.2.2.2.2.2.2.1 bt441.1 bt441.2.1 bt441.2.2.1 bt441.2.2.2.1 bt441.2.2.2.2.1 bt441.2.2.2.2.2.1 bt441.2.2.2.2.2.2.1 bt441.2.2.2.2.2.2.2).bind fun t451 => (if t451 = true then (if bt410.2.2.2.2.2.2.1 = (l0_7.length : Int) then ((thwartlaw08_alive.f kj13).bind fun t452 => (some t452)) else (some false)) else (some false)))) else (some false)) else (some false))) else (none)) else (none))) else (none)) else (none))) else (none)) = some r := by first | (rw [hy402]; with_reducible exact H) | (have H2_ := (Option.bind_some _ _).symm.trans H; rw [hy402]; with_reducible exact H2_) | (have H2_ := (Option.bind_some _ _).symm.trans H; with_reducible exact H2_) | with_reducible exact H | (rw [hy402]; exact H) | exact H
        have Ny402 := Aside0.mk hy402
        clear hy402
        by_cases c37 : 512 ≤ (y402.length : Int)
        ·rw [if_pos c37] at H
         have c37b0 := eq_true c37
         have c37b1 : decide (512 ≤ (y402.length : Int)) = true := decide_eq_true c37
         clear c37
         obtain ⟨y406, hy406⟩ : ∃ y_ : List Int, y_ = (y402.take 512) := ⟨_, rfl⟩
         replace H : ((head_Parse.f kj13 y406).bind fun bt410 => (if 0 ≤ (wrap64 ((ji34) + 512)) then (if (wrap64 ((ji34) + 512)) ≤ (t384.length : Int) then ((some (t384.drop ((wrap64 ((ji34) + 512)) : Int).toNat : List Int)).bind fun y421 => (if 0 ≤ (l0_7.length : Int) then (if (l0_7.length : Int) ≤ (y421.length : Int) then ((memb_From.f kj13 bt410.1 bt410.2.1 bt410.2.2.1 bt410.2.2.2.1 bt410.2.2.2.2.1 bt410.2.2.2.2.2.1 bt410.2.2.2.2.2.2.1 bt410.2.2.2.2.2.2.2.1 bt410.2.2.2.2.2.2.2.2.1 t399 (y421.take ((l0_7.length : Int) : Int).toNat)).bind fun bt429 => (if bt410.2.2.2.2.2.2.2.2.2 = 0 then (if bt429.2.2.2.2.2.2.2.2 = 0 then ((thwartlaw08_theirs.f a0_0 a0_1 a0_2 a0_3 a0_4 a0_5 a0_6 l0_7).bind fun bt441 => ((memb_Same.f bt429.1 bt429.2.1 bt429.2.2.1 bt429.2.2.2.1 bt429.2.2.2.2.1 bt429.2.2.2.2.2.1 bt429.2.2.2.2.2.2.1 bt429.2.2.2.2.2.2.2.1 bt441.1 bt441.2.1 bt441.2.2.1 bt441.2.2.2.1 bt441.2.2.2.2.1 bt441.2.2.2.2.2.1 bt441.2.2.2.2.2.2.1 bt441.2.2.2.2.2.2.2).bind fun t451 => (if t451 = true then (if bt410.2.2.2.2.2.2.1 = (l0_7.length : Int) then ((thwartlaw08_alive.f kj13).bind fun t452 => (some t452)) else (some false)) else (some false)))) else (some false)) else (some false))) else (none)) else (none))) else (none)) else (none))) = some r := by first | (rw [hy406]; with_reducible exact H) | (have H2_ := (Option.bind_some _ _).symm.trans H; rw [hy406]; with_reducible exact H2_) | (have H2_ := (Option.bind_some _ _).symm.trans H; with_reducible exact H2_) | with_reducible exact H | (rw [hy406]; exact H) | exact H
         have Ny406 := Aside0.mk hy406
         clear hy406
         replace H := Option.bind_eq_some_iff.mp H
         obtain ⟨⟨t410, t411, t412, t413, t414, t415, t416, t417, t418, t419⟩, A380, H⟩ := H
         try dsimp only at H
         have A38 := Aside0.mk A380
         clear A380
         obtain ⟨ji39, hji39⟩ : ∃ j_ : Int, (wrap64 ((ji34) + 512)) = j_ := ⟨_, rfl⟩
         replace H : (if 0 ≤ (ji39) then (if (ji39) ≤ (t384.length : Int) then ((some (t384.drop ((ji39) : Int).toNat : List Int)).bind fun y421 => (if 0 ≤ (l0_7.length : Int) then (if (l0_7.length : Int) ≤ (y421.length : Int) then ((memb_From.f kj13 t410 t411 t412 t413 t414 t415 t416 t417 t418 t399 (y421.take ((l0_7.length : Int) : Int).toNat)).bind fun bt429 => (if t419 = 0 then (if bt429.2.2.2.2.2.2.2.2 = 0 then ((thwartlaw08_theirs.f a0_0 a0_1 a0_2 a0_3 a0_4 a0_5 a0_6 l0_7).bind fun bt441 => ((memb_Same.f bt429.1 bt429.2.1 bt429.2.2.1 bt429.2.2.2.1 bt429.2.2.2.2.1 bt429.2.2.2.2.2.1 bt429.2.2.2.2.2.2.1 bt429.2.2.2.2.2.2.2.1 bt441.1 bt441.2.1 bt441.2.2.1 bt441.2.2.2.1 bt441.2.2.2.2.1 bt441.2.2.2.2.2.1 bt441.2.2.2.2.2.2.1 bt441.2.2.2.2.2.2.2).bind fun t451 => (if t451 = true then (if t416 = (l0_7.length : Int) then ((thwartlaw08_alive.f kj13).bind fun t452 => (some t452)) else (some false)) else (some false)))) else (some false)) else (some false))) else (none)) else (none))) else (none)) else (none)) = some r := by first | (rw [hji39] at H; exact H) | (simp only [hji39] at H ⊢; exact H)
         (try rw [hji39] at A38)
         have hji39w : (IntKind.i64.wrap ((ji34) + 512)) = ji39 := (i64_w _).trans hji39
         by_cases c40 : 0 ≤ (ji39)
         ·rw [if_pos c40] at H
          have c40b0 := eq_true c40
          have c40b1 : decide (0 ≤ (ji39)) = true := decide_eq_true c40
          clear c40
          by_cases c41 : (ji39) ≤ (t384.length : Int)
          ·rw [if_pos c41] at H
           have c41b0 := eq_true c41
           have c41b1 : decide ((ji39) ≤ (t384.length : Int)) = true := decide_eq_true c41
           clear c41
           obtain ⟨y421, hy421⟩ : ∃ y_ : List Int, y_ = (t384.drop ((ji39) : Int).toNat) := ⟨_, rfl⟩
           replace H : (if 0 ≤ (l0_7.length : Int) then (if (l0_7.length : Int) ≤ (y421.length : Int) then ((memb_From.f kj13 t410 t411 t412 t413 t414 t415 t416 t417 t418 t399 (y421.take ((l0_7.length : Int) : Int).toNat)).bind fun bt429 => (if t419 = 0 then (if bt429.2.2.2.2.2.2.2.2 = 0 then ((thwartlaw08_theirs.f a0_0 a0_1 a0_2 a0_3 a0_4 a0_5 a0_6 l0_7).bind fun bt441 => ((memb_Same.f bt429.1 bt429.2.1 bt429.2.2.1 bt429.2.2.2.1 bt429.2.2.2.2.1 bt429.2.2.2.2.2.1 bt429.2.2.2.2.2.2.1 bt429.2.2.2.2.2.2.2.1 bt441.1 bt441.2.1 bt441.2.2.1 bt441.2.2.2.1 bt441.2.2.2.2.1 bt441.2.2.2.2.2.1 bt441.2.2.2.2.2.2.1 bt441.2.2.2.2.2.2.2).bind fun t451 => (if t451 = true then (if t416 = (l0_7.length : Int) then ((thwartlaw08_alive.f kj13).bind fun t452 => (some t452)) else (some false)) else (some false)))) else (some false)) else (some false))) else (none)) else (none)) = some r := by first | (rw [hy421]; with_reducible exact H) | (have H2_ := (Option.bind_some _ _).symm.trans H; rw [hy421]; with_reducible exact H2_) | (have H2_ := (Option.bind_some _ _).symm.trans H; with_reducible exact H2_) | with_reducible exact H | (rw [hy421]; exact H) | exact H
           have Ny421 := Aside0.mk hy421
           clear hy421
           by_cases c42 : 0 ≤ (l0_7.length : Int)
           ·rw [if_pos c42] at H
            have c42b0 := eq_true c42
            have c42b1 : decide (0 ≤ (l0_7.length : Int)) = true := decide_eq_true c42
            clear c42
            by_cases c43 : (l0_7.length : Int) ≤ (y421.length : Int)
            ·rw [if_pos c43] at H
             have c43b0 := eq_true c43
             have c43b1 : decide ((l0_7.length : Int) ≤ (y421.length : Int)) = true := decide_eq_true c43
             clear c43
             obtain ⟨y425, hy425⟩ : ∃ y_ : List Int, y_ = (y421.take ((l0_7.length : Int) : Int).toNat) := ⟨_, rfl⟩
             replace H : ((memb_From.f kj13 t410 t411 t412 t413 t414 t415 t416 t417 t418 t399 y425).bind fun bt429 => (if t419 = 0 then (if bt429.2.2.2.2.2.2.2.2 = 0 then ((thwartlaw08_theirs.f a0_0 a0_1 a0_2 a0_3 a0_4 a0_5 a0_6 l0_7).bind fun bt441 => ((memb_Same.f bt429.1 bt429.2.1 bt429.2.2.1 bt429.2.2.2.1 bt429.2.2.2.2.1 bt429.2.2.2.2.2.1 bt429.2.2.2.2.2.2.1 bt429.2.2.2.2.2.2.2.1 bt441.1 bt441.2.1 bt441.2.2.1 bt441.2.2.2.1 bt441.2.2.2.2.1 bt441.2.2.2.2.2.1 bt441.2.2.2.2.2.2.1 bt441.2.2.2.2.2.2.2).bind fun t451 => (if t451 = true then (if t416 = (l0_7.length : Int) then ((thwartlaw08_alive.f kj13).bind fun t452 => (some t452)) else (some false)) else (some false)))) else (some false)) else (some false))) = some r := by first | (rw [hy425]; with_reducible exact H) | (have H2_ := (Option.bind_some _ _).symm.trans H; rw [hy425]; with_reducible exact H2_) | (have H2_ := (Option.bind_some _ _).symm.trans H; with_reducible exact H2_) | with_reducible exact H | (rw [hy425]; exact H) | exact H
             have Ny425 := Aside0.mk hy425
             clear hy425
             replace H := Option.bind_eq_some_iff.mp H
             obtain ⟨⟨t429, t430, t431, t432, t433, t434, t435, t436, t439⟩, A440, H⟩ := H
             try dsimp only at H
             have A44 := Aside0.mk A440
             clear A440
             by_cases c45 : t419 = 0
             ·rw [if_pos c45] at H
              have c45b0 : (t419 == 0) = true := beq_iff_eq.mpr c45
              have c45b1 : (t419 != 0) = false := bne_eq_false_iff_eq.mpr c45
              clear c45
              by_cases c46 : t439 = 0
              ·rw [if_pos c46] at H
               have c46b0 : (t439 == 0) = true := beq_iff_eq.mpr c46
               have c46b1 : (t439 != 0) = false := bne_eq_false_iff_eq.mpr c46
               clear c46
               replace H := Option.bind_eq_some_iff.mp H
               obtain ⟨⟨t441, t442, t443, t444, t445, t446, t447, t448⟩, A470, H⟩ := H
               try dsimp only at H
               have A47 := Aside0.mk A470
               clear A470
               replace H := Option.bind_eq_some_iff.mp H
               obtain ⟨t451, A480, H⟩ := H
               try dsimp only at H
               have A48 := Aside0.mk A480
               clear A480
               by_cases c49 : t451 = true
               ·subst c49
                have H1 := H; rw [if_pos rfl] at H1
                clear H
                have H := H1
                clear H1
                by_cases c50 : t416 = (l0_7.length : Int)
                ·rw [if_pos c50] at H
                 have c50b0 : (t416 == (l0_7.length : Int)) = true := beq_iff_eq.mpr c50
                 have c50b1 : (t416 != (l0_7.length : Int)) = false := bne_eq_false_iff_eq.mpr c50
                 clear c50
                 replace H := Option.bind_eq_some_iff.mp H
                 obtain ⟨t452, A510, H⟩ := H
                 try dsimp only at H
                 have A51 := Aside0.mk A510
                 clear A510
                 obtain rfl := Option.some.inj H
                 obtain ⟨Ao52, co52, eo52⟩ := Kd.R_slice HO_3.out
                 subst eo52
                 have q53 : ((ji34) : Int) ≤ ((t384.length : Int) : Int) := of_decide_eq_true (by first | (with_reducible assumption) | assumption)
                 obtain ⟨i053, hi053, _, hsz53, _⟩ := info_parts info5
                 have hroom53 : t384.length ≤ co52 := (Kd.R_reads' HO_3.out).2.1
                 have hC53 : Kd.C (Kd.int .u8) _ Ao52 t384.length t384 := (Kd.R_reads' HO_3.out).2.2
                 have q053 : (0 : Int) ≤ ((ji34) : Int) := of_decide_eq_true (by first | (with_reducible assumption) | assumption)
                 have hcut53 := cut_from (P := Tryz.prog) 31 5 .i64 Tryz.underlying31 hi053 1 hsz53 Ao52 t384.length co52 (ji34) q053 q53
                 have hr53 := Kd.C_drop (m := ((ji34) : Int).toNat) (c := co52) hC53 (by omega) hroom53
                 obtain ⟨A53, hA53⟩ : ∃ A1, A1 = (if co52 = ((ji34) : Int).toNat then Ao52 else (Ao52 : Option Addr).map (·.add (((ji34) : Int).toNat * 1))) := ⟨_, rfl⟩
                 obtain ⟨c53, hc53⟩ : ∃ c1, c1 = co52 - ((ji34) : Int).toNat := ⟨_, rfl⟩
                 have hy53 : y402.length = t384.length - ((ji34) : Int).toNat := (by rw [Ny402.out, List.length_drop] <;> omega)
                 rw [show (t384).drop ((ji34) : Int).toNat = y402 from Ny402.out.symm] at hr53
                 replace hr53 : Kd.C (Kd.int .u8) _ A53 y402.length y402 := (by rw [hA53]; exact hr53)
                 rw [← hy53, ← hA53, ← hc53] at hcut53
                 have HR405 := Aside0.mk hr53
                 have HC405 := Aside0.mk (show y402.length ≤ c53 from by rw [hy53, hc53]; exact Nat.sub_le_sub_right hroom53 _)
                 clear hr53 hC53 hroom53 hi053 hsz53 hc53
                 have KY53 := Aside0.mk hy53
                 have KA53 := Aside0.mk hA53
                 clear hy53 hA53
                 have KL53 := Aside0.mk (show ((ji34) : Int).toNat ≤ t384.length from by omega)
                 replace q53 := eq_true q53
                 have q54 : (512 : Int) ≤ ((y402.length : Int) : Int) := of_decide_eq_true (by first | (with_reducible assumption) | assumption)
                 obtain ⟨i054, hi054, _, hsz54, _⟩ := info_parts info5
                 have hroom54 : y402.length ≤ c53 := HC405.out
                 have hC54 : Kd.C (Kd.int .u8) _ A53 y402.length y402 := (by repeat (first | (with_reducible exact HR405.out) | (with_reducible refine Kd.C_alloc ?_ _) | (with_reducible refine Kd.C_drewN ?_ _) | (with_reducible refine Kd.C_drew ?_) | exact HR405.out))
                 have hcut54 := cut_to (P := Tryz.prog) 31 5 .i64 Tryz.underlying31 hi054 A53 y402.length c53 512 (by omega) q54 hroom54
                 have hr54 := Kd.C_take (m := 512) hC54 (by omega)
                 have hy54 : y406.length = (512 : Int).toNat := (by rw [Ny406.out, List.length_take]; omega)
                 rw [← Ny406.out] at hr54
                 rw [← hy54] at hcut54
                 have HR409 := Aside0.mk hr54
                 have HC409 := Aside0.mk (show y406.length ≤ c53 from by omega)
                 clear hr54 hC54 hroom54 hi054 hsz54
                 have KY54 := Aside0.mk hy54
                 clear hy54
                 replace q54 := eq_true q54
                 try go_wp2_with (first | ((with_reducible refine gate_callee (f := 18) rfl ?_); refine goesA_ (some 66) Tryz.func18 #[.slice A53 y406.length c53] ?_; (with_reducible refine (head_Parse.calls kj13 _ _ y406 t410 t411 t412 t413 t414 t415 t416 t417 t418 t419 _ ?side1 ?side2 A38.out).mono ?_); (case side1 => repeat (first | exact (by repeat (first | (with_reducible exact HR409.out) | (with_reducible refine Kd.C_alloc ?_ _) | (with_reducible refine Kd.C_drewN ?_ _) | (with_reducible refine Kd.C_drew ?_) | exact HR409.out)) | (with_reducible refine Kd.C_alloc ?_ _) | (with_reducible refine Kd.C_drewN ?_ _) | (with_reducible refine Kd.C_drew ?_))); (case side2 => exact HC409.out); rintro e w55 ⟨rfl, hb⟩; refine ⟨_, rfl, ?_⟩; have n0_ := Aside0.mk (Kd.R_below (by (with_reducible repeat (first | apply Kd.R_alloc | apply Kd.R_drewN | apply Kd.R_drew)); exact HO_3.out) hb); have n1_ := Aside0.mk (Kd.R_below (by (with_reducible repeat (first | apply Kd.R_alloc | apply Kd.R_drewN | apply Kd.R_drew)); exact HO_5.out) hb); have n2_ := Aside0.mk (blkB_ BK371.out hb); have n3_ := Aside0.mk (Kd.C_below (by repeat (first | (with_reducible exact HR405.out) | (with_reducible refine Kd.C_alloc ?_ _) | (with_reducible refine Kd.C_drewN ?_ _) | (with_reducible refine Kd.C_drew ?_) | exact HR405.out)) hb); have n4_ := Aside0.mk (Kd.C_below (by repeat (first | (with_reducible exact HR409.out) | (with_reducible refine Kd.C_alloc ?_ _) | (with_reducible refine Kd.C_drewN ?_ _) | (with_reducible refine Kd.C_drew ?_) | exact HR409.out)) hb); have n5_ := Aside0.mk (bstep_ hb); clear HO_3; clear HO_5; clear BK371; clear HR405; clear HR409; clear HB; have HO_3 := n0_; have HO_5 := n1_; have BK371 := n2_; have HR405 := n3_; have HR409 := n4_; have HB := n5_; clear n0_ n1_ n2_ n3_ n4_ n5_; (try clear hb); (try clear hb2); (try clear hk); (try clear hi)) | ((with_reducible refine gate_dst (N := 7) rfl ?_); (try (refine gate_guard (by rfl) ?_; dsimp only)); refine boxA_ 7 43 #[.string (⟨#[]⟩ : ByteArray), .string (⟨#[]⟩ : ByteArray), .int .i64 0, .int .i64 0, .int .i64 0, .int .i64 0, .int .i64 0, .int .u8 0, .string (⟨#[]⟩ : ByteArray)] ?_; intro gb420 hg w56 hbox hb; have n0_ := Aside0.mk (Kd.R_below (by (with_reducible repeat (first | apply Kd.R_alloc | apply Kd.R_drewN | apply Kd.R_drew)); exact HO_3.out) hb); have n1_ := Aside0.mk (Kd.R_below (by (with_reducible repeat (first | apply Kd.R_alloc | apply Kd.R_drewN | apply Kd.R_drew)); exact HO_5.out) hb); have n2_ := Aside0.mk (blkB_ BK371.out hb); have n3_ := Aside0.mk (Kd.C_below (by repeat (first | (with_reducible exact HR405.out) | (with_reducible refine Kd.C_alloc ?_ _) | (with_reducible refine Kd.C_drewN ?_ _) | (with_reducible refine Kd.C_drew ?_) | exact HR405.out)) hb); have n4_ := Aside0.mk (Kd.C_below (by repeat (first | (with_reducible exact HR409.out) | (with_reducible refine Kd.C_alloc ?_ _) | (with_reducible refine Kd.C_drewN ?_ _) | (with_reducible refine Kd.C_drew ?_) | exact HR409.out)) hb); have n5_ := Aside0.mk (bstep_ hb); have n6_ := Aside0.mk (hbox); have n7_ := Aside0.mk ((by rw [hg]; exact bsize_ : w.heap.size ≤ gb420)); have n8_ := Aside0.mk ((by rw [hg]; exact bsize_ : w.heap.size ≤ gb420)); have n9_ := Aside0.mk ((by rw [hg]; exact Nat.ne_of_lt (blkL_ BK371.out) : gb371 ≠ gb420)); have n10_ := Aside0.mk ((by rw [hg]; exact Nat.ne_of_gt (blkL_ BK371.out) : gb420 ≠ gb371)); clear HO_3; clear HO_5; clear BK371; clear HR405; clear HR409; clear HB; have HO_3 := n0_; have HO_5 := n1_; have BK371 := n2_; have HR405 := n3_; have HR409 := n4_; have HB := n5_; have BK420 := n6_; have GW420 := n7_; have GE420 := n8_; have NB371_420 := n9_; have NB420_371 := n10_; clear n0_ n1_ n2_ n3_ n4_ n5_ n6_ n7_ n8_ n9_ n10_; clear hb hbox hg; have hnb57 := NB420_371.out; have hnc57 := NB371_420.out; obtain ⟨hcz58_0, hcz58_1, hcz58_2, hcz58_3, hcz58_4, hcz58_5, hcz58_6, hcz58_7, hcz58_8, hfz58_0, hfz58_1, hfz58_2, hfz58_3, hfz58_4, hfz58_5, hfz58_6, hfz58_7, hfz58_8⟩ := blk_all9 BK420.out; obtain ⟨Ao59, co59, eo59⟩ := Kd.R_slice HO_5.out; subst eo59))
                 have n0_ : Aside0 (Kd.R (Kd.int .u8) 5 (((((((((w56.setCell ⟨gb420, 0, none⟩ (.string t410)).setCell ⟨gb420, 1, none⟩ (.string t411)).setCell ⟨gb420, 2, none⟩ (.int .i64 t412)).setCell ⟨gb420, 3, none⟩ (.int .i64 t413)).setCell ⟨gb420, 4, none⟩ (.int .i64 t414)).setCell ⟨gb420, 5, none⟩ (.int .i64 t415)).setCell ⟨gb420, 6, none⟩ (.int .i64 t416)).setCell ⟨gb420, 7, none⟩ (.int .u8 t417)).setCell ⟨gb420, 8, none⟩ (.string t418)) w.heap.size (fun _ => True) (.slice Ao52 t384.length co52) t384) := ⟨by (with_reducible repeat (first | apply Kd.R_alloc | apply Kd.R_drewN | apply Kd.R_drew)); exact Kd.R_mono (Kd.R_far (p := ⟨gb420, 8, none⟩) (Kd.R_far (p := ⟨gb420, 7, none⟩) (Kd.R_far (p := ⟨gb420, 6, none⟩) (Kd.R_far (p := ⟨gb420, 5, none⟩) (Kd.R_far (p := ⟨gb420, 4, none⟩) (Kd.R_far (p := ⟨gb420, 3, none⟩) (Kd.R_far (p := ⟨gb420, 2, none⟩) (Kd.R_far (p := ⟨gb420, 1, none⟩) (Kd.R_far (p := ⟨gb420, 0, none⟩) (Kd.R_types HO_3.out BK420.out (by decide)) (fun _ hk => hk.2) (.string t410)) (fun _ hk => hk.2) (.string t411)) (fun _ hk => hk.2) (.int .i64 t412)) (fun _ hk => hk.2) (.int .i64 t413)) (fun _ hk => hk.2) (.int .i64 t414)) (fun _ hk => hk.2) (.int .i64 t415)) (fun _ hk => hk.2) (.int .i64 t416)) (fun _ hk => hk.2) (.int .u8 t417)) (fun _ hk => hk.2) (.string t418)) (fun _ hk => trivial)⟩
                 have n1_ : Aside0 (Kd.R k35 35 (((((((((w56.setCell ⟨gb420, 0, none⟩ (.string t410)).setCell ⟨gb420, 1, none⟩ (.string t411)).setCell ⟨gb420, 2, none⟩ (.int .i64 t412)).setCell ⟨gb420, 3, none⟩ (.int .i64 t413)).setCell ⟨gb420, 4, none⟩ (.int .i64 t414)).setCell ⟨gb420, 5, none⟩ (.int .i64 t415)).setCell ⟨gb420, 6, none⟩ (.int .i64 t416)).setCell ⟨gb420, 7, none⟩ (.int .u8 t417)).setCell ⟨gb420, 8, none⟩ (.string t418)) w.heap.size (fun _ => True) (.slice Ao59 t399.length co59) t399) := ⟨by (with_reducible repeat (first | apply Kd.R_alloc | apply Kd.R_drewN | apply Kd.R_drew)); exact Kd.R_mono (Kd.R_far (p := ⟨gb420, 8, none⟩) (Kd.R_far (p := ⟨gb420, 7, none⟩) (Kd.R_far (p := ⟨gb420, 6, none⟩) (Kd.R_far (p := ⟨gb420, 5, none⟩) (Kd.R_far (p := ⟨gb420, 4, none⟩) (Kd.R_far (p := ⟨gb420, 3, none⟩) (Kd.R_far (p := ⟨gb420, 2, none⟩) (Kd.R_far (p := ⟨gb420, 1, none⟩) (Kd.R_far (p := ⟨gb420, 0, none⟩) (Kd.R_types HO_5.out BK420.out (by decide)) (fun _ hk => hk.2) (.string t410)) (fun _ hk => hk.2) (.string t411)) (fun _ hk => hk.2) (.int .i64 t412)) (fun _ hk => hk.2) (.int .i64 t413)) (fun _ hk => hk.2) (.int .i64 t414)) (fun _ hk => hk.2) (.int .i64 t415)) (fun _ hk => hk.2) (.int .i64 t416)) (fun _ hk => hk.2) (.int .u8 t417)) (fun _ hk => hk.2) (.string t418)) (fun _ hk => trivial)⟩
                 have n2_ : Aside0 ((((((((((w56.setCell ⟨gb420, 0, none⟩ (.string t410)).setCell ⟨gb420, 1, none⟩ (.string t411)).setCell ⟨gb420, 2, none⟩ (.int .i64 t412)).setCell ⟨gb420, 3, none⟩ (.int .i64 t413)).setCell ⟨gb420, 4, none⟩ (.int .i64 t414)).setCell ⟨gb420, 5, none⟩ (.int .i64 t415)).setCell ⟨gb420, 6, none⟩ (.int .i64 t416)).setCell ⟨gb420, 7, none⟩ (.int .u8 t417)).setCell ⟨gb420, 8, none⟩ (.string t418)).heap[gb371]? = some (.cells #[.string a0_0, .int .i64 a0_1, .int .i64 a0_2, .int .i64 a0_3, .int .i64 a0_4, .int .i64 a0_5, .string a0_6, .slice A0_7 l0_7.length c0_7] 45 (0, 0))) := ⟨by (with_reducible repeat (first | refine blk_drewN ?_ _ | refine blk_drew ?_ | refine blk_alloc ?_ _)); refine blk_far ?_ NB371_420.out _; (with_reducible repeat (first | refine blk_drewN ?_ _ | refine blk_drew ?_ | refine blk_alloc ?_ _)); refine blk_far ?_ NB371_420.out _; (with_reducible repeat (first | refine blk_drewN ?_ _ | refine blk_drew ?_ | refine blk_alloc ?_ _)); refine blk_far ?_ NB371_420.out _; (with_reducible repeat (first | refine blk_drewN ?_ _ | refine blk_drew ?_ | refine blk_alloc ?_ _)); refine blk_far ?_ NB371_420.out _; (with_reducible repeat (first | refine blk_drewN ?_ _ | refine blk_drew ?_ | refine blk_alloc ?_ _)); refine blk_far ?_ NB371_420.out _; (with_reducible repeat (first | refine blk_drewN ?_ _ | refine blk_drew ?_ | refine blk_alloc ?_ _)); refine blk_far ?_ NB371_420.out _; (with_reducible repeat (first | refine blk_drewN ?_ _ | refine blk_drew ?_ | refine blk_alloc ?_ _)); refine blk_far ?_ NB371_420.out _; (with_reducible repeat (first | refine blk_drewN ?_ _ | refine blk_drew ?_ | refine blk_alloc ?_ _)); refine blk_far ?_ NB371_420.out _; (with_reducible repeat (first | refine blk_drewN ?_ _ | refine blk_drew ?_ | refine blk_alloc ?_ _)); refine blk_far ?_ NB371_420.out _; (with_reducible repeat (first | refine blk_drewN ?_ _ | refine blk_drew ?_ | refine blk_alloc ?_ _)); exact BK371.out⟩
                 have n3_ : Aside0 ((((((((((w56.setCell ⟨gb420, 0, none⟩ (.string t410)).setCell ⟨gb420, 1, none⟩ (.string t411)).setCell ⟨gb420, 2, none⟩ (.int .i64 t412)).setCell ⟨gb420, 3, none⟩ (.int .i64 t413)).setCell ⟨gb420, 4, none⟩ (.int .i64 t414)).setCell ⟨gb420, 5, none⟩ (.int .i64 t415)).setCell ⟨gb420, 6, none⟩ (.int .i64 t416)).setCell ⟨gb420, 7, none⟩ (.int .u8 t417)).setCell ⟨gb420, 8, none⟩ (.string t418)).heap[gb420]? = some (.cells #[.string t410, .string t411, .int .i64 t412, .int .i64 t413, .int .i64 t414, .int .i64 t415, .int .i64 t416, .int .u8 t417, .string t418] 43 (0, 0))) := ⟨by (with_reducible repeat (first | refine blk_drewN ?_ _ | refine blk_drew ?_ | refine blk_alloc ?_ _)); refine blk_put (cs := #[.string t410, .string t411, .int .i64 t412, .int .i64 t413, .int .i64 t414, .int .i64 t415, .int .i64 t416, .int .u8 t417, .string (⟨#[]⟩ : ByteArray)]) ?_ 8 _ rfl; (with_reducible repeat (first | refine blk_drewN ?_ _ | refine blk_drew ?_ | refine blk_alloc ?_ _)); refine blk_put (cs := #[.string t410, .string t411, .int .i64 t412, .int .i64 t413, .int .i64 t414, .int .i64 t415, .int .i64 t416, .int .u8 0, .string (⟨#[]⟩ : ByteArray)]) ?_ 7 _ rfl; (with_reducible repeat (first | refine blk_drewN ?_ _ | refine blk_drew ?_ | refine blk_alloc ?_ _)); refine blk_put (cs := #[.string t410, .string t411, .int .i64 t412, .int .i64 t413, .int .i64 t414, .int .i64 t415, .int .i64 0, .int .u8 0, .string (⟨#[]⟩ : ByteArray)]) ?_ 6 _ rfl; (with_reducible repeat (first | refine blk_drewN ?_ _ | refine blk_drew ?_ | refine blk_alloc ?_ _)); refine blk_put (cs := #[.string t410, .string t411, .int .i64 t412, .int .i64 t413, .int .i64 t414, .int .i64 0, .int .i64 0, .int .u8 0, .string (⟨#[]⟩ : ByteArray)]) ?_ 5 _ rfl; (with_reducible repeat (first | refine blk_drewN ?_ _ | refine blk_drew ?_ | refine blk_alloc ?_ _)); refine blk_put (cs := #[.string t410, .string t411, .int .i64 t412, .int .i64 t413, .int .i64 0, .int .i64 0, .int .i64 0, .int .u8 0, .string (⟨#[]⟩ : ByteArray)]) ?_ 4 _ rfl; (with_reducible repeat (first | refine blk_drewN ?_ _ | refine blk_drew ?_ | refine blk_alloc ?_ _)); refine blk_put (cs := #[.string t410, .string t411, .int .i64 t412, .int .i64 0, .int .i64 0, .int .i64 0, .int .i64 0, .int .u8 0, .string (⟨#[]⟩ : ByteArray)]) ?_ 3 _ rfl; (with_reducible repeat (first | refine blk_drewN ?_ _ | refine blk_drew ?_ | refine blk_alloc ?_ _)); refine blk_put (cs := #[.string t410, .string t411, .int .i64 0, .int .i64 0, .int .i64 0, .int .i64 0, .int .i64 0, .int .u8 0, .string (⟨#[]⟩ : ByteArray)]) ?_ 2 _ rfl; (with_reducible repeat (first | refine blk_drewN ?_ _ | refine blk_drew ?_ | refine blk_alloc ?_ _)); refine blk_put (cs := #[.string t410, .string (⟨#[]⟩ : ByteArray), .int .i64 0, .int .i64 0, .int .i64 0, .int .i64 0, .int .i64 0, .int .u8 0, .string (⟨#[]⟩ : ByteArray)]) ?_ 1 _ rfl; (with_reducible repeat (first | refine blk_drewN ?_ _ | refine blk_drew ?_ | refine blk_alloc ?_ _)); refine blk_put (cs := #[.string (⟨#[]⟩ : ByteArray), .string (⟨#[]⟩ : ByteArray), .int .i64 0, .int .i64 0, .int .i64 0, .int .i64 0, .int .i64 0, .int .u8 0, .string (⟨#[]⟩ : ByteArray)]) ?_ 0 _ rfl; (with_reducible repeat (first | refine blk_drewN ?_ _ | refine blk_drew ?_ | refine blk_alloc ?_ _)); exact BK420.out⟩
                 have n4_ : Aside0 (Below w.heap.size w (((((((((w56.setCell ⟨gb420, 0, none⟩ (.string t410)).setCell ⟨gb420, 1, none⟩ (.string t411)).setCell ⟨gb420, 2, none⟩ (.int .i64 t412)).setCell ⟨gb420, 3, none⟩ (.int .i64 t413)).setCell ⟨gb420, 4, none⟩ (.int .i64 t414)).setCell ⟨gb420, 5, none⟩ (.int .i64 t415)).setCell ⟨gb420, 6, none⟩ (.int .i64 t416)).setCell ⟨gb420, 7, none⟩ (.int .u8 t417)).setCell ⟨gb420, 8, none⟩ (.string t418))) := ⟨by repeat (first | (with_reducible first | exact HB.out | apply below_alloc | apply pw_below_drewN | apply below_drew1 | refine below_set ?_ GE371.out | refine below_set ?_ GE420.out) | exact HB.out)⟩
                 (try clear HO_3)
                 (try clear HO_5)
                 (try clear BK371)
                 (try clear BK420)
                 (try clear HB)
                 generalize (((((((((w56.setCell ⟨gb420, 0, none⟩ (.string t410)).setCell ⟨gb420, 1, none⟩ (.string t411)).setCell ⟨gb420, 2, none⟩ (.int .i64 t412)).setCell ⟨gb420, 3, none⟩ (.int .i64 t413)).setCell ⟨gb420, 4, none⟩ (.int .i64 t414)).setCell ⟨gb420, 5, none⟩ (.int .i64 t415)).setCell ⟨gb420, 6, none⟩ (.int .i64 t416)).setCell ⟨gb420, 7, none⟩ (.int .u8 t417)).setCell ⟨gb420, 8, none⟩ (.string t418)) = w60 at n0_ n1_ n2_ n3_ n4_ ⊢
                 have HO_3 := n0_
                 have HO_5 := n1_
                 have BK371 := n2_
                 have BK420 := n3_
                 have HB := n4_
                 clear n0_ n1_ n2_ n3_ n4_
                 have n0_ := Aside0.mk (Kd.R_drew HO_3.out)
                 have n1_ := Aside0.mk (Kd.R_drew HO_5.out)
                 have n2_ := Aside0.mk (blk_drew BK371.out)
                 have n3_ := Aside0.mk (blk_drew BK420.out)
                 have n4_ := Aside0.mk (below_drew1 HB.out)
                 clear HO_3
                 clear HO_5
                 clear BK371
                 clear BK420
                 clear HB
                 have HO_3 := n0_
                 have HO_5 := n1_
                 have BK371 := n2_
                 have BK420 := n3_
                 have HB := n4_
                 clear n0_ n1_ n2_ n3_ n4_
                 have q62 : ((ji39) : Int) ≤ ((t384.length : Int) : Int) := of_decide_eq_true (by first | (with_reducible assumption) | assumption)
                 obtain ⟨i062, hi062, _, hsz62, _⟩ := info_parts info5
                 have hroom62 : t384.length ≤ co52 := (Kd.R_reads' HO_3.out).2.1
                 have hC62 : Kd.C (Kd.int .u8) _ Ao52 t384.length t384 := (Kd.R_reads' HO_3.out).2.2
                 have q062 : (0 : Int) ≤ ((ji39) : Int) := of_decide_eq_true (by first | (with_reducible assumption) | assumption)
                 have hcut62 := cut_from (P := Tryz.prog) 31 5 .i64 Tryz.underlying31 hi062 1 hsz62 Ao52 t384.length co52 (ji39) q062 q62
                 have hr62 := Kd.C_drop (m := ((ji39) : Int).toNat) (c := co52) hC62 (by omega) hroom62
                 obtain ⟨A62, hA62⟩ : ∃ A1, A1 = (if co52 = ((ji39) : Int).toNat then Ao52 else (Ao52 : Option Addr).map (·.add (((ji39) : Int).toNat * 1))) := ⟨_, rfl⟩
                 obtain ⟨c62, hc62⟩ : ∃ c1, c1 = co52 - ((ji39) : Int).toNat := ⟨_, rfl⟩
                 have hy62 : y421.length = t384.length - ((ji39) : Int).toNat := (by rw [Ny421.out, List.length_drop] <;> omega)
                 rw [show (t384).drop ((ji39) : Int).toNat = y421 from Ny421.out.symm] at hr62
                 replace hr62 : Kd.C (Kd.int .u8) _ A62 y421.length y421 := (by rw [hA62]; exact hr62)
                 rw [← hy62, ← hA62, ← hc62] at hcut62
                 have HR424 := Aside0.mk hr62
                 have HC424 := Aside0.mk (show y421.length ≤ c62 from by rw [hy62, hc62]; exact Nat.sub_le_sub_right hroom62 _)
                 clear hr62 hC62 hroom62 hi062 hsz62 hc62
                 have KY62 := Aside0.mk hy62
                 have KA62 := Aside0.mk hA62
                 clear hy62 hA62
                 have KL62 := Aside0.mk (show ((ji39) : Int).toNat ≤ t384.length from by omega)
                 replace q62 := eq_true q62
                 have q63 : ((l0_7.length : Int) : Int) ≤ ((y421.length : Int) : Int) := of_decide_eq_true (by first | (with_reducible assumption) | assumption)
                 obtain ⟨i063, hi063, _, hsz63, _⟩ := info_parts info5
                 have hroom63 : y421.length ≤ c62 := HC424.out
                 have hC63 : Kd.C (Kd.int .u8) _ A62 y421.length y421 := (by repeat (first | (with_reducible exact HR424.out) | (with_reducible refine Kd.C_alloc ?_ _) | (with_reducible refine Kd.C_drewN ?_ _) | (with_reducible refine Kd.C_drew ?_) | exact HR424.out))
                 have hcut63 := cut_to (P := Tryz.prog) 31 5 .i64 Tryz.underlying31 hi063 A62 y421.length c62 (l0_7.length : Int) (of_decide_eq_true (by first | (with_reducible assumption) | assumption)) q63 hroom63
                 have hr63 := Kd.C_take (m := ((l0_7.length : Int) : Int).toNat) hC63 (by omega)
                 have hy63 : y425.length = ((l0_7.length : Int) : Int).toNat := (by rw [Ny425.out, List.length_take]; omega)
                 rw [← Ny425.out] at hr63
                 rw [← hy63] at hcut63
                 have HR428 := Aside0.mk hr63
                 have HC428 := Aside0.mk (show y425.length ≤ c62 from by omega)
                 clear hr63 hC63 hroom63 hi063 hsz63
                 have KY63 := Aside0.mk hy63
                 clear hy63
                 replace q63 := eq_true q63
                 refine start_ (n := 20) (S := fun w' => w'.cell? ⟨gb420, 0, none⟩ = some (.string t410) ∧ w'.cell? ⟨gb420, 1, none⟩ = some (.string t411) ∧ w'.cell? ⟨gb420, 2, none⟩ = some (.int .i64 t412) ∧ w'.cell? ⟨gb420, 3, none⟩ = some (.int .i64 t413) ∧ w'.cell? ⟨gb420, 4, none⟩ = some (.int .i64 t414) ∧ w'.cell? ⟨gb420, 5, none⟩ = some (.int .i64 t415) ∧ w'.cell? ⟨gb420, 6, none⟩ = some (.int .i64 t416) ∧ w'.cell? ⟨gb420, 7, none⟩ = some (.int .u8 t417) ∧ w'.cell? ⟨gb420, 8, none⟩ = some (.string t418) ∧ w'.cell? ⟨gb371, 0, none⟩ = some (.string a0_0) ∧ w'.cell? ⟨gb371, 1, none⟩ = some (.int .i64 a0_1) ∧ w'.cell? ⟨gb371, 2, none⟩ = some (.int .i64 a0_2) ∧ w'.cell? ⟨gb371, 3, none⟩ = some (.int .i64 a0_3) ∧ w'.cell? ⟨gb371, 4, none⟩ = some (.int .i64 a0_4) ∧ w'.cell? ⟨gb371, 5, none⟩ = some (.int .i64 a0_5) ∧ w'.cell? ⟨gb371, 6, none⟩ = some (.string a0_6) ∧ w'.cell? ⟨gb371, 7, none⟩ = some (.slice A0_7 l0_7.length c0_7)) (ds := []) #[false, false, false, false, false, false, false, false, false, false, false, false, false, false, false, false, false, false, false, false] (by kernel_rfl) rfl rfl ⟨(blk_cell BK420.out 0).trans rfl, (blk_cell BK420.out 1).trans rfl, (blk_cell BK420.out 2).trans rfl, (blk_cell BK420.out 3).trans rfl, (blk_cell BK420.out 4).trans rfl, (blk_cell BK420.out 5).trans rfl, (blk_cell BK420.out 6).trans rfl, (blk_cell BK420.out 7).trans rfl, (blk_cell BK420.out 8).trans rfl, (blk_cell BK371.out 0).trans rfl, (blk_cell BK371.out 1).trans rfl, (blk_cell BK371.out 2).trans rfl, (blk_cell BK371.out 3).trans rfl, (blk_cell BK371.out 4).trans rfl, (blk_cell BK371.out 5).trans rfl, (blk_cell BK371.out 6).trans rfl, (blk_cell BK371.out 7).trans rfl⟩ (fun hHeld => ?_); refine with_tabW thwartlaw08_MembWhole.tab11 thwartlaw08_MembWhole.bits11 (fun HT_ HW_ => ?_)
                 generalize w60.drew = w61 at HO_3 HO_5 BK371 BK420 HB HR424 HR428 hHeld ⊢
                 refine pureS_ 1 71 ?_
                 refine pureS_ 2 72 ?_
                 refine pureS_ 3 73 ?_
                 refine pureS_ 4 74 ?_
                 refine pureS_ 5 75 ?_
                 refine pureS_ 6 76 ?_
                 refine pureS_ 7 77 ?_
                 refine pureS_ 8 78 ?_
                 refine pureS_ 9 79 ?_
                 refine takeS_ 0 70 ?_
                 refine takeS_ 10 80 ?_
                 refine pureS_ 11 81 ?_
                 refine pureS_ 12 82 ?_
                 refine join_ (σ := Value × Nat) 2 #[true, true, true, true, true, true, true, true, true, true, true, true, true, true, true, true, true, true, false, false] (fun s_ => [(83, .tuple #[.agg #[.string t429, .int .i64 t430, .int .i64 t431, .int .i64 t432, .int .i64 t433, .int .i64 t434, .string t435, s_.1], .int .i64 t439]), (9, .pointer (some ⟨s_.2, 0, none⟩)), (69, .tuple #[.agg #[.string t429, .int .i64 t430, .int .i64 t431, .int .i64 t432, .int .i64 t433, .int .i64 t434, .string t435, s_.1], .int .i64 t439]), (84, .agg #[.string t429, .int .i64 t430, .int .i64 t431, .int .i64 t432, .int .i64 t433, .int .i64 t434, .string t435, s_.1]), (85, .int .i64 t439)]) (fun s_ w' => (w'.cell? ⟨gb420, 0, none⟩ = some (.string t410) ∧ w'.cell? ⟨gb420, 1, none⟩ = some (.string t411) ∧ w'.cell? ⟨gb420, 2, none⟩ = some (.int .i64 t412) ∧ w'.cell? ⟨gb420, 3, none⟩ = some (.int .i64 t413) ∧ w'.cell? ⟨gb420, 4, none⟩ = some (.int .i64 t414) ∧ w'.cell? ⟨gb420, 5, none⟩ = some (.int .i64 t415) ∧ w'.cell? ⟨gb420, 6, none⟩ = some (.int .i64 t416) ∧ w'.cell? ⟨gb420, 7, none⟩ = some (.int .u8 t417) ∧ w'.cell? ⟨gb420, 8, none⟩ = some (.string t418) ∧ w'.cell? ⟨gb371, 0, none⟩ = some (.string a0_0) ∧ w'.cell? ⟨gb371, 1, none⟩ = some (.int .i64 a0_1) ∧ w'.cell? ⟨gb371, 2, none⟩ = some (.int .i64 a0_2) ∧ w'.cell? ⟨gb371, 3, none⟩ = some (.int .i64 a0_3) ∧ w'.cell? ⟨gb371, 4, none⟩ = some (.int .i64 a0_4) ∧ w'.cell? ⟨gb371, 5, none⟩ = some (.int .i64 a0_5) ∧ w'.cell? ⟨gb371, 6, none⟩ = some (.string a0_6) ∧ w'.cell? ⟨gb371, 7, none⟩ = some (.slice A0_7 l0_7.length c0_7)) ∧ (Kd.R (Kd.int .u8) 5 w' w.heap.size (fun k_ => some k_ ≠ (.slice Ao52 t384.length co52 : Value).ownBlock) s_.1 t436) ∧ (Kd.R (Kd.int .u8) 5 w' w.heap.size (fun k_ => some k_ ≠ (s_.1 : Value).ownBlock) (.slice Ao52 t384.length co52) t384) ∧ (Kd.R k35 35 w' w.heap.size (fun _ => True) (.slice Ao59 t399.length co59) t399) ∧ (w'.heap[gb371]? = some (.cells #[.string a0_0, .int .i64 a0_1, .int .i64 a0_2, .int .i64 a0_3, .int .i64 a0_4, .int .i64 a0_5, .string a0_6, .slice A0_7 l0_7.length c0_7] 45 (0, 0))) ∧ (w'.heap[gb420]? = some (.cells #[.string t410, .string t411, .int .i64 t412, .int .i64 t413, .int .i64 t414, .int .i64 t415, .int .i64 t416, .int .u8 t417, .string t418] 43 (0, 0))) ∧ (w'.heap[s_.2]? = some (.cells #[.string (⟨#[]⟩ : ByteArray), .int .i64 0, .int .i64 0, .int .i64 0, .int .i64 0, .int .i64 0, .string (⟨#[]⟩ : ByteArray), .slice none 0 0] 38 (0, 0))) ∧ (w.heap.size ≤ s_.2) ∧ (w.heap.size ≤ s_.2) ∧ (gb371 ≠ s_.2) ∧ (s_.2 ≠ gb371) ∧ (gb420 ≠ s_.2) ∧ (s_.2 ≠ gb420) ∧ (Below w.heap.size w w')) ?_ ?_
                 rotate_left
                 ·intro hCont
                  refine two_ (i := 13) (j := 17) (Ni := some 83) (Nj := some 9) #[true, true, true, true, true, true, true, true, true, true, true, true, true, true, false, false, false, false, false, false] #[true, true, true, true, true, true, true, true, true, true, true, true, true, false, false, false, false, true, false, false] rfl rfl rfl rfl (two_of HT_.out (by kernel_rfl)) (by decide) (by decide) (fun K hK => ?_) (fun K hK => ?_)
                  ·skip
                   refine goes_ Tryz.func11 (by kernel_rfl) rfl #[.agg #[.string t410, .string t411, .int .i64 t412, .int .i64 t413, .int .i64 t414, .int .i64 t415, .int .i64 t416, .int .u8 t417, .string t418], .slice Ao59 t399.length co59, .slice A62 y425.length c62] (by rfl) rfl rfl (by (try simp only [List.map_toArray, List.map_cons, List.map_nil]); first | done | rfl | (simp only [List.length_drop, List.length_take]; rfl)) ?_
                   with_reducible refine (memb_From.calls kj13 t410 t411 t412 t413 t414 t415 t416 t417 t418 _ _ t399 _ _ y425 t429 t430 t431 t432 t433 t434 t435 t436 t439 _ ?side1 ?side2 ?side3 ?side4 A44.out).mono ?_
                   (case side1 => repeat (first | exact (Kd.R_reads' HO_5.out).2.2 | (with_reducible refine Kd.C_alloc ?_ _) | (with_reducible refine Kd.C_drewN ?_ _) | (with_reducible refine Kd.C_drew ?_)))
                   (case side2 => exact (Kd.R_reads' HO_5.out).2.1)
                   (case side3 => repeat (first | exact (by repeat (first | (with_reducible exact HR428.out) | (with_reducible refine Kd.C_alloc ?_ _) | (with_reducible refine Kd.C_drewN ?_ _) | (with_reducible refine Kd.C_drew ?_) | exact HR428.out)) | (with_reducible refine Kd.C_alloc ?_ _) | (with_reducible refine Kd.C_drewN ?_ _) | (with_reducible refine Kd.C_drew ?_)))
                   (case side4 => exact HC428.out)
                   rintro e w64 ⟨v437, rfl, ho0, hb⟩
                   refine ⟨_, rfl, ?_⟩
                   have n0_ := Aside0.mk (Kd.R_elder' (by (with_reducible repeat (first | apply Kd.R_alloc | apply Kd.R_drewN | apply Kd.R_drew)); exact HO_3.out) (Kd.R_base ho0) hb)
                   have n1_ := Aside0.mk (Kd.R_below (by (with_reducible repeat (first | apply Kd.R_alloc | apply Kd.R_drewN | apply Kd.R_drew)); exact HO_5.out) hb)
                   have n2_ := Aside0.mk (Kd.R_lower (Kd.R_new' ho0 (Kd.R_lt (by (with_reducible repeat (first | apply Kd.R_alloc | apply Kd.R_drewN | apply Kd.R_drew)); exact HO_3.out))) bsize_)
                   have n3_ := Aside0.mk (blkB_ BK371.out hb)
                   have n4_ := Aside0.mk (blkB_ BK420.out hb)
                   have n5_ := Aside0.mk (Kd.C_below (by repeat (first | (with_reducible exact HR424.out) | (with_reducible refine Kd.C_alloc ?_ _) | (with_reducible refine Kd.C_drewN ?_ _) | (with_reducible refine Kd.C_drew ?_) | exact HR424.out)) hb)
                   have n6_ := Aside0.mk (Kd.C_below (by repeat (first | (with_reducible exact HR428.out) | (with_reducible refine Kd.C_alloc ?_ _) | (with_reducible refine Kd.C_drewN ?_ _) | (with_reducible refine Kd.C_drew ?_) | exact HR428.out)) hb)
                   have n7_ := Aside0.mk (bstep_ hb)
                   clear HO_3
                   clear HO_5
                   clear BK371
                   clear BK420
                   clear HR424
                   clear HR428
                   clear HB
                   have HO_3 := n0_
                   have HO_5 := n1_
                   have HO438 := n2_
                   have BK371 := n3_
                   have BK420 := n4_
                   have HR424 := n5_
                   have HR428 := n6_
                   have HB := n7_
                   clear n0_ n1_ n2_ n3_ n4_ n5_ n6_ n7_
                   (try clear hb)
                   (try clear hb2)
                   (try clear hk)
                   (try clear hi)
                   (try clear ho0)
                   refine hK.out _ _ ⟨(blk_cell BK420.out 0).trans rfl, (blk_cell BK420.out 1).trans rfl, (blk_cell BK420.out 2).trans rfl, (blk_cell BK420.out 3).trans rfl, (blk_cell BK420.out 4).trans rfl, (blk_cell BK420.out 5).trans rfl, (blk_cell BK420.out 6).trans rfl, (blk_cell BK420.out 7).trans rfl, (blk_cell BK420.out 8).trans rfl, (blk_cell BK371.out 0).trans rfl, (blk_cell BK371.out 1).trans rfl, (blk_cell BK371.out 2).trans rfl, (blk_cell BK371.out 3).trans rfl, (blk_cell BK371.out 4).trans rfl, (blk_cell BK371.out 5).trans rfl, (blk_cell BK371.out 6).trans rfl, (blk_cell BK371.out 7).trans rfl⟩ (fun hHeld => ?_)
                   clear hK K
                   refine normS_ 83 ?_
                   refine pureS_ 14 69 ?_
                   refine pureS_ 15 84 ?_
                   refine pureS_ 16 85 ?_
                   refine one_ (i := 17) (N := some 9) #[true, true, true, true, true, true, true, true, true, true, true, true, true, true, true, true, true, true, false, false] rfl rfl (one_of HT_.out (by kernel_rfl)) (by decide) (fun K hK => ?_)
                   refine box_step ?hg (N := 9) ?hd (cs := #[.string (⟨#[]⟩ : ByteArray), .int .i64 0, .int .i64 0, .int .i64 0, .int .i64 0, .int .i64 0, .string (⟨#[]⟩ : ByteArray), .slice none 0 0]) (t := 38) ?hr ?_; (case hd => rfl); (case hg => rfl); (case hr => first | (go_simp; done) | (go_simp; rfl))
                   intro gb440 hg w65 hbox hb
                   have n0_ := Aside0.mk (Kd.R_below (by (with_reducible repeat (first | apply Kd.R_alloc | apply Kd.R_drewN | apply Kd.R_drew)); exact HO_3.out) hb)
                   have n1_ := Aside0.mk (Kd.R_below (by (with_reducible repeat (first | apply Kd.R_alloc | apply Kd.R_drewN | apply Kd.R_drew)); exact HO_5.out) hb)
                   have n2_ := Aside0.mk (Kd.R_below (by (with_reducible repeat (first | apply Kd.R_alloc | apply Kd.R_drewN | apply Kd.R_drew)); exact HO438.out) hb)
                   have n3_ := Aside0.mk (blkB_ BK371.out hb)
                   have n4_ := Aside0.mk (blkB_ BK420.out hb)
                   have n5_ := Aside0.mk (Kd.C_below (by repeat (first | (with_reducible exact HR424.out) | (with_reducible refine Kd.C_alloc ?_ _) | (with_reducible refine Kd.C_drewN ?_ _) | (with_reducible refine Kd.C_drew ?_) | exact HR424.out)) hb)
                   have n6_ := Aside0.mk (Kd.C_below (by repeat (first | (with_reducible exact HR428.out) | (with_reducible refine Kd.C_alloc ?_ _) | (with_reducible refine Kd.C_drewN ?_ _) | (with_reducible refine Kd.C_drew ?_) | exact HR428.out)) hb)
                   have n7_ := Aside0.mk (bstep_ hb)
                   have n8_ := Aside0.mk (hbox)
                   have n9_ := Aside0.mk ((by rw [hg]; exact bsize_ : w.heap.size ≤ gb440))
                   have n10_ := Aside0.mk ((by rw [hg]; exact bsize_ : w.heap.size ≤ gb440))
                   have n11_ := Aside0.mk ((by rw [hg]; exact Nat.ne_of_lt (blkL_ BK371.out) : gb371 ≠ gb440))
                   have n12_ := Aside0.mk ((by rw [hg]; exact Nat.ne_of_gt (blkL_ BK371.out) : gb440 ≠ gb371))
                   have n13_ := Aside0.mk ((by rw [hg]; exact Nat.ne_of_lt (blkL_ BK420.out) : gb420 ≠ gb440))
                   have n14_ := Aside0.mk ((by rw [hg]; exact Nat.ne_of_gt (blkL_ BK420.out) : gb440 ≠ gb420))
                   clear HO_3
                   clear HO_5
                   clear HO438
                   clear BK371
                   clear BK420
                   clear HR424
                   clear HR428
                   clear HB
                   have HO_3 := n0_
                   have HO_5 := n1_
                   have HO438 := n2_
                   have BK371 := n3_
                   have BK420 := n4_
                   have HR424 := n5_
                   have HR428 := n6_
                   have HB := n7_
                   have BK440 := n8_
                   have GW440 := n9_
                   have GE440 := n10_
                   have NB371_440 := n11_
                   have NB440_371 := n12_
                   have NB420_440 := n13_
                   have NB440_420 := n14_
                   clear n0_ n1_ n2_ n3_ n4_ n5_ n6_ n7_ n8_ n9_ n10_ n11_ n12_ n13_ n14_
                   clear hb hbox hg
                   refine hK.out _ _ ⟨(blk_cell BK420.out 0).trans rfl, (blk_cell BK420.out 1).trans rfl, (blk_cell BK420.out 2).trans rfl, (blk_cell BK420.out 3).trans rfl, (blk_cell BK420.out 4).trans rfl, (blk_cell BK420.out 5).trans rfl, (blk_cell BK420.out 6).trans rfl, (blk_cell BK420.out 7).trans rfl, (blk_cell BK420.out 8).trans rfl, (blk_cell BK371.out 0).trans rfl, (blk_cell BK371.out 1).trans rfl, (blk_cell BK371.out 2).trans rfl, (blk_cell BK371.out 3).trans rfl, (blk_cell BK371.out 4).trans rfl, (blk_cell BK371.out 5).trans rfl, (blk_cell BK371.out 6).trans rfl, (blk_cell BK371.out 7).trans rfl⟩ (fun hHeld => ?_)
                   clear hK K
                   refine normS_ 9 ?_
                   exact norm_ (by simp only [putAll, Act.put, List.setIfInBounds_toArray, List.set_cons_zero, List.set_cons_succ]) (hCont (v437, gb440) _ ⟨hHeld, (by (with_reducible repeat (first | apply Kd.R_alloc | apply Kd.R_drewN | apply Kd.R_drew)); exact Kd.R_mono HO438.out (fun _ hk => hk.2)), (by (with_reducible repeat (first | apply Kd.R_alloc | apply Kd.R_drewN | apply Kd.R_drew)); exact Kd.R_mono HO_3.out (fun _ hk => hk.2)), (by (with_reducible repeat (first | apply Kd.R_alloc | apply Kd.R_drewN | apply Kd.R_drew)); exact HO_5.out), (by (with_reducible repeat (first | refine blk_drewN ?_ _ | refine blk_drew ?_ | refine blk_alloc ?_ _)); exact BK371.out), (by (with_reducible repeat (first | refine blk_drewN ?_ _ | refine blk_drew ?_ | refine blk_alloc ?_ _)); exact BK420.out), (by (with_reducible repeat (first | refine blk_drewN ?_ _ | refine blk_drew ?_ | refine blk_alloc ?_ _)); exact BK440.out), GW440.out, GE440.out, NB371_440.out, NB440_371.out, NB420_440.out, NB440_420.out, belA_⟩)
                  ·skip
                   refine box_step ?hg (N := 9) ?hd (cs := #[.string (⟨#[]⟩ : ByteArray), .int .i64 0, .int .i64 0, .int .i64 0, .int .i64 0, .int .i64 0, .string (⟨#[]⟩ : ByteArray), .slice none 0 0]) (t := 38) ?hr ?_; (case hd => rfl); (case hg => rfl); (case hr => first | (go_simp; done) | (go_simp; rfl))
                   intro gb440 hg w64 hbox hb
                   have n0_ := Aside0.mk (Kd.R_below (by (with_reducible repeat (first | apply Kd.R_alloc | apply Kd.R_drewN | apply Kd.R_drew)); exact HO_3.out) hb)
                   have n1_ := Aside0.mk (Kd.R_below (by (with_reducible repeat (first | apply Kd.R_alloc | apply Kd.R_drewN | apply Kd.R_drew)); exact HO_5.out) hb)
                   have n2_ := Aside0.mk (blkB_ BK371.out hb)
                   have n3_ := Aside0.mk (blkB_ BK420.out hb)
                   have n4_ := Aside0.mk (Kd.C_below (by repeat (first | (with_reducible exact HR424.out) | (with_reducible refine Kd.C_alloc ?_ _) | (with_reducible refine Kd.C_drewN ?_ _) | (with_reducible refine Kd.C_drew ?_) | exact HR424.out)) hb)
                   have n5_ := Aside0.mk (Kd.C_below (by repeat (first | (with_reducible exact HR428.out) | (with_reducible refine Kd.C_alloc ?_ _) | (with_reducible refine Kd.C_drewN ?_ _) | (with_reducible refine Kd.C_drew ?_) | exact HR428.out)) hb)
                   have n6_ := Aside0.mk (bstep_ hb)
                   have n7_ := Aside0.mk (hbox)
                   have n8_ := Aside0.mk ((by rw [hg]; exact bsize_ : w.heap.size ≤ gb440))
                   have n9_ := Aside0.mk ((by rw [hg]; exact bsize_ : w.heap.size ≤ gb440))
                   have n10_ := Aside0.mk ((by rw [hg]; exact Nat.ne_of_lt (blkL_ BK371.out) : gb371 ≠ gb440))
                   have n11_ := Aside0.mk ((by rw [hg]; exact Nat.ne_of_gt (blkL_ BK371.out) : gb440 ≠ gb371))
                   have n12_ := Aside0.mk ((by rw [hg]; exact Nat.ne_of_lt (blkL_ BK420.out) : gb420 ≠ gb440))
                   have n13_ := Aside0.mk ((by rw [hg]; exact Nat.ne_of_gt (blkL_ BK420.out) : gb440 ≠ gb420))
                   clear HO_3
                   clear HO_5
                   clear BK371
                   clear BK420
                   clear HR424
                   clear HR428
                   clear HB
                   have HO_3 := n0_
                   have HO_5 := n1_
                   have BK371 := n2_
                   have BK420 := n3_
                   have HR424 := n4_
                   have HR428 := n5_
                   have HB := n6_
                   have BK440 := n7_
                   have GW440 := n8_
                   have GE440 := n9_
                   have NB371_440 := n10_
                   have NB440_371 := n11_
                   have NB420_440 := n12_
                   have NB440_420 := n13_
                   clear n0_ n1_ n2_ n3_ n4_ n5_ n6_ n7_ n8_ n9_ n10_ n11_ n12_ n13_
                   clear hb hbox hg
                   refine hK.out _ _ ⟨(blk_cell BK420.out 0).trans rfl, (blk_cell BK420.out 1).trans rfl, (blk_cell BK420.out 2).trans rfl, (blk_cell BK420.out 3).trans rfl, (blk_cell BK420.out 4).trans rfl, (blk_cell BK420.out 5).trans rfl, (blk_cell BK420.out 6).trans rfl, (blk_cell BK420.out 7).trans rfl, (blk_cell BK420.out 8).trans rfl, (blk_cell BK371.out 0).trans rfl, (blk_cell BK371.out 1).trans rfl, (blk_cell BK371.out 2).trans rfl, (blk_cell BK371.out 3).trans rfl, (blk_cell BK371.out 4).trans rfl, (blk_cell BK371.out 5).trans rfl, (blk_cell BK371.out 6).trans rfl, (blk_cell BK371.out 7).trans rfl⟩ (fun hHeld => ?_)
                   clear hK K
                   refine normS_ 9 ?_
                   refine one_ (i := 13) (N := some 83) #[true, true, true, true, true, true, true, true, true, true, true, true, true, true, false, false, false, true, false, false] rfl rfl (one_of HT_.out (by kernel_rfl)) (by decide) (fun K hK => ?_)
                   refine goes_ Tryz.func11 (by kernel_rfl) rfl #[.agg #[.string t410, .string t411, .int .i64 t412, .int .i64 t413, .int .i64 t414, .int .i64 t415, .int .i64 t416, .int .u8 t417, .string t418], .slice Ao59 t399.length co59, .slice A62 y425.length c62] (by rfl) rfl rfl (by (try simp only [List.map_toArray, List.map_cons, List.map_nil]); first | done | rfl | (simp only [List.length_drop, List.length_take]; rfl)) ?_
                   with_reducible refine (memb_From.calls kj13 t410 t411 t412 t413 t414 t415 t416 t417 t418 _ _ t399 _ _ y425 t429 t430 t431 t432 t433 t434 t435 t436 t439 _ ?side1 ?side2 ?side3 ?side4 A44.out).mono ?_
                   (case side1 => repeat (first | exact (Kd.R_reads' HO_5.out).2.2 | (with_reducible refine Kd.C_alloc ?_ _) | (with_reducible refine Kd.C_drewN ?_ _) | (with_reducible refine Kd.C_drew ?_)))
                   (case side2 => exact (Kd.R_reads' HO_5.out).2.1)
                   (case side3 => repeat (first | exact (by repeat (first | (with_reducible exact HR428.out) | (with_reducible refine Kd.C_alloc ?_ _) | (with_reducible refine Kd.C_drewN ?_ _) | (with_reducible refine Kd.C_drew ?_) | exact HR428.out)) | (with_reducible refine Kd.C_alloc ?_ _) | (with_reducible refine Kd.C_drewN ?_ _) | (with_reducible refine Kd.C_drew ?_)))
                   (case side4 => exact HC428.out)
                   rintro e w65 ⟨v437, rfl, ho0, hb⟩
                   refine ⟨_, rfl, ?_⟩
                   have n0_ := Aside0.mk (Kd.R_elder' (by (with_reducible repeat (first | apply Kd.R_alloc | apply Kd.R_drewN | apply Kd.R_drew)); exact HO_3.out) (Kd.R_base ho0) hb)
                   have n1_ := Aside0.mk (Kd.R_below (by (with_reducible repeat (first | apply Kd.R_alloc | apply Kd.R_drewN | apply Kd.R_drew)); exact HO_5.out) hb)
                   have n2_ := Aside0.mk (Kd.R_lower (Kd.R_new' ho0 (Kd.R_lt (by (with_reducible repeat (first | apply Kd.R_alloc | apply Kd.R_drewN | apply Kd.R_drew)); exact HO_3.out))) bsize_)
                   have n3_ := Aside0.mk (blkB_ BK371.out hb)
                   have n4_ := Aside0.mk (blkB_ BK420.out hb)
                   have n5_ := Aside0.mk (Kd.C_below (by repeat (first | (with_reducible exact HR424.out) | (with_reducible refine Kd.C_alloc ?_ _) | (with_reducible refine Kd.C_drewN ?_ _) | (with_reducible refine Kd.C_drew ?_) | exact HR424.out)) hb)
                   have n6_ := Aside0.mk (Kd.C_below (by repeat (first | (with_reducible exact HR428.out) | (with_reducible refine Kd.C_alloc ?_ _) | (with_reducible refine Kd.C_drewN ?_ _) | (with_reducible refine Kd.C_drew ?_) | exact HR428.out)) hb)
                   have n7_ := Aside0.mk (blkB_ BK440.out hb)
                   have n8_ := Aside0.mk (bstep_ hb)
                   clear HO_3
                   clear HO_5
                   clear BK371
                   clear BK420
                   clear HR424
                   clear HR428
                   clear BK440
                   clear HB
                   have HO_3 := n0_
                   have HO_5 := n1_
                   have HO438 := n2_
                   have BK371 := n3_
                   have BK420 := n4_
                   have HR424 := n5_
                   have HR428 := n6_
                   have BK440 := n7_
                   have HB := n8_
                   clear n0_ n1_ n2_ n3_ n4_ n5_ n6_ n7_ n8_
                   (try clear hb)
                   (try clear hb2)
                   (try clear hk)
                   (try clear hi)
                   (try clear ho0)
                   refine hK.out _ _ ⟨(blk_cell BK420.out 0).trans rfl, (blk_cell BK420.out 1).trans rfl, (blk_cell BK420.out 2).trans rfl, (blk_cell BK420.out 3).trans rfl, (blk_cell BK420.out 4).trans rfl, (blk_cell BK420.out 5).trans rfl, (blk_cell BK420.out 6).trans rfl, (blk_cell BK420.out 7).trans rfl, (blk_cell BK420.out 8).trans rfl, (blk_cell BK371.out 0).trans rfl, (blk_cell BK371.out 1).trans rfl, (blk_cell BK371.out 2).trans rfl, (blk_cell BK371.out 3).trans rfl, (blk_cell BK371.out 4).trans rfl, (blk_cell BK371.out 5).trans rfl, (blk_cell BK371.out 6).trans rfl, (blk_cell BK371.out 7).trans rfl⟩ (fun hHeld => ?_)
                   clear hK K
                   refine normS_ 83 ?_
                   refine pureS_ 14 69 ?_
                   refine pureS_ 15 84 ?_
                   refine pureS_ 16 85 ?_
                   exact norm_ (by simp only [putAll, Act.put, List.setIfInBounds_toArray, List.set_cons_zero, List.set_cons_succ]) (hCont (v437, gb440) _ ⟨hHeld, (by (with_reducible repeat (first | apply Kd.R_alloc | apply Kd.R_drewN | apply Kd.R_drew)); exact Kd.R_mono HO438.out (fun _ hk => hk.2)), (by (with_reducible repeat (first | apply Kd.R_alloc | apply Kd.R_drewN | apply Kd.R_drew)); exact Kd.R_mono HO_3.out (fun _ hk => hk.2)), (by (with_reducible repeat (first | apply Kd.R_alloc | apply Kd.R_drewN | apply Kd.R_drew)); exact HO_5.out), (by (with_reducible repeat (first | refine blk_drewN ?_ _ | refine blk_drew ?_ | refine blk_alloc ?_ _)); exact BK371.out), (by (with_reducible repeat (first | refine blk_drewN ?_ _ | refine blk_drew ?_ | refine blk_alloc ?_ _)); exact BK420.out), (by (with_reducible repeat (first | refine blk_drewN ?_ _ | refine blk_drew ?_ | refine blk_alloc ?_ _)); exact BK440.out), GW440.out, GE440.out, NB371_440.out, NB440_371.out, NB420_440.out, NB440_420.out, belA_⟩)
                 rintro ⟨v437, gb440⟩ w66 ⟨hS_, h0_, h1_, h2_, h3_, h4_, h5_, h6_, h7_, h8_, h9_, h10_, h11_, h12_⟩
                 have n0_ : Aside0 (Kd.R (Kd.int .u8) 5 w66 w.heap.size (fun k_ => some k_ ≠ (.slice Ao52 t384.length co52 : Value).ownBlock) v437 t436) := ⟨h0_⟩
                 have n1_ : Aside0 (Kd.R (Kd.int .u8) 5 w66 w.heap.size (fun k_ => some k_ ≠ (v437 : Value).ownBlock) (.slice Ao52 t384.length co52) t384) := ⟨h1_⟩
                 have n2_ : Aside0 (Kd.R k35 35 w66 w.heap.size (fun _ => True) (.slice Ao59 t399.length co59) t399) := ⟨h2_⟩
                 have n3_ : Aside0 (w66.heap[gb371]? = some (.cells #[.string a0_0, .int .i64 a0_1, .int .i64 a0_2, .int .i64 a0_3, .int .i64 a0_4, .int .i64 a0_5, .string a0_6, .slice A0_7 l0_7.length c0_7] 45 (0, 0))) := ⟨h3_⟩
                 have n4_ : Aside0 (w66.heap[gb420]? = some (.cells #[.string t410, .string t411, .int .i64 t412, .int .i64 t413, .int .i64 t414, .int .i64 t415, .int .i64 t416, .int .u8 t417, .string t418] 43 (0, 0))) := ⟨h4_⟩
                 have n5_ : Aside0 (w66.heap[gb440]? = some (.cells #[.string (⟨#[]⟩ : ByteArray), .int .i64 0, .int .i64 0, .int .i64 0, .int .i64 0, .int .i64 0, .string (⟨#[]⟩ : ByteArray), .slice none 0 0] 38 (0, 0))) := ⟨h5_⟩
                 have n6_ : Aside0 (w.heap.size ≤ gb440) := ⟨h6_⟩
                 have n7_ : Aside0 (w.heap.size ≤ gb440) := ⟨h7_⟩
                 have n8_ : Aside0 (gb371 ≠ gb440) := ⟨h8_⟩
                 have n9_ : Aside0 (gb440 ≠ gb371) := ⟨h9_⟩
                 have n10_ : Aside0 (gb420 ≠ gb440) := ⟨h10_⟩
                 have n11_ : Aside0 (gb440 ≠ gb420) := ⟨h11_⟩
                 have n12_ : Aside0 (Below w.heap.size w w66) := ⟨h12_⟩
                 clear HO_3
                 clear HO_5
                 clear BK371
                 clear BK420
                 clear HB
                 clear h0_ h1_ h2_ h3_ h4_ h5_ h6_ h7_ h8_ h9_ h10_ h11_ h12_
                 have HO438 := n0_
                 have HO_3 := n1_
                 have HO_5 := n2_
                 have BK371 := n3_
                 have BK420 := n4_
                 have BK440 := n5_
                 have GW440 := n6_
                 have GE440 := n7_
                 have NB371_440 := n8_
                 have NB440_371 := n9_
                 have NB420_440 := n10_
                 have NB440_420 := n11_
                 have HB := n12_
                 clear n0_ n1_ n2_ n3_ n4_ n5_ n6_ n7_ n8_ n9_ n10_ n11_ n12_
                 have hHeld : w66.cell? ⟨gb420, 0, none⟩ = some (.string t410) ∧ w66.cell? ⟨gb420, 1, none⟩ = some (.string t411) ∧ w66.cell? ⟨gb420, 2, none⟩ = some (.int .i64 t412) ∧ w66.cell? ⟨gb420, 3, none⟩ = some (.int .i64 t413) ∧ w66.cell? ⟨gb420, 4, none⟩ = some (.int .i64 t414) ∧ w66.cell? ⟨gb420, 5, none⟩ = some (.int .i64 t415) ∧ w66.cell? ⟨gb420, 6, none⟩ = some (.int .i64 t416) ∧ w66.cell? ⟨gb420, 7, none⟩ = some (.int .u8 t417) ∧ w66.cell? ⟨gb420, 8, none⟩ = some (.string t418) ∧ w66.cell? ⟨gb371, 0, none⟩ = some (.string a0_0) ∧ w66.cell? ⟨gb371, 1, none⟩ = some (.int .i64 a0_1) ∧ w66.cell? ⟨gb371, 2, none⟩ = some (.int .i64 a0_2) ∧ w66.cell? ⟨gb371, 3, none⟩ = some (.int .i64 a0_3) ∧ w66.cell? ⟨gb371, 4, none⟩ = some (.int .i64 a0_4) ∧ w66.cell? ⟨gb371, 5, none⟩ = some (.int .i64 a0_5) ∧ w66.cell? ⟨gb371, 6, none⟩ = some (.string a0_6) ∧ w66.cell? ⟨gb371, 7, none⟩ = some (.slice A0_7 l0_7.length c0_7) := hS_
                 obtain ⟨Ao74, co74, eo74⟩ := Kd.R_slice HO438.out
                 (first | subst eo74 | (injection eo74 with f1_ f2_ f3_; have f4_ := f1_.symm; have f5_ := f3_.symm; clear f1_ f2_ f3_; subst f4_; subst f5_))
                 refine norm_ (a' := ?_) ?_ ?_
                 rotate_left
                 ·simp only [putAll, Act.put, List.setIfInBounds_toArray, List.set_cons_zero, List.set_cons_succ]
                  rfl
                 refine one_ (i := 18) (N := none) #[true, true, true, true, true, true, true, true, true, true, true, true, true, true, true, true, true, true, true, false] rfl rfl (one_of HT_.out (by kernel_rfl)) (by decide) (fun K hK => ?_)
                 have hs67 : w66.cell? ⟨gb440, 0, none⟩ = some (.string (⟨#[]⟩ : ByteArray)) := (blk_cell BK440.out 0).trans rfl
                 have hfs67 := blk_frozen BK440.out 0
                 have hns67_0 := NB371_440.out
                 have hns67_1 := NB420_440.out
                 have hms67_0 := NB440_371.out
                 have hms67_1 := NB440_420.out
                 have hs68 : w66.cell? ⟨gb440, 1, none⟩ = some (.int .i64 0) := (blk_cell BK440.out 1).trans rfl
                 have hfs68 := blk_frozen BK440.out 1
                 have hns68_0 := NB371_440.out
                 have hns68_1 := NB420_440.out
                 have hms68_0 := NB440_371.out
                 have hms68_1 := NB440_420.out
                 have hs69 : w66.cell? ⟨gb440, 2, none⟩ = some (.int .i64 0) := (blk_cell BK440.out 2).trans rfl
                 have hfs69 := blk_frozen BK440.out 2
                 have hns69_0 := NB371_440.out
                 have hns69_1 := NB420_440.out
                 have hms69_0 := NB440_371.out
                 have hms69_1 := NB440_420.out
                 have hs70 : w66.cell? ⟨gb440, 3, none⟩ = some (.int .i64 0) := (blk_cell BK440.out 3).trans rfl
                 have hfs70 := blk_frozen BK440.out 3
                 have hns70_0 := NB371_440.out
                 have hns70_1 := NB420_440.out
                 have hms70_0 := NB440_371.out
                 have hms70_1 := NB440_420.out
                 have hs71 : w66.cell? ⟨gb440, 4, none⟩ = some (.int .i64 0) := (blk_cell BK440.out 4).trans rfl
                 have hfs71 := blk_frozen BK440.out 4
                 have hns71_0 := NB371_440.out
                 have hns71_1 := NB420_440.out
                 have hms71_0 := NB440_371.out
                 have hms71_1 := NB440_420.out
                 have hs72 : w66.cell? ⟨gb440, 5, none⟩ = some (.int .i64 0) := (blk_cell BK440.out 5).trans rfl
                 have hfs72 := blk_frozen BK440.out 5
                 have hns72_0 := NB371_440.out
                 have hns72_1 := NB420_440.out
                 have hms72_0 := NB440_371.out
                 have hms72_1 := NB440_420.out
                 have hs73 : w66.cell? ⟨gb440, 6, none⟩ = some (.string (⟨#[]⟩ : ByteArray)) := (blk_cell BK440.out 6).trans rfl
                 have hfs73 := blk_frozen BK440.out 6
                 have hns73_0 := NB371_440.out
                 have hns73_1 := NB420_440.out
                 have hms73_0 := NB440_371.out
                 have hms73_1 := NB440_420.out
                 have hs75 : w66.cell? ⟨gb440, 7, none⟩ = some (.slice none 0 0) := (blk_cell BK440.out 7).trans rfl
                 have hfs75 := blk_frozen BK440.out 7
                 have hns75_0 := NB371_440.out
                 have hns75_1 := NB420_440.out
                 have hms75_0 := NB440_371.out
                 have hms75_1 := NB440_420.out
                 refine skip_ (w1 := ?_) (by rfl) rfl ?_ ?_
                 rotate_left
                 ·go_simp
                  rfl
                 refine hK.out _ _ ⟨((cell_far (p := ⟨gb440, _, none⟩) NB420_440.out _).trans (((cell_far (p := ⟨gb440, _, none⟩) NB420_440.out _).trans (((cell_far (p := ⟨gb440, _, none⟩) NB420_440.out _).trans (((cell_far (p := ⟨gb440, _, none⟩) NB420_440.out _).trans (((cell_far (p := ⟨gb440, _, none⟩) NB420_440.out _).trans (((cell_far (p := ⟨gb440, _, none⟩) NB420_440.out _).trans (((cell_far (p := ⟨gb440, _, none⟩) NB420_440.out _).trans (((cell_far (p := ⟨gb440, _, none⟩) NB420_440.out _).trans (hHeld.1)))))))))))))))), ((cell_far (p := ⟨gb440, _, none⟩) NB420_440.out _).trans (((cell_far (p := ⟨gb440, _, none⟩) NB420_440.out _).trans (((cell_far (p := ⟨gb440, _, none⟩) NB420_440.out _).trans (((cell_far (p := ⟨gb440, _, none⟩) NB420_440.out _).trans (((cell_far (p := ⟨gb440, _, none⟩) NB420_440.out _).trans (((cell_far (p := ⟨gb440, _, none⟩) NB420_440.out _).trans (((cell_far (p := ⟨gb440, _, none⟩) NB420_440.out _).trans (((cell_far (p := ⟨gb440, _, none⟩) NB420_440.out _).trans (hHeld.2.1)))))))))))))))), ((cell_far (p := ⟨gb440, _, none⟩) NB420_440.out _).trans (((cell_far (p := ⟨gb440, _, none⟩) NB420_440.out _).trans (((cell_far (p := ⟨gb440, _, none⟩) NB420_440.out _).trans (((cell_far (p := ⟨gb440, _, none⟩) NB420_440.out _).trans (((cell_far (p := ⟨gb440, _, none⟩) NB420_440.out _).trans (((cell_far (p := ⟨gb440, _, none⟩) NB420_440.out _).trans (((cell_far (p := ⟨gb440, _, none⟩) NB420_440.out _).trans (((cell_far (p := ⟨gb440, _, none⟩) NB420_440.out _).trans (hHeld.2.2.1)))))))))))))))), ((cell_far (p := ⟨gb440, _, none⟩) NB420_440.out _).trans (((cell_far (p := ⟨gb440, _, none⟩) NB420_440.out _).trans (((cell_far (p := ⟨gb440, _, none⟩) NB420_440.out _).trans (((cell_far (p := ⟨gb440, _, none⟩) NB420_440.out _).trans (((cell_far (p := ⟨gb440, _, none⟩) NB420_440.out _).trans (((cell_far (p := ⟨gb440, _, none⟩) NB420_440.out _).trans (((cell_far (p := ⟨gb440, _, none⟩) NB420_440.out _).trans (((cell_far (p := ⟨gb440, _, none⟩) NB420_440.out _).trans (hHeld.2.2.2.1)))))))))))))))), ((cell_far (p := ⟨gb440, _, none⟩) NB420_440.out _).trans (((cell_far (p := ⟨gb440, _, none⟩) NB420_440.out _).trans (((cell_far (p := ⟨gb440, _, none⟩) NB420_440.out _).trans (((cell_far (p := ⟨gb440, _, none⟩) NB420_440.out _).trans (((cell_far (p := ⟨gb440, _, none⟩) NB420_440.out _).trans (((cell_far (p := ⟨gb440, _, none⟩) NB420_440.out _).trans (((cell_far (p := ⟨gb440, _, none⟩) NB420_440.out _).trans (((cell_far (p := ⟨gb440, _, none⟩) NB420_440.out _).trans (hHeld.2.2.2.2.1)))))))))))))))), ((cell_far (p := ⟨gb440, _, none⟩) NB420_440.out _).trans (((cell_far (p := ⟨gb440, _, none⟩) NB420_440.out _).trans (((cell_far (p := ⟨gb440, _, none⟩) NB420_440.out _).trans (((cell_far (p := ⟨gb440, _, none⟩) NB420_440.out _).trans (((cell_far (p := ⟨gb440, _, none⟩) NB420_440.out _).trans (((cell_far (p := ⟨gb440, _, none⟩) NB420_440.out _).trans (((cell_far (p := ⟨gb440, _, none⟩) NB420_440.out _).trans (((cell_far (p := ⟨gb440, _, none⟩) NB420_440.out _).trans (hHeld.2.2.2.2.2.1)))))))))))))))), ((cell_far (p := ⟨gb440, _, none⟩) NB420_440.out _).trans (((cell_far (p := ⟨gb440, _, none⟩) NB420_440.out _).trans (((cell_far (p := ⟨gb440, _, none⟩) NB420_440.out _).trans (((cell_far (p := ⟨gb440, _, none⟩) NB420_440.out _).trans (((cell_far (p := ⟨gb440, _, none⟩) NB420_440.out _).trans (((cell_far (p := ⟨gb440, _, none⟩) NB420_440.out _).trans (((cell_far (p := ⟨gb440, _, none⟩) NB420_440.out _).trans (((cell_far (p := ⟨gb440, _, none⟩) NB420_440.out _).trans (hHeld.2.2.2.2.2.2.1)))))))))))))))), ((cell_far (p := ⟨gb440, _, none⟩) NB420_440.out _).trans (((cell_far (p := ⟨gb440, _, none⟩) NB420_440.out _).trans (((cell_far (p := ⟨gb440, _, none⟩) NB420_440.out _).trans (((cell_far (p := ⟨gb440, _, none⟩) NB420_440.out _).trans (((cell_far (p := ⟨gb440, _, none⟩) NB420_440.out _).trans (((cell_far (p := ⟨gb440, _, none⟩) NB420_440.out _).trans (((cell_far (p := ⟨gb440, _, none⟩) NB420_440.out _).trans (((cell_far (p := ⟨gb440, _, none⟩) NB420_440.out _).trans (hHeld.2.2.2.2.2.2.2.1)))))))))))))))), ((cell_far (p := ⟨gb440, _, none⟩) NB420_440.out _).trans (((cell_far (p := ⟨gb440, _, none⟩) NB420_440.out _).trans (((cell_far (p := ⟨gb440, _, none⟩) NB420_440.out _).trans (((cell_far (p := ⟨gb440, _, none⟩) NB420_440.out _).trans (((cell_far (p := ⟨gb440, _, none⟩) NB420_440.out _).trans (((cell_far (p := ⟨gb440, _, none⟩) NB420_440.out _).trans (((cell_far (p := ⟨gb440, _, none⟩) NB420_440.out _).trans (((cell_far (p := ⟨gb440, _, none⟩) NB420_440.out _).trans (hHeld.2.2.2.2.2.2.2.2.1)))))))))))))))), ((cell_far (p := ⟨gb440, _, none⟩) NB371_440.out _).trans (((cell_far (p := ⟨gb440, _, none⟩) NB371_440.out _).trans (((cell_far (p := ⟨gb440, _, none⟩) NB371_440.out _).trans (((cell_far (p := ⟨gb440, _, none⟩) NB371_440.out _).trans (((cell_far (p := ⟨gb440, _, none⟩) NB371_440.out _).trans (((cell_far (p := ⟨gb440, _, none⟩) NB371_440.out _).trans (((cell_far (p := ⟨gb440, _, none⟩) NB371_440.out _).trans (((cell_far (p := ⟨gb440, _, none⟩) NB371_440.out _).trans (hHeld.2.2.2.2.2.2.2.2.2.1)))))))))))))))), ((cell_far (p := ⟨gb440, _, none⟩) NB371_440.out _).trans (((cell_far (p := ⟨gb440, _, none⟩) NB371_440.out _).trans (((cell_far (p := ⟨gb440, _, none⟩) NB371_440.out _).trans (((cell_far (p := ⟨gb440, _, none⟩) NB371_440.out _).trans (((cell_far (p := ⟨gb440, _, none⟩) NB371_440.out _).trans (((cell_far (p := ⟨gb440, _, none⟩) NB371_440.out _).trans (((cell_far (p := ⟨gb440, _, none⟩) NB371_440.out _).trans (((cell_far (p := ⟨gb440, _, none⟩) NB371_440.out _).trans (hHeld.2.2.2.2.2.2.2.2.2.2.1)))))))))))))))), ((cell_far (p := ⟨gb440, _, none⟩) NB371_440.out _).trans (((cell_far (p := ⟨gb440, _, none⟩) NB371_440.out _).trans (((cell_far (p := ⟨gb440, _, none⟩) NB371_440.out _).trans (((cell_far (p := ⟨gb440, _, none⟩) NB371_440.out _).trans (((cell_far (p := ⟨gb440, _, none⟩) NB371_440.out _).trans (((cell_far (p := ⟨gb440, _, none⟩) NB371_440.out _).trans (((cell_far (p := ⟨gb440, _, none⟩) NB371_440.out _).trans (((cell_far (p := ⟨gb440, _, none⟩) NB371_440.out _).trans (hHeld.2.2.2.2.2.2.2.2.2.2.2.1)))))))))))))))), ((cell_far (p := ⟨gb440, _, none⟩) NB371_440.out _).trans (((cell_far (p := ⟨gb440, _, none⟩) NB371_440.out _).trans (((cell_far (p := ⟨gb440, _, none⟩) NB371_440.out _).trans (((cell_far (p := ⟨gb440, _, none⟩) NB371_440.out _).trans (((cell_far (p := ⟨gb440, _, none⟩) NB371_440.out _).trans (((cell_far (p := ⟨gb440, _, none⟩) NB371_440.out _).trans (((cell_far (p := ⟨gb440, _, none⟩) NB371_440.out _).trans (((cell_far (p := ⟨gb440, _, none⟩) NB371_440.out _).trans (hHeld.2.2.2.2.2.2.2.2.2.2.2.2.1)))))))))))))))), ((cell_far (p := ⟨gb440, _, none⟩) NB371_440.out _).trans (((cell_far (p := ⟨gb440, _, none⟩) NB371_440.out _).trans (((cell_far (p := ⟨gb440, _, none⟩) NB371_440.out _).trans (((cell_far (p := ⟨gb440, _, none⟩) NB371_440.out _).trans (((cell_far (p := ⟨gb440, _, none⟩) NB371_440.out _).trans (((cell_far (p := ⟨gb440, _, none⟩) NB371_440.out _).trans (((cell_far (p := ⟨gb440, _, none⟩) NB371_440.out _).trans (((cell_far (p := ⟨gb440, _, none⟩) NB371_440.out _).trans (hHeld.2.2.2.2.2.2.2.2.2.2.2.2.2.1)))))))))))))))), ((cell_far (p := ⟨gb440, _, none⟩) NB371_440.out _).trans (((cell_far (p := ⟨gb440, _, none⟩) NB371_440.out _).trans (((cell_far (p := ⟨gb440, _, none⟩) NB371_440.out _).trans (((cell_far (p := ⟨gb440, _, none⟩) NB371_440.out _).trans (((cell_far (p := ⟨gb440, _, none⟩) NB371_440.out _).trans (((cell_far (p := ⟨gb440, _, none⟩) NB371_440.out _).trans (((cell_far (p := ⟨gb440, _, none⟩) NB371_440.out _).trans (((cell_far (p := ⟨gb440, _, none⟩) NB371_440.out _).trans (hHeld.2.2.2.2.2.2.2.2.2.2.2.2.2.2.1)))))))))))))))), ((cell_far (p := ⟨gb440, _, none⟩) NB371_440.out _).trans (((cell_far (p := ⟨gb440, _, none⟩) NB371_440.out _).trans (((cell_far (p := ⟨gb440, _, none⟩) NB371_440.out _).trans (((cell_far (p := ⟨gb440, _, none⟩) NB371_440.out _).trans (((cell_far (p := ⟨gb440, _, none⟩) NB371_440.out _).trans (((cell_far (p := ⟨gb440, _, none⟩) NB371_440.out _).trans (((cell_far (p := ⟨gb440, _, none⟩) NB371_440.out _).trans (((cell_far (p := ⟨gb440, _, none⟩) NB371_440.out _).trans (hHeld.2.2.2.2.2.2.2.2.2.2.2.2.2.2.2.1)))))))))))))))), ((cell_far (p := ⟨gb440, _, none⟩) NB371_440.out _).trans (((cell_far (p := ⟨gb440, _, none⟩) NB371_440.out _).trans (((cell_far (p := ⟨gb440, _, none⟩) NB371_440.out _).trans (((cell_far (p := ⟨gb440, _, none⟩) NB371_440.out _).trans (((cell_far (p := ⟨gb440, _, none⟩) NB371_440.out _).trans (((cell_far (p := ⟨gb440, _, none⟩) NB371_440.out _).trans (((cell_far (p := ⟨gb440, _, none⟩) NB371_440.out _).trans (((cell_far (p := ⟨gb440, _, none⟩) NB371_440.out _).trans (hHeld.2.2.2.2.2.2.2.2.2.2.2.2.2.2.2.2))))))))))))))))⟩ (fun hHeld => ?_)
                 clear hK K
                 refine pureS_ 19 10 ?_
                 refine done_ (done_of HT_.out (by kernel_rfl)) ?_
                 try go_wp2
                 have n0_ : Aside0 (Kd.R (Kd.int .u8) 5 ((((((((w66.setCell ⟨gb440, 0, none⟩ (.string t429)).setCell ⟨gb440, 1, none⟩ (.int .i64 t430)).setCell ⟨gb440, 2, none⟩ (.int .i64 t431)).setCell ⟨gb440, 3, none⟩ (.int .i64 t432)).setCell ⟨gb440, 4, none⟩ (.int .i64 t433)).setCell ⟨gb440, 5, none⟩ (.int .i64 t434)).setCell ⟨gb440, 6, none⟩ (.string t435)).setCell ⟨gb440, 7, none⟩ (.slice Ao74 t436.length co74)) w.heap.size (fun k_ => some k_ ≠ (.slice Ao74 t436.length co74 : Value).ownBlock) (.slice Ao52 t384.length co52) t384) := ⟨by (with_reducible repeat (first | apply Kd.R_alloc | apply Kd.R_drewN | apply Kd.R_drew)); exact Kd.R_mono (Kd.R_far (p := ⟨gb440, 7, none⟩) (Kd.R_far (p := ⟨gb440, 6, none⟩) (Kd.R_far (p := ⟨gb440, 5, none⟩) (Kd.R_far (p := ⟨gb440, 4, none⟩) (Kd.R_far (p := ⟨gb440, 3, none⟩) (Kd.R_far (p := ⟨gb440, 2, none⟩) (Kd.R_far (p := ⟨gb440, 1, none⟩) (Kd.R_far (p := ⟨gb440, 0, none⟩) (Kd.R_types HO_3.out BK440.out (by decide)) (fun _ hk => hk.2) (.string t429)) (fun _ hk => hk.2) (.int .i64 t430)) (fun _ hk => hk.2) (.int .i64 t431)) (fun _ hk => hk.2) (.int .i64 t432)) (fun _ hk => hk.2) (.int .i64 t433)) (fun _ hk => hk.2) (.int .i64 t434)) (fun _ hk => hk.2) (.string t435)) (fun _ hk => hk.2) (.slice Ao74 t436.length co74)) (fun _ hk => hk.1)⟩
                 have n1_ : Aside0 (Kd.R k35 35 ((((((((w66.setCell ⟨gb440, 0, none⟩ (.string t429)).setCell ⟨gb440, 1, none⟩ (.int .i64 t430)).setCell ⟨gb440, 2, none⟩ (.int .i64 t431)).setCell ⟨gb440, 3, none⟩ (.int .i64 t432)).setCell ⟨gb440, 4, none⟩ (.int .i64 t433)).setCell ⟨gb440, 5, none⟩ (.int .i64 t434)).setCell ⟨gb440, 6, none⟩ (.string t435)).setCell ⟨gb440, 7, none⟩ (.slice Ao74 t436.length co74)) w.heap.size (fun _ => True) (.slice Ao59 t399.length co59) t399) := ⟨by (with_reducible repeat (first | apply Kd.R_alloc | apply Kd.R_drewN | apply Kd.R_drew)); exact Kd.R_mono (Kd.R_far (p := ⟨gb440, 7, none⟩) (Kd.R_far (p := ⟨gb440, 6, none⟩) (Kd.R_far (p := ⟨gb440, 5, none⟩) (Kd.R_far (p := ⟨gb440, 4, none⟩) (Kd.R_far (p := ⟨gb440, 3, none⟩) (Kd.R_far (p := ⟨gb440, 2, none⟩) (Kd.R_far (p := ⟨gb440, 1, none⟩) (Kd.R_far (p := ⟨gb440, 0, none⟩) (Kd.R_types HO_5.out BK440.out (by decide)) (fun _ hk => hk.2) (.string t429)) (fun _ hk => hk.2) (.int .i64 t430)) (fun _ hk => hk.2) (.int .i64 t431)) (fun _ hk => hk.2) (.int .i64 t432)) (fun _ hk => hk.2) (.int .i64 t433)) (fun _ hk => hk.2) (.int .i64 t434)) (fun _ hk => hk.2) (.string t435)) (fun _ hk => hk.2) (.slice Ao74 t436.length co74)) (fun _ hk => trivial)⟩
                 have n2_ : Aside0 (Kd.R (Kd.int .u8) 5 ((((((((w66.setCell ⟨gb440, 0, none⟩ (.string t429)).setCell ⟨gb440, 1, none⟩ (.int .i64 t430)).setCell ⟨gb440, 2, none⟩ (.int .i64 t431)).setCell ⟨gb440, 3, none⟩ (.int .i64 t432)).setCell ⟨gb440, 4, none⟩ (.int .i64 t433)).setCell ⟨gb440, 5, none⟩ (.int .i64 t434)).setCell ⟨gb440, 6, none⟩ (.string t435)).setCell ⟨gb440, 7, none⟩ (.slice Ao74 t436.length co74)) w.heap.size (fun k_ => some k_ ≠ (.slice Ao52 t384.length co52 : Value).ownBlock) (.slice Ao74 t436.length co74) t436) := ⟨by (with_reducible repeat (first | apply Kd.R_alloc | apply Kd.R_drewN | apply Kd.R_drew)); exact Kd.R_mono (Kd.R_far (p := ⟨gb440, 7, none⟩) (Kd.R_far (p := ⟨gb440, 6, none⟩) (Kd.R_far (p := ⟨gb440, 5, none⟩) (Kd.R_far (p := ⟨gb440, 4, none⟩) (Kd.R_far (p := ⟨gb440, 3, none⟩) (Kd.R_far (p := ⟨gb440, 2, none⟩) (Kd.R_far (p := ⟨gb440, 1, none⟩) (Kd.R_far (p := ⟨gb440, 0, none⟩) (Kd.R_types HO438.out BK440.out (by decide)) (fun _ hk => hk.2) (.string t429)) (fun _ hk => hk.2) (.int .i64 t430)) (fun _ hk => hk.2) (.int .i64 t431)) (fun _ hk => hk.2) (.int .i64 t432)) (fun _ hk => hk.2) (.int .i64 t433)) (fun _ hk => hk.2) (.int .i64 t434)) (fun _ hk => hk.2) (.string t435)) (fun _ hk => hk.2) (.slice Ao74 t436.length co74)) (fun _ hk => hk.1)⟩
                 have n3_ : Aside0 (((((((((w66.setCell ⟨gb440, 0, none⟩ (.string t429)).setCell ⟨gb440, 1, none⟩ (.int .i64 t430)).setCell ⟨gb440, 2, none⟩ (.int .i64 t431)).setCell ⟨gb440, 3, none⟩ (.int .i64 t432)).setCell ⟨gb440, 4, none⟩ (.int .i64 t433)).setCell ⟨gb440, 5, none⟩ (.int .i64 t434)).setCell ⟨gb440, 6, none⟩ (.string t435)).setCell ⟨gb440, 7, none⟩ (.slice Ao74 t436.length co74)).heap[gb371]? = some (.cells #[.string a0_0, .int .i64 a0_1, .int .i64 a0_2, .int .i64 a0_3, .int .i64 a0_4, .int .i64 a0_5, .string a0_6, .slice A0_7 l0_7.length c0_7] 45 (0, 0))) := ⟨by (with_reducible repeat (first | refine blk_drewN ?_ _ | refine blk_drew ?_ | refine blk_alloc ?_ _)); refine blk_far ?_ NB371_440.out _; (with_reducible repeat (first | refine blk_drewN ?_ _ | refine blk_drew ?_ | refine blk_alloc ?_ _)); refine blk_far ?_ NB371_440.out _; (with_reducible repeat (first | refine blk_drewN ?_ _ | refine blk_drew ?_ | refine blk_alloc ?_ _)); refine blk_far ?_ NB371_440.out _; (with_reducible repeat (first | refine blk_drewN ?_ _ | refine blk_drew ?_ | refine blk_alloc ?_ _)); refine blk_far ?_ NB371_440.out _; (with_reducible repeat (first | refine blk_drewN ?_ _ | refine blk_drew ?_ | refine blk_alloc ?_ _)); refine blk_far ?_ NB371_440.out _; (with_reducible repeat (first | refine blk_drewN ?_ _ | refine blk_drew ?_ | refine blk_alloc ?_ _)); refine blk_far ?_ NB371_440.out _; (with_reducible repeat (first | refine blk_drewN ?_ _ | refine blk_drew ?_ | refine blk_alloc ?_ _)); refine blk_far ?_ NB371_440.out _; (with_reducible repeat (first | refine blk_drewN ?_ _ | refine blk_drew ?_ | refine blk_alloc ?_ _)); refine blk_far ?_ NB371_440.out _; (with_reducible repeat (first | refine blk_drewN ?_ _ | refine blk_drew ?_ | refine blk_alloc ?_ _)); exact BK371.out⟩
                 have n4_ : Aside0 (((((((((w66.setCell ⟨gb440, 0, none⟩ (.string t429)).setCell ⟨gb440, 1, none⟩ (.int .i64 t430)).setCell ⟨gb440, 2, none⟩ (.int .i64 t431)).setCell ⟨gb440, 3, none⟩ (.int .i64 t432)).setCell ⟨gb440, 4, none⟩ (.int .i64 t433)).setCell ⟨gb440, 5, none⟩ (.int .i64 t434)).setCell ⟨gb440, 6, none⟩ (.string t435)).setCell ⟨gb440, 7, none⟩ (.slice Ao74 t436.length co74)).heap[gb420]? = some (.cells #[.string t410, .string t411, .int .i64 t412, .int .i64 t413, .int .i64 t414, .int .i64 t415, .int .i64 t416, .int .u8 t417, .string t418] 43 (0, 0))) := ⟨by (with_reducible repeat (first | refine blk_drewN ?_ _ | refine blk_drew ?_ | refine blk_alloc ?_ _)); refine blk_far ?_ NB420_440.out _; (with_reducible repeat (first | refine blk_drewN ?_ _ | refine blk_drew ?_ | refine blk_alloc ?_ _)); refine blk_far ?_ NB420_440.out _; (with_reducible repeat (first | refine blk_drewN ?_ _ | refine blk_drew ?_ | refine blk_alloc ?_ _)); refine blk_far ?_ NB420_440.out _; (with_reducible repeat (first | refine blk_drewN ?_ _ | refine blk_drew ?_ | refine blk_alloc ?_ _)); refine blk_far ?_ NB420_440.out _; (with_reducible repeat (first | refine blk_drewN ?_ _ | refine blk_drew ?_ | refine blk_alloc ?_ _)); refine blk_far ?_ NB420_440.out _; (with_reducible repeat (first | refine blk_drewN ?_ _ | refine blk_drew ?_ | refine blk_alloc ?_ _)); refine blk_far ?_ NB420_440.out _; (with_reducible repeat (first | refine blk_drewN ?_ _ | refine blk_drew ?_ | refine blk_alloc ?_ _)); refine blk_far ?_ NB420_440.out _; (with_reducible repeat (first | refine blk_drewN ?_ _ | refine blk_drew ?_ | refine blk_alloc ?_ _)); refine blk_far ?_ NB420_440.out _; (with_reducible repeat (first | refine blk_drewN ?_ _ | refine blk_drew ?_ | refine blk_alloc ?_ _)); exact BK420.out⟩
                 have n5_ : Aside0 (((((((((w66.setCell ⟨gb440, 0, none⟩ (.string t429)).setCell ⟨gb440, 1, none⟩ (.int .i64 t430)).setCell ⟨gb440, 2, none⟩ (.int .i64 t431)).setCell ⟨gb440, 3, none⟩ (.int .i64 t432)).setCell ⟨gb440, 4, none⟩ (.int .i64 t433)).setCell ⟨gb440, 5, none⟩ (.int .i64 t434)).setCell ⟨gb440, 6, none⟩ (.string t435)).setCell ⟨gb440, 7, none⟩ (.slice Ao74 t436.length co74)).heap[gb440]? = some (.cells #[.string t429, .int .i64 t430, .int .i64 t431, .int .i64 t432, .int .i64 t433, .int .i64 t434, .string t435, .slice Ao74 t436.length co74] 38 (0, 0))) := ⟨by (with_reducible repeat (first | refine blk_drewN ?_ _ | refine blk_drew ?_ | refine blk_alloc ?_ _)); refine blk_put (cs := #[.string t429, .int .i64 t430, .int .i64 t431, .int .i64 t432, .int .i64 t433, .int .i64 t434, .string t435, .slice none 0 0]) ?_ 7 _ rfl; (with_reducible repeat (first | refine blk_drewN ?_ _ | refine blk_drew ?_ | refine blk_alloc ?_ _)); refine blk_put (cs := #[.string t429, .int .i64 t430, .int .i64 t431, .int .i64 t432, .int .i64 t433, .int .i64 t434, .string (⟨#[]⟩ : ByteArray), .slice none 0 0]) ?_ 6 _ rfl; (with_reducible repeat (first | refine blk_drewN ?_ _ | refine blk_drew ?_ | refine blk_alloc ?_ _)); refine blk_put (cs := #[.string t429, .int .i64 t430, .int .i64 t431, .int .i64 t432, .int .i64 t433, .int .i64 0, .string (⟨#[]⟩ : ByteArray), .slice none 0 0]) ?_ 5 _ rfl; (with_reducible repeat (first | refine blk_drewN ?_ _ | refine blk_drew ?_ | refine blk_alloc ?_ _)); refine blk_put (cs := #[.string t429, .int .i64 t430, .int .i64 t431, .int .i64 t432, .int .i64 0, .int .i64 0, .string (⟨#[]⟩ : ByteArray), .slice none 0 0]) ?_ 4 _ rfl; (with_reducible repeat (first | refine blk_drewN ?_ _ | refine blk_drew ?_ | refine blk_alloc ?_ _)); refine blk_put (cs := #[.string t429, .int .i64 t430, .int .i64 t431, .int .i64 0, .int .i64 0, .int .i64 0, .string (⟨#[]⟩ : ByteArray), .slice none 0 0]) ?_ 3 _ rfl; (with_reducible repeat (first | refine blk_drewN ?_ _ | refine blk_drew ?_ | refine blk_alloc ?_ _)); refine blk_put (cs := #[.string t429, .int .i64 t430, .int .i64 0, .int .i64 0, .int .i64 0, .int .i64 0, .string (⟨#[]⟩ : ByteArray), .slice none 0 0]) ?_ 2 _ rfl; (with_reducible repeat (first | refine blk_drewN ?_ _ | refine blk_drew ?_ | refine blk_alloc ?_ _)); refine blk_put (cs := #[.string t429, .int .i64 0, .int .i64 0, .int .i64 0, .int .i64 0, .int .i64 0, .string (⟨#[]⟩ : ByteArray), .slice none 0 0]) ?_ 1 _ rfl; (with_reducible repeat (first | refine blk_drewN ?_ _ | refine blk_drew ?_ | refine blk_alloc ?_ _)); refine blk_put (cs := #[.string (⟨#[]⟩ : ByteArray), .int .i64 0, .int .i64 0, .int .i64 0, .int .i64 0, .int .i64 0, .string (⟨#[]⟩ : ByteArray), .slice none 0 0]) ?_ 0 _ rfl; (with_reducible repeat (first | refine blk_drewN ?_ _ | refine blk_drew ?_ | refine blk_alloc ?_ _)); exact BK440.out⟩
                 have n6_ : Aside0 (Below w.heap.size w ((((((((w66.setCell ⟨gb440, 0, none⟩ (.string t429)).setCell ⟨gb440, 1, none⟩ (.int .i64 t430)).setCell ⟨gb440, 2, none⟩ (.int .i64 t431)).setCell ⟨gb440, 3, none⟩ (.int .i64 t432)).setCell ⟨gb440, 4, none⟩ (.int .i64 t433)).setCell ⟨gb440, 5, none⟩ (.int .i64 t434)).setCell ⟨gb440, 6, none⟩ (.string t435)).setCell ⟨gb440, 7, none⟩ (.slice Ao74 t436.length co74))) := ⟨by repeat (first | (with_reducible first | exact HB.out | apply below_alloc | apply pw_below_drewN | apply below_drew1 | refine below_set ?_ GE371.out | refine below_set ?_ GE420.out | refine below_set ?_ GE440.out) | exact HB.out)⟩
                 (try clear HO_3)
                 (try clear HO_5)
                 (try clear HO438)
                 (try clear BK371)
                 (try clear BK420)
                 (try clear BK440)
                 (try clear HB)
                 generalize ((((((((w66.setCell ⟨gb440, 0, none⟩ (.string t429)).setCell ⟨gb440, 1, none⟩ (.int .i64 t430)).setCell ⟨gb440, 2, none⟩ (.int .i64 t431)).setCell ⟨gb440, 3, none⟩ (.int .i64 t432)).setCell ⟨gb440, 4, none⟩ (.int .i64 t433)).setCell ⟨gb440, 5, none⟩ (.int .i64 t434)).setCell ⟨gb440, 6, none⟩ (.string t435)).setCell ⟨gb440, 7, none⟩ (.slice Ao74 t436.length co74)) = w76 at n0_ n1_ n2_ n3_ n4_ n5_ n6_ ⊢
                 have HO_3 := n0_
                 have HO_5 := n1_
                 have HO438 := n2_
                 have BK371 := n3_
                 have BK420 := n4_
                 have BK440 := n5_
                 have HB := n6_
                 clear n0_ n1_ n2_ n3_ n4_ n5_ n6_
                 have n0_ := Aside0.mk (Kd.R_drew HO_3.out)
                 have n1_ := Aside0.mk (Kd.R_drew HO_5.out)
                 have n2_ := Aside0.mk (Kd.R_drew HO438.out)
                 have n3_ := Aside0.mk (blk_drew BK371.out)
                 have n4_ := Aside0.mk (blk_drew BK420.out)
                 have n5_ := Aside0.mk (blk_drew BK440.out)
                 have n6_ := Aside0.mk (below_drew1 HB.out)
                 clear HO_3
                 clear HO_5
                 clear HO438
                 clear BK371
                 clear BK420
                 clear BK440
                 clear HB
                 have HO_3 := n0_
                 have HO_5 := n1_
                 have HO438 := n2_
                 have BK371 := n3_
                 have BK420 := n4_
                 have BK440 := n5_
                 have HB := n6_
                 clear n0_ n1_ n2_ n3_ n4_ n5_ n6_
                 refine start_ (n := 24) (S := fun w' => w'.cell? ⟨gb440, 0, none⟩ = some (.string t429) ∧ w'.cell? ⟨gb440, 1, none⟩ = some (.int .i64 t430) ∧ w'.cell? ⟨gb440, 2, none⟩ = some (.int .i64 t431) ∧ w'.cell? ⟨gb440, 3, none⟩ = some (.int .i64 t432) ∧ w'.cell? ⟨gb440, 4, none⟩ = some (.int .i64 t433) ∧ w'.cell? ⟨gb440, 5, none⟩ = some (.int .i64 t434) ∧ w'.cell? ⟨gb440, 6, none⟩ = some (.string t435) ∧ w'.cell? ⟨gb440, 7, none⟩ = some (.slice Ao74 t436.length co74) ∧ w'.cell? ⟨gb371, 0, none⟩ = some (.string a0_0) ∧ w'.cell? ⟨gb371, 1, none⟩ = some (.int .i64 a0_1) ∧ w'.cell? ⟨gb371, 2, none⟩ = some (.int .i64 a0_2) ∧ w'.cell? ⟨gb371, 3, none⟩ = some (.int .i64 a0_3) ∧ w'.cell? ⟨gb371, 4, none⟩ = some (.int .i64 a0_4) ∧ w'.cell? ⟨gb371, 5, none⟩ = some (.int .i64 a0_5) ∧ w'.cell? ⟨gb371, 6, none⟩ = some (.string a0_6) ∧ w'.cell? ⟨gb371, 7, none⟩ = some (.slice A0_7 l0_7.length c0_7) ∧ w'.cell? ⟨gb420, 0, none⟩ = some (.string t410) ∧ w'.cell? ⟨gb420, 1, none⟩ = some (.string t411) ∧ w'.cell? ⟨gb420, 2, none⟩ = some (.int .i64 t412) ∧ w'.cell? ⟨gb420, 3, none⟩ = some (.int .i64 t413) ∧ w'.cell? ⟨gb420, 4, none⟩ = some (.int .i64 t414) ∧ w'.cell? ⟨gb420, 5, none⟩ = some (.int .i64 t415) ∧ w'.cell? ⟨gb420, 6, none⟩ = some (.int .i64 t416) ∧ w'.cell? ⟨gb420, 7, none⟩ = some (.int .u8 t417) ∧ w'.cell? ⟨gb420, 8, none⟩ = some (.string t418)) (ds := []) #[false, false, false, false, false, false, false, false, false, false, false, false, false, false, false, false, false, false, false, false, false, false, false, false] (by kernel_rfl) rfl rfl ⟨(blk_cell BK440.out 0).trans rfl, (blk_cell BK440.out 1).trans rfl, (blk_cell BK440.out 2).trans rfl, (blk_cell BK440.out 3).trans rfl, (blk_cell BK440.out 4).trans rfl, (blk_cell BK440.out 5).trans rfl, (blk_cell BK440.out 6).trans rfl, (blk_cell BK440.out 7).trans rfl, (blk_cell BK371.out 0).trans rfl, (blk_cell BK371.out 1).trans rfl, (blk_cell BK371.out 2).trans rfl, (blk_cell BK371.out 3).trans rfl, (blk_cell BK371.out 4).trans rfl, (blk_cell BK371.out 5).trans rfl, (blk_cell BK371.out 6).trans rfl, (blk_cell BK371.out 7).trans rfl, (blk_cell BK420.out 0).trans rfl, (blk_cell BK420.out 1).trans rfl, (blk_cell BK420.out 2).trans rfl, (blk_cell BK420.out 3).trans rfl, (blk_cell BK420.out 4).trans rfl, (blk_cell BK420.out 5).trans rfl, (blk_cell BK420.out 6).trans rfl, (blk_cell BK420.out 7).trans rfl, (blk_cell BK420.out 8).trans rfl⟩ (fun hHeld => ?_); refine with_tabW thwartlaw08_MembWhole.tab12 thwartlaw08_MembWhole.bits12 (fun HT_ HW_ => ?_)
                 generalize w76.drew = w77 at HO_3 HO_5 HO438 BK371 BK420 BK440 HB hHeld ⊢
                 refine pureS_ 0 86 ?_
                 refine pureS_ 1 87 ?_
                 refine pureS_ 2 88 ?_
                 refine pureS_ 3 89 ?_
                 refine pureS_ 4 90 ?_
                 refine pureS_ 5 91 ?_
                 refine pureS_ 6 92 ?_
                 refine takeS_ 7 93 ?_
                 refine takeS_ 8 94 ?_
                 refine one_ (i := 9) (N := some 95) #[true, true, true, true, true, true, true, true, true, true, false, false, false, false, false, false, false, false, false, false, false, false, false, false] rfl rfl (one_of HT_.out (by kernel_rfl)) (by decide) (fun K hK => ?_)
                 refine goes_ Tryz.func13 (by kernel_rfl) rfl #[.agg #[.string a0_0, .int .i64 a0_1, .int .i64 a0_2, .int .i64 a0_3, .int .i64 a0_4, .int .i64 a0_5, .string a0_6, .slice A0_7 l0_7.length c0_7]] (by rfl) rfl rfl (by (try simp only [List.map_toArray, List.map_cons, List.map_nil]); first | done | rfl | (simp only [List.length_drop, List.length_take]; rfl)) ?_
                 with_reducible refine (thwartlaw08_theirs.calls a0_0 a0_1 a0_2 a0_3 a0_4 a0_5 a0_6 (fun k_ => k_ < w.heap.size) _ _ l0_7 t441 t442 t443 t444 t445 t446 t447 t448 _ ?side1 A47.out).mono ?_
                 (case side1 => exact Kd.V_mk HC0_7.out (Kd.F_below (Kd.C_F (Kd.heap_int .u8) HR0_7.out) belA_))
                 rintro e w78 ⟨v449, rfl, ho0, hb⟩
                 refine ⟨_, rfl, ?_⟩
                 have n0_ := Aside0.mk (Kd.R_below (by (with_reducible repeat (first | apply Kd.R_alloc | apply Kd.R_drewN | apply Kd.R_drew)); exact HO_3.out) hb)
                 have n1_ := Aside0.mk (Kd.R_below (by (with_reducible repeat (first | apply Kd.R_alloc | apply Kd.R_drewN | apply Kd.R_drew)); exact HO_5.out) hb)
                 have n2_ := Aside0.mk (Kd.R_below (by (with_reducible repeat (first | apply Kd.R_alloc | apply Kd.R_drewN | apply Kd.R_drew)); exact HO438.out) hb)
                 have n3_ := Aside0.mk (Kd.V_lower (Kd.V_mono (ok' := fun k_ => some k_ ≠ (.slice Ao52 t384.length co52 : Value).ownBlock ∧ some k_ ≠ (.slice Ao59 t399.length co59 : Value).ownBlock ∧ some k_ ≠ (.slice Ao74 t436.length co74 : Value).ownBlock ∧ k_ ≠ gb371 ∧ k_ ≠ gb420 ∧ k_ ≠ gb440) ho0 (fun k_ hk_ => ⟨Or.elim hk_ (fun hs_ => fun e_ => Nat.not_le.2 hs_ (Kd.R_base HO_3.out k_ e_.symm)) (fun hn_ => (Kd.fresh' (Kd.R_lt (by (with_reducible repeat (first | apply Kd.R_alloc | apply Kd.R_drewN | apply Kd.R_drew)); exact HO_3.out)) k_ hn_)), Or.elim hk_ (fun hs_ => fun e_ => Nat.not_le.2 hs_ (Kd.R_base HO_5.out k_ e_.symm)) (fun hn_ => (Kd.fresh' (Kd.R_lt (by (with_reducible repeat (first | apply Kd.R_alloc | apply Kd.R_drewN | apply Kd.R_drew)); exact HO_5.out)) k_ hn_)), Or.elim hk_ (fun hs_ => fun e_ => Nat.not_le.2 hs_ (Kd.R_base HO438.out k_ e_.symm)) (fun hn_ => (Kd.fresh' (Kd.R_lt (by (with_reducible repeat (first | apply Kd.R_alloc | apply Kd.R_drewN | apply Kd.R_drew)); exact HO438.out)) k_ hn_)), Or.elim hk_ (fun hs_ => fun e_ => Nat.not_le.2 hs_ (by rw [e_]; exact GW371.out)) (fun hn_ => (Kd.freshB (g := gb371) (o := .cells #[.string a0_0, .int .i64 a0_1, .int .i64 a0_2, .int .i64 a0_3, .int .i64 a0_4, .int .i64 a0_5, .string a0_6, .slice A0_7 l0_7.length c0_7] 45 (0, 0)) (by (with_reducible repeat (first | refine blk_drewN ?_ _ | refine blk_drew ?_ | refine blk_alloc ?_ _)); exact BK371.out) k_ hn_)), Or.elim hk_ (fun hs_ => fun e_ => Nat.not_le.2 hs_ (by rw [e_]; exact GW420.out)) (fun hn_ => (Kd.freshB (g := gb420) (o := .cells #[.string t410, .string t411, .int .i64 t412, .int .i64 t413, .int .i64 t414, .int .i64 t415, .int .i64 t416, .int .u8 t417, .string t418] 43 (0, 0)) (by (with_reducible repeat (first | refine blk_drewN ?_ _ | refine blk_drew ?_ | refine blk_alloc ?_ _)); exact BK420.out) k_ hn_)), Or.elim hk_ (fun hs_ => fun e_ => Nat.not_le.2 hs_ (by rw [e_]; exact GW440.out)) (fun hn_ => (Kd.freshB (g := gb440) (o := .cells #[.string t429, .int .i64 t430, .int .i64 t431, .int .i64 t432, .int .i64 t433, .int .i64 t434, .string t435, .slice Ao74 t436.length co74] 38 (0, 0)) (by (with_reducible repeat (first | refine blk_drewN ?_ _ | refine blk_drew ?_ | refine blk_alloc ?_ _)); exact BK440.out) k_ hn_))⟩)) bsize_)
                 have n4_ := Aside0.mk (blkB_ BK371.out hb)
                 have n5_ := Aside0.mk (blkB_ BK420.out hb)
                 have n6_ := Aside0.mk (blkB_ BK440.out hb)
                 have n7_ := Aside0.mk (bstep_ hb)
                 clear HO_3
                 clear HO_5
                 clear HO438
                 clear BK371
                 clear BK420
                 clear BK440
                 clear HB
                 have HO_3 := n0_
                 have HO_5 := n1_
                 have HO438 := n2_
                 have HO450 := n3_
                 have BK371 := n4_
                 have BK420 := n5_
                 have BK440 := n6_
                 have HB := n7_
                 clear n0_ n1_ n2_ n3_ n4_ n5_ n6_ n7_
                 (try clear hb)
                 (try clear hb2)
                 (try clear hk)
                 (try clear hi)
                 (try clear ho0)
                 obtain ⟨Ao79, co79, eo79⟩ := Kd.V_slice HO450.out
                 (first | subst eo79 | (injection eo79 with f1_ f2_ f3_; have f4_ := f1_.symm; have f5_ := f3_.symm; clear f1_ f2_ f3_; subst f4_; subst f5_))
                 refine hK.out _ _ ⟨(blk_cell BK440.out 0).trans rfl, (blk_cell BK440.out 1).trans rfl, (blk_cell BK440.out 2).trans rfl, (blk_cell BK440.out 3).trans rfl, (blk_cell BK440.out 4).trans rfl, (blk_cell BK440.out 5).trans rfl, (blk_cell BK440.out 6).trans rfl, (blk_cell BK440.out 7).trans rfl, (blk_cell BK371.out 0).trans rfl, (blk_cell BK371.out 1).trans rfl, (blk_cell BK371.out 2).trans rfl, (blk_cell BK371.out 3).trans rfl, (blk_cell BK371.out 4).trans rfl, (blk_cell BK371.out 5).trans rfl, (blk_cell BK371.out 6).trans rfl, (blk_cell BK371.out 7).trans rfl, (blk_cell BK420.out 0).trans rfl, (blk_cell BK420.out 1).trans rfl, (blk_cell BK420.out 2).trans rfl, (blk_cell BK420.out 3).trans rfl, (blk_cell BK420.out 4).trans rfl, (blk_cell BK420.out 5).trans rfl, (blk_cell BK420.out 6).trans rfl, (blk_cell BK420.out 7).trans rfl, (blk_cell BK420.out 8).trans rfl⟩ (fun hHeld => ?_)
                 clear hK K
                 refine normS_ 95 ?_
                 refine one_ (i := 10) (N := some 96) #[true, true, true, true, true, true, true, true, true, true, true, false, false, false, false, false, false, false, false, false, false, false, false, false] rfl rfl (one_of HT_.out (by kernel_rfl)) (by decide) (fun K hK => ?_)
                 refine goes_ Tryz.func14 (by kernel_rfl) rfl #[.agg #[.string t429, .int .i64 t430, .int .i64 t431, .int .i64 t432, .int .i64 t433, .int .i64 t434, .string t435, .slice Ao74 t436.length co74], .agg #[.string t441, .int .i64 t442, .int .i64 t443, .int .i64 t444, .int .i64 t445, .int .i64 t446, .string t447, .slice Ao79 t448.length co79]] (by rfl) rfl rfl (by (try simp only [List.map_toArray, List.map_cons, List.map_nil]); first | done | rfl | (simp only [List.length_drop, List.length_take]; rfl)) ?_
                 with_reducible refine (memb_Same.calls t429 t430 t431 t432 t433 t434 t435 _ _ t436 t441 t442 t443 t444 t445 t446 t447 _ _ t448 true _ ?side1 ?side2 ?side3 ?side4 A48.out).mono ?_
                 (case side1 => repeat (first | exact (Kd.R_reads' HO438.out).2.2 | (with_reducible refine Kd.C_alloc ?_ _) | (with_reducible refine Kd.C_drewN ?_ _) | (with_reducible refine Kd.C_drew ?_)))
                 (case side2 => exact (Kd.R_reads' HO438.out).2.1)
                 (case side3 => repeat (first | exact (Kd.V_reads' HO450.out).2.2 | (with_reducible refine Kd.C_alloc ?_ _) | (with_reducible refine Kd.C_drewN ?_ _) | (with_reducible refine Kd.C_drew ?_)))
                 (case side4 => exact (Kd.V_reads' HO450.out).2.1)
                 rintro e w80 ⟨rfl, hb⟩
                 refine ⟨_, rfl, ?_⟩
                 have n0_ := Aside0.mk (Kd.R_below (by (with_reducible repeat (first | apply Kd.R_alloc | apply Kd.R_drewN | apply Kd.R_drew)); exact HO_3.out) hb)
                 have n1_ := Aside0.mk (Kd.R_below (by (with_reducible repeat (first | apply Kd.R_alloc | apply Kd.R_drewN | apply Kd.R_drew)); exact HO_5.out) hb)
                 have n2_ := Aside0.mk (Kd.R_below (by (with_reducible repeat (first | apply Kd.R_alloc | apply Kd.R_drewN | apply Kd.R_drew)); exact HO438.out) hb)
                 have n3_ := Aside0.mk (Kd.V_below (by (with_reducible repeat (first | apply Kd.V_alloc | apply Kd.V_drewN | apply Kd.V_drew)); exact HO450.out) hb)
                 have n4_ := Aside0.mk (blkB_ BK371.out hb)
                 have n5_ := Aside0.mk (blkB_ BK420.out hb)
                 have n6_ := Aside0.mk (blkB_ BK440.out hb)
                 have n7_ := Aside0.mk (bstep_ hb)
                 clear HO_3
                 clear HO_5
                 clear HO438
                 clear HO450
                 clear BK371
                 clear BK420
                 clear BK440
                 clear HB
                 have HO_3 := n0_
                 have HO_5 := n1_
                 have HO438 := n2_
                 have HO450 := n3_
                 have BK371 := n4_
                 have BK420 := n5_
                 have BK440 := n6_
                 have HB := n7_
                 clear n0_ n1_ n2_ n3_ n4_ n5_ n6_ n7_
                 (try clear hb)
                 (try clear hb2)
                 (try clear hk)
                 (try clear hi)
                 refine hK.out _ _ ⟨(blk_cell BK440.out 0).trans rfl, (blk_cell BK440.out 1).trans rfl, (blk_cell BK440.out 2).trans rfl, (blk_cell BK440.out 3).trans rfl, (blk_cell BK440.out 4).trans rfl, (blk_cell BK440.out 5).trans rfl, (blk_cell BK440.out 6).trans rfl, (blk_cell BK440.out 7).trans rfl, (blk_cell BK371.out 0).trans rfl, (blk_cell BK371.out 1).trans rfl, (blk_cell BK371.out 2).trans rfl, (blk_cell BK371.out 3).trans rfl, (blk_cell BK371.out 4).trans rfl, (blk_cell BK371.out 5).trans rfl, (blk_cell BK371.out 6).trans rfl, (blk_cell BK371.out 7).trans rfl, (blk_cell BK420.out 0).trans rfl, (blk_cell BK420.out 1).trans rfl, (blk_cell BK420.out 2).trans rfl, (blk_cell BK420.out 3).trans rfl, (blk_cell BK420.out 4).trans rfl, (blk_cell BK420.out 5).trans rfl, (blk_cell BK420.out 6).trans rfl, (blk_cell BK420.out 7).trans rfl, (blk_cell BK420.out 8).trans rfl⟩ (fun hHeld => ?_)
                 clear hK K
                 refine normS_ 96 ?_
                 refine pureS_ 11 97 ?_
                 refine pureS_ 12 98 ?_
                 refine pureS_ 13 99 ?_
                 refine pureS_ 15 101 ?_
                 refine takeS_ 14 100 ?_
                 refine takeS_ 16 102 ?_
                 refine pureS_ 17 103 ?_
                 refine pureS_ 18 104 ?_
                 refine pureS_ 19 105 ?_
                 refine pureS_ 20 106 ?_
                 refine one_ (i := 21) (N := some 107) #[true, true, true, true, true, true, true, true, true, true, true, true, true, true, true, true, true, true, true, true, true, true, false, false] rfl rfl (one_of HT_.out (by kernel_rfl)) (by decide) (fun K hK => ?_)
                 refine goes_ Tryz.func10 (by kernel_rfl) rfl #[] (by rfl) rfl rfl (by (try simp only [List.map_toArray, List.map_cons, List.map_nil]); first | done | rfl | (simp only [List.length_drop, List.length_take]; rfl)) ?_
                 with_reducible refine (thwartlaw08_alive.calls kj13  t452 _ ⟨HTB.out.below belA_⟩ HT.out A51.out).mono ?_
                 rintro e w81 ⟨rfl, hb⟩
                 refine ⟨_, rfl, ?_⟩
                 have n0_ := Aside0.mk (Kd.R_below (by (with_reducible repeat (first | apply Kd.R_alloc | apply Kd.R_drewN | apply Kd.R_drew)); exact HO_3.out) hb)
                 have n1_ := Aside0.mk (Kd.R_below (by (with_reducible repeat (first | apply Kd.R_alloc | apply Kd.R_drewN | apply Kd.R_drew)); exact HO_5.out) hb)
                 have n2_ := Aside0.mk (Kd.R_below (by (with_reducible repeat (first | apply Kd.R_alloc | apply Kd.R_drewN | apply Kd.R_drew)); exact HO438.out) hb)
                 have n3_ := Aside0.mk (Kd.V_below (by (with_reducible repeat (first | apply Kd.V_alloc | apply Kd.V_drewN | apply Kd.V_drew)); exact HO450.out) hb)
                 have n4_ := Aside0.mk (blkB_ BK371.out hb)
                 have n5_ := Aside0.mk (blkB_ BK420.out hb)
                 have n6_ := Aside0.mk (blkB_ BK440.out hb)
                 have n7_ := Aside0.mk (bstep_ hb)
                 clear HO_3
                 clear HO_5
                 clear HO438
                 clear HO450
                 clear BK371
                 clear BK420
                 clear BK440
                 clear HB
                 have HO_3 := n0_
                 have HO_5 := n1_
                 have HO438 := n2_
                 have HO450 := n3_
                 have BK371 := n4_
                 have BK420 := n5_
                 have BK440 := n6_
                 have HB := n7_
                 clear n0_ n1_ n2_ n3_ n4_ n5_ n6_ n7_
                 (try clear hb)
                 (try clear hb2)
                 (try clear hk)
                 (try clear hi)
                 refine hK.out _ _ ⟨(blk_cell BK440.out 0).trans rfl, (blk_cell BK440.out 1).trans rfl, (blk_cell BK440.out 2).trans rfl, (blk_cell BK440.out 3).trans rfl, (blk_cell BK440.out 4).trans rfl, (blk_cell BK440.out 5).trans rfl, (blk_cell BK440.out 6).trans rfl, (blk_cell BK440.out 7).trans rfl, (blk_cell BK371.out 0).trans rfl, (blk_cell BK371.out 1).trans rfl, (blk_cell BK371.out 2).trans rfl, (blk_cell BK371.out 3).trans rfl, (blk_cell BK371.out 4).trans rfl, (blk_cell BK371.out 5).trans rfl, (blk_cell BK371.out 6).trans rfl, (blk_cell BK371.out 7).trans rfl, (blk_cell BK420.out 0).trans rfl, (blk_cell BK420.out 1).trans rfl, (blk_cell BK420.out 2).trans rfl, (blk_cell BK420.out 3).trans rfl, (blk_cell BK420.out 4).trans rfl, (blk_cell BK420.out 5).trans rfl, (blk_cell BK420.out 6).trans rfl, (blk_cell BK420.out 7).trans rfl, (blk_cell BK420.out 8).trans rfl⟩ (fun hHeld => ?_)
                 clear hK K
                 refine normS_ 107 ?_
                 refine pureS_ 22 108 ?_
                 refine pureS_ 23 2 ?_
                 refine done_ (done_of HT_.out (by kernel_rfl)) ?_
                 try go_wp2
                 go_ret
                 exact ⟨by first | rfl | (simp [errW_none, errW_some] <;> rfl) | (simp only [← hji34, ← hji39]; first | rfl | (simp [errW_none, errW_some] <;> rfl)) | (simp [*, errW_none, errW_some] <;> rfl), by repeat (first | (with_reducible first | exact HB.out | apply below_alloc | apply pw_below_drewN | apply below_drew1 | refine below_set ?_ GE371.out | refine below_set ?_ GE420.out | refine below_set ?_ GE440.out) | exact HB.out)⟩
                ·rw [if_neg c50] at H
                 have c50b0 : (t416 == (l0_7.length : Int)) = false := beq_eq_false_iff_ne.mpr c50
                 have c50b1 : (t416 != (l0_7.length : Int)) = true := bne_iff_ne.mpr c50
                 exact absurd (H.trans (congrArg some HT.out)) (by simp)
               ·replace c49 := Bool.eq_false_iff.mpr c49
                subst c49
                have H1 := H; rw [if_neg (show ¬ (false = true) by decide)] at H1
                clear H
                have H := H1
                clear H1
                exact absurd (H.trans (congrArg some HT.out)) (by simp)
              ·rw [if_neg c46] at H
               have c46b0 : (t439 == 0) = false := beq_eq_false_iff_ne.mpr c46
               have c46b1 : (t439 != 0) = true := bne_iff_ne.mpr c46
               exact absurd (H.trans (congrArg some HT.out)) (by simp)
             ·rw [if_neg c45] at H
              have c45b0 : (t419 == 0) = false := beq_eq_false_iff_ne.mpr c45
              have c45b1 : (t419 != 0) = true := bne_iff_ne.mpr c45
              exact absurd (H.trans (congrArg some HT.out)) (by simp)
            ·rw [if_neg c43] at H
             exact absurd H (by simp)
           ·rw [if_neg c42] at H
            exact absurd H (by simp)
          ·rw [if_neg c41] at H
           exact absurd H (by simp)
         ·rw [if_neg c40] at H
          exact absurd H (by simp)
        ·rw [if_neg c37] at H
         exact absurd H (by simp)
       ·rw [if_neg c36] at H
        exact absurd H (by simp)
      ·rw [if_neg c35] at H
       exact absurd H (by simp)
  ·rw [if_neg c11] at H
   have c11b0 : (t387 == 0) = false := beq_eq_false_iff_ne.mpr c11
   have c11b1 : (t387 != 0) = true := bne_iff_ne.mpr c11
   by_cases c192 : (t384.length : Int) = 0
   ·rw [if_pos c192] at H
    have c192b0 : ((t384.length : Int) == 0) = true := beq_iff_eq.mpr c192
    have c192b1 : ((t384.length : Int) != 0) = false := bne_eq_false_iff_eq.mpr c192
    clear c192
    replace H := Option.bind_eq_some_iff.mp H
    obtain ⟨t388, A1930, H⟩ := H
    try dsimp only at H
    have A193 := Aside0.mk A1930
    clear A1930
    obtain rfl := Option.some.inj H
    go_enter Tryz.func5, Tryz.ntmps5
    go_wp2_with (first | ((with_reducible refine gate_dst (N := 1) rfl ?_); (try (refine gate_guard (by rfl) ?_; dsimp only)); refine boxA_ 1 45 #[.string a0_0, .int .i64 a0_1, .int .i64 a0_2, .int .i64 a0_3, .int .i64 a0_4, .int .i64 a0_5, .string a0_6, .slice A0_7 l0_7.length c0_7] ?_; intro gb371 hg w194 hbox hb; have n0_ := Aside0.mk (bstep_ hb); have n1_ := Aside0.mk (hbox); have n2_ := Aside0.mk ((by rw [hg]; exact bsize_ : w.heap.size ≤ gb371)); have n3_ := Aside0.mk ((by rw [hg]; exact bsize_ : w.heap.size ≤ gb371)); clear HB; have HB := n0_; have BK371 := n1_; have GW371 := n2_; have GE371 := n3_; clear n0_ n1_ n2_ n3_; clear hb hbox hg; obtain ⟨hcz195_0, hcz195_1, hcz195_2, hcz195_3, hcz195_4, hcz195_5, hcz195_6, hcz195_7, hfz195_0, hfz195_1, hfz195_2, hfz195_3, hfz195_4, hfz195_5, hfz195_6, hfz195_7⟩ := blk_all8 BK371.out) | ((with_reducible refine gate_callee (f := 15) rfl ?_); refine goesA_ (some 12) Tryz.func15 #[.agg #[.string a0_0, .int .i64 a0_1, .int .i64 a0_2, .int .i64 a0_3, .int .i64 a0_4, .int .i64 a0_5, .string a0_6, .slice A0_7 l0_7.length c0_7]] ?_; (with_reducible refine (thwartlaw08_far.calls a0_0 a0_1 a0_2 a0_3 a0_4 a0_5 a0_6 _ _ l0_7 false _ ?side1 ?side2 A2.out).mono ?_); (case side1 => repeat (first | exact (Kd.C_below HR0_7.out HB.out) | (with_reducible refine Kd.C_alloc ?_ _) | (with_reducible refine Kd.C_drewN ?_ _) | (with_reducible refine Kd.C_drew ?_))); (case side2 => exact HC0_7.out); rintro e w196 ⟨rfl, hb⟩; refine ⟨_, rfl, ?_⟩; have n0_ := Aside0.mk (blkB_ BK371.out hb); have n1_ := Aside0.mk (bstep_ hb); clear BK371; clear HB; have BK371 := n0_; have HB := n1_; clear n0_ n1_; (try clear hb); (try clear hb2); (try clear hk); (try clear hi); obtain ⟨hcz197_0, hcz197_1, hcz197_2, hcz197_3, hcz197_4, hcz197_5, hcz197_6, hcz197_7, hfz197_0, hfz197_1, hfz197_2, hfz197_3, hfz197_4, hfz197_5, hfz197_6, hfz197_7⟩ := blk_all8 BK371.out) | ((with_reducible refine gate_callee (f := 13) rfl ?_); refine goesA_ (some 16) Tryz.func13 #[.agg #[.string a0_0, .int .i64 a0_1, .int .i64 a0_2, .int .i64 a0_3, .int .i64 a0_4, .int .i64 a0_5, .string a0_6, .slice A0_7 l0_7.length c0_7]] ?_; (with_reducible refine (thwartlaw08_theirs.calls a0_0 a0_1 a0_2 a0_3 a0_4 a0_5 a0_6 (fun k_ => k_ < w.heap.size) _ _ l0_7 t374 t375 t376 t377 t378 t379 t380 t381 _ ?side1 A9.out).mono ?_); (case side1 => exact Kd.V_mk HC0_7.out (Kd.F_below (Kd.C_F (Kd.heap_int .u8) HR0_7.out) belA_)); rintro e w198 ⟨v382, rfl, ho0, hb⟩; refine ⟨_, rfl, ?_⟩; have n0_ := Aside0.mk (Kd.V_lower (Kd.V_mono (ok' := fun k_ => k_ ≠ gb371) ho0 (fun k_ hk_ => Or.elim hk_ (fun hs_ => fun e_ => Nat.not_le.2 hs_ (by rw [e_]; exact GW371.out)) (fun hn_ => (Kd.freshB (g := gb371) (o := .cells #[.string a0_0, .int .i64 a0_1, .int .i64 a0_2, .int .i64 a0_3, .int .i64 a0_4, .int .i64 a0_5, .string a0_6, .slice A0_7 l0_7.length c0_7] 45 (0, 0)) (by (with_reducible repeat (first | refine blk_drewN ?_ _ | refine blk_drew ?_ | refine blk_alloc ?_ _)); exact BK371.out) k_ hn_)))) bsize_); have n1_ := Aside0.mk (blkB_ BK371.out hb); have n2_ := Aside0.mk (bstep_ hb); clear BK371; clear HB; have HO383 := n0_; have BK371 := n1_; have HB := n2_; clear n0_ n1_ n2_; (try clear hb); (try clear hb2); (try clear hk); (try clear hi); (try clear ho0); obtain ⟨Ao199, co199, eo199⟩ := Kd.V_slice HO383.out; subst eo199) | ((with_reducible refine gate_callee (f := 16) rfl ?_); refine goesA_ (some 17) Tryz.func16 #[.agg #[.string t374, .int .i64 t375, .int .i64 t376, .int .i64 t377, .int .i64 t378, .int .i64 t379, .string t380, .slice Ao199 t381.length co199]] ?_; (with_reducible refine (memb_Lay.calls k t374 t375 t376 t377 t378 t379 t380 _ _ t381 t384 t387 _ ⟨HTB.out.below belA_⟩ ?side1 ?side2 A10.out).mono ?_); (case side1 => repeat (first | exact (Kd.V_reads' HO383.out).2.2 | (with_reducible refine Kd.C_alloc ?_ _) | (with_reducible refine Kd.C_drewN ?_ _) | (with_reducible refine Kd.C_drew ?_))); (case side2 => exact (Kd.V_reads' HO383.out).2.1); rintro e w200 ⟨v385, rfl, ho0, hb⟩; refine ⟨_, rfl, ?_⟩; have n0_ := Aside0.mk (Kd.V_elder' (by (with_reducible repeat (first | apply Kd.V_alloc | apply Kd.V_drewN | apply Kd.V_drew)); exact HO383.out) (Kd.R_base ho0) hb); have n1_ := Aside0.mk (Kd.R_lower ho0 bsize_); have n2_ := Aside0.mk (blkB_ BK371.out hb); have n3_ := Aside0.mk (bstep_ hb); clear HO383; clear BK371; clear HB; have HO383 := n0_; have HO386 := n1_; have BK371 := n2_; have HB := n3_; clear n0_ n1_ n2_ n3_; (try clear hb); (try clear hb2); (try clear hk); (try clear hi); (try clear ho0); obtain ⟨Ao201, co201, eo201⟩ := Kd.R_slice HO386.out; subst eo201) | (go_at_call 10; (with_reducible refine (thwartlaw08_alive.calls k  t388 _ ⟨HTB.out.below belA_⟩ HT.out A193.out).mono ?_); rintro e w202 ⟨rfl, hb⟩; have n0_ := Aside0.mk (Kd.V_below (by (with_reducible repeat (first | apply Kd.V_alloc | apply Kd.V_drewN | apply Kd.V_drew)); exact HO383.out) hb); have n1_ := Aside0.mk (Kd.R_below (by (with_reducible repeat (first | apply Kd.R_alloc | apply Kd.R_drewN | apply Kd.R_drew)); exact HO386.out) hb); have n2_ := Aside0.mk (blkB_ BK371.out hb); have n3_ := Aside0.mk (bstep_ hb); clear HO383; clear HO386; clear BK371; clear HB; have HO383 := n0_; have HO386 := n1_; have BK371 := n2_; have HB := n3_; clear n0_ n1_ n2_ n3_; (try clear hb); (try clear hb2); (try clear hk); (try clear hi)))
    go_ret
    exact finA_
   ·rw [if_neg c192] at H
    have c192b0 : ((t384.length : Int) == 0) = false := beq_eq_false_iff_ne.mpr c192
    have c192b1 : ((t384.length : Int) != 0) = true := bne_iff_ne.mpr c192
    have c192b2 : ¬ (t384 = []) := fun h_ => c192 (by rw [h_]; rfl)
    exact absurd (H.trans (congrArg some HT.out)) (by simp)
end Go.Proofs.YtjidenkhgeoaiaaGreatDoor.P

/- The pure statement of MembWhole: what the printed function tells. -/
namespace Go.Proofs.YtjidenkhgeoaiaaGreatDoor.P
open Go.RowKit Go.Proofs.YtjidenkhgeoaiaaGreatDoorW.PrintWords
def thwartlaw08_MembWhole.Pure : Prop := ∀ (a0_0 : ByteArray) (a0_1 : Int) (a0_2 : Int) (a0_3 : Int) (a0_4 : Int) (a0_5 : Int) (a0_6 : ByteArray) (l0_7 : List Int), (a0_0.size ≤ 9223372036854775807) → ((Lit.int .i64 a0_1).wf = true) → ((Lit.int .i64 a0_2).wf = true) → ((Lit.int .i64 a0_3).wf = true) → ((Lit.int .i64 a0_4).wf = true) → ((Lit.int .i64 a0_5).wf = true) → (a0_6.size ≤ 9223372036854775807) → (l0_7.length ≤ 9223372036854775807 ∧ ∀ y ∈ l0_7, (Lit.int .u8 y).wf = true) → ∃ k, thwartlaw08_MembWhole.f k a0_0 a0_1 a0_2 a0_3 a0_4 a0_5 a0_6 l0_7 = some true
end Go.Proofs.YtjidenkhgeoaiaaGreatDoor.P

/- Plain facts on kinds and types. -/
namespace Go.Proofs.YtjidenkhgeoaiaaGreatDoor.Q8
open Go.RowKit Go.Proofs.YtjidenkhgeoaiaaGreatDoor.P Go.Proofs.YtjidenkhgeoaiaaGreatDoorW.PrintWords Go.Proofs.YtjidenkhgeoaiaaGreatDoorW.PrintLast Go.Proofs.YtjidenkhgeoaiaaGreatDoorW.PrintMore Go.Proofs.YtjidenkhgeoaiaaGreatDoor.Hand
set_option linter.unusedVariables false
set_option linter.unusedSimpArgs false
theorem up {α : Type} {f : Nat → Option α} (hm : ∀ k, LeO (f k) (f (k + 1))) {a b : Nat} (hab : a ≤ b) {v : α} (h : f a = some v) : f b = some v := by
  obtain ⟨d, rfl⟩ : ∃ d, b = a + d := ⟨b - a, by omega⟩
  clear hab
  induction d with
  | zero => exact h
  | succ d ih => exact hm _ _ ih
end Go.Proofs.YtjidenkhgeoaiaaGreatDoor.Q8

/- The probe of layer 8 answers true. -/
namespace Go.Proofs.YtjidenkhgeoaiaaGreatDoor.Q8
open Go.RowKit Go.Proofs.YtjidenkhgeoaiaaGreatDoor.P Go.Proofs.YtjidenkhgeoaiaaGreatDoor.Hand Go.Proofs.YtjidenkhgeoaiaaGreatDoorW.PrintWords Go.Proofs.YtjidenkhgeoaiaaGreatDoorW.PrintLast
theorem alive8 : thwartlaw08_alive.f 2000 = some true := by decide +kernel
theorem alive8_k (k : Nat) (hk : 2000 ≤ k) : thwartlaw08_alive.f k = some true := up (f := thwartlaw08_alive.f) thwartlaw08_alive.mono hk alive8
end Go.Proofs.YtjidenkhgeoaiaaGreatDoor.Q8

/- Plain facts on lists of bytes, for the pure statements. -/
namespace Go.Proofs.YtjidenkhgeoaiaaGreatDoor.Q
open Go.RowKit Go.Proofs.YtjidenkhgeoaiaaGreatDoorW.PrintWords Go.Proofs.YtjidenkhgeoaiaaGreatDoorW.PrintLast Go.Proofs.YtjidenkhgeoaiaaGreatDoorW.PrintMore Go.Proofs.YtjidenkhgeoaiaaGreatDoor.Hand

theorem ext_list (a b : ByteArray) (h : a.data.toList = b.data.toList) : a = b := by
  cases a; cases b; simp only [ByteArray.mk.injEq]; exact Array.toList_inj.1 h
theorem toL (s : ByteArray) : s.toList = s.data.toList := Lib.toList_data s
theorem szL (s : ByteArray) : s.size = s.data.toList.length := Lib.size_eq s
theorem extL (s : ByteArray) (a b : Nat) : (s.extract a b).data.toList = (s.data.toList.drop a).take (b - a) := Lib.extract_data s a b
theorem appL (s t : ByteArray) : (s ++ t).data.toList = s.data.toList ++ t.data.toList := by
  rw [ByteArray.data_append, Array.toList_append]
theorem numsL (xs : List Int) : (strOfNums xs).data.toList = Lib.bytesOf xs := rfl
theorem nums_bytes (s : ByteArray) : strOfNums (bytesOf s) = s := by
  apply ext_list
  rw [numsL]
  simp [Lib.bytesOf, bytesOf, List.map_map, Function.comp_def]
theorem bytes_bytes (s : ByteArray) : Lib.bytesOf (bytesOf s) = s.data.toList := by
  simp [Lib.bytesOf, bytesOf, List.map_map, Function.comp_def]

/-- Where a byte first stands. -/
theorem index_none (l : List UInt8) (c : UInt8) : Lib.indexByte l c < 0 ↔ c ∉ l := by
  induction l with
  | nil => simp [Lib.indexByte]
  | cons b l ih =>
    have hg := Lib.indexByte_ge l c
    unfold Lib.indexByte
    by_cases e : (b == c) = true
    · rw [if_pos e]; simp at e; subst e; simp
    · rw [if_neg e]
      have e' : ¬ c = b := fun h => e (by simp [h])
      by_cases e2 : (Lib.indexByte l c == -1) = true
      · rw [if_pos e2]
        have : Lib.indexByte l c < 0 := by have := beq_iff_eq.1 e2; omega
        simp [e', ih.1 this]
      · rw [if_neg e2]
        have h3 : ¬ Lib.indexByte l c < 0 := by have : ¬ Lib.indexByte l c = -1 := fun h => e2 (by simp [h]); omega
        have h4 : c ∈ l := Decidable.byContradiction fun h => h3 (ih.2 h)
        simp [h4]; omega
theorem index_some (l : List UInt8) (c : UInt8) (h : 0 ≤ Lib.indexByte l c) : ∃ pre post, l = pre ++ c :: post ∧ c ∉ pre ∧ (Lib.indexByte l c).toNat = pre.length := by
  induction l with
  | nil => simp [Lib.indexByte] at h
  | cons b l ih =>
    have hg := Lib.indexByte_ge l c
    unfold Lib.indexByte at h ⊢
    by_cases e : (b == c) = true
    · rw [if_pos e]; simp at e; subst e; exact ⟨[], l, rfl, by simp, rfl⟩
    · rw [if_neg e] at h ⊢
      by_cases e2 : (Lib.indexByte l c == -1) = true
      · rw [if_pos e2] at h; omega
      · rw [if_neg e2] at h ⊢
        have h3 : ¬ Lib.indexByte l c = -1 := fun h => e2 (by simp [h])
        obtain ⟨pre, post, h4, h5, h6⟩ := ih (by omega)
        refine ⟨b :: pre, post, by rw [h4]; rfl, ?_, by simp only [List.length_cons]; omega⟩
        simp only [List.mem_cons, not_or]
        exact ⟨fun h => e (by simp [h]), h5⟩
theorem index_at (pre post : List UInt8) (c : UInt8) (h : c ∉ pre) : Lib.indexByte (pre ++ c :: post) c = pre.length := by
  induction pre with
  | nil => simp [Lib.indexByte]
  | cons b l ih =>
    simp only [List.mem_cons, not_or] at h
    have e : ¬ (b == c) = true := fun e => h.1 (by simpa using (beq_iff_eq.1 e).symm)
    show Lib.indexByte (b :: (l ++ c :: post)) c = _
    unfold Lib.indexByte
    rw [if_neg e, ih h.2, if_neg (by rw [beq_iff_eq]; omega)]
    simp

/-- What strf.Split comes to. -/
def Good (p : ByteArray) (r : ByteArray × ByteArray × Bool) : Prop :=
  (r.2.2 = false ∧ r.1 = ⟨#[]⟩ ∧ r.2.1 = ⟨#[]⟩) ∨
  (r.2.2 = true ∧ p.data.toList = r.1.data.toList ++ 47 :: r.2.1.data.toList ∧ r.1.data.toList ≠ [] ∧ r.1.size ≤ 155 ∧ r.2.1.data.toList ≠ [] ∧ r.2.1.size ≤ 100)
theorem splitLoop_good (p : ByteArray) (d : Nat) : ∀ (k j : Nat), j ≤ p.size → p.size - j = d → d < k → ∃ r, splitLoop k p j = some r ∧ Good p r := by
  induction d using Nat.strongRecOn with
  | _ d ih =>
    intro k j hj hd hk
    obtain ⟨k, rfl⟩ : ∃ m, k = m + 1 := ⟨k - 1, by omega⟩
    simp only [splitLoop]
    have hL : (p.extract j p.size).data.toList = p.data.toList.drop j := Lib.extract_to_end p j
    by_cases h0 : Lib.indexByte (p.extract j p.size).data.toList 47 < 0
    · rw [if_pos h0]; exact ⟨_, rfl, .inl ⟨rfl, rfl, rfl⟩⟩
    · rw [if_neg h0]
      obtain ⟨a, b, e1, e2, e3⟩ := index_some _ _ (Int.not_lt.1 h0)
      rw [e3]
      rw [hL] at e1
      have hlen : p.size - j = a.length + 1 + b.length := by
        rw [szL]; have := congrArg List.length e1; simp only [List.length_drop, List.length_append, List.length_cons] at this; omega
      obtain ⟨q, hq⟩ : ∃ q, q = p.data.toList.take j ++ a := ⟨_, rfl⟩
      have hp : p.data.toList = q ++ 47 :: b := by
        rw [hq, List.append_assoc, ← e1, List.take_append_drop]
      have hj2 : q.length = j + a.length := by rw [hq, List.length_append, List.length_take, ← szL]; omega
      have hpre : (p.extract 0 (j + a.length)).data.toList = q := by
        rw [extL, List.drop_zero, Nat.sub_zero, ← hj2, hp, List.take_left' rfl]
      have hnm : (p.extract (j + a.length + 1) p.size).data.toList = b := by
        rw [Lib.extract_to_end, ← hj2, hp, ← List.drop_drop, List.drop_left' rfl]; rfl
      generalize p.extract 0 (j + a.length) = pre at *
      generalize p.extract (j + a.length + 1) p.size = nm at *
      by_cases c1 : 155 < pre.size ∨ nm.toList = []
      · rw [if_pos c1]; exact ⟨_, rfl, .inl ⟨rfl, rfl, rfl⟩⟩
      · rw [if_neg c1]
        by_cases c2 : pre.toList ≠ [] ∧ nm.size ≤ 100
        · rw [if_pos c2]
          refine ⟨_, rfl, .inr ⟨rfl, by rw [hpre, hnm]; exact hp, by rw [← toL]; exact c2.1, Nat.le_of_not_lt fun h => c1 (.inl h), by rw [← toL]; exact fun h => c1 (.inr h), c2.2⟩⟩
        · rw [if_neg c2]
          exact ih (p.size - (j + a.length + 1)) (by omega) k (j + a.length + 1) (by omega) rfl (by omega)
theorem split_good (p : ByteArray) (h : p.size ≤ 140737488351232) : ∃ r, strf_Split.f p = some r ∧ ((r = (⟨#[]⟩, p, true) ∧ p.data.toList ≠ [] ∧ p.size ≤ 100) ∨ ((p.data.toList = [] ∨ 100 < p.size) ∧ Good p r)) := by
  unfold strf_Split.f
  by_cases c : p.toList ≠ [] ∧ p.size ≤ 100
  · rw [if_pos c]; exact ⟨_, rfl, .inl ⟨rfl, by rw [← toL]; exact c.1, c.2⟩⟩
  · rw [if_neg c, if_pos (by omega)]
    obtain ⟨r, h1, h2⟩ := splitLoop_good p p.size (p.size + 2) 0 (Nat.zero_le _) (by omega) (by omega)
    refine ⟨r, h1, .inr ⟨?_, h2⟩⟩
    rw [← toL]
    by_cases e : p.toList = []
    · exact .inl e
    · exact .inr (Nat.lt_of_not_le fun h => c ⟨e, h⟩)
end Go.Proofs.YtjidenkhgeoaiaaGreatDoor.Q
