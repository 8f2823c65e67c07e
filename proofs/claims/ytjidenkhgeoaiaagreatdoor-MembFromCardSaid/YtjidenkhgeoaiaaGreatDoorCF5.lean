import Derived.Test.YtjidenkhgeoaiaaGreatDoorCF4
/- Contract, by hand, of head.Parse. -/
namespace Go.Proofs.YtjidenkhgeoaiaaGreatDoor.Hand
open Go.RowKit Go.Proofs.YtjidenkhgeoaiaaGreatDoor.P Go.Proofs.YtjidenkhgeoaiaaGreatDoorW Go.Proofs.YtjidenkhgeoaiaaGreatDoorW.PrintWords Go.Proofs.YtjidenkhgeoaiaaGreatDoorW.PrintLast Go.Proofs.YtjidenkhgeoaiaaGreatDoorW.PrintMore
set_option linter.unusedVariables false
set_option linter.unusedSimpArgs false

def magicL : List UInt8 := [117, 115, 116, 97, 114, 0, 48, 48]
abbrev Head := ByteArray × ByteArray × Int × Int × Int × Int × Int × Int × ByteArray × Int
def noHead (e : Int) : Head := ((⟨#[]⟩ : ByteArray), (⟨#[]⟩ : ByteArray), 0, 0, 0, 0, 0, 0, (⟨#[]⟩ : ByteArray), e)
def cutAt (l : List Int) (a b : Nat) : List Int := (l.take b).drop a
theorem drawn_below {w w' : World} (h : Drawn0 w w') : Below w.heap.size w w' := by
  obtain ⟨n, rfl⟩ := h
  exact pw_below_drewN (Below.refl _ _) n
def typeOf (l : List Int) : Int := if rd l 156 = 0 then 48 else rd l 156
/-- What the fields are, if the sum and the magic are right. -/
def head_fields (l : List Int) : Option (ByteArray × ByteArray × ByteArray × Int × Int × Int × Int × Int × Int) :=
  (strf_Get.f (cutAt l 345 500)).bind fun p => (strf_Get.f (cutAt l 0 100)).bind fun n => (strf_Get.f (cutAt l 157 257)).bind fun k => (numf_Get.f (cutAt l 100 108)).bind fun m => (numf_Get.f (cutAt l 108 116)).bind fun u => (numf_Get.f (cutAt l 116 124)).bind fun g => (numf_Get.f (cutAt l 124 136)).bind fun s => (numf_Get.f (cutAt l 136 148)).bind fun t =>
    some (p.1, n.1, k.1, m.1, u.1, g.1, s.1, t.1, (firstE (firstE (firstE (firstE (firstE (firstE (firstE (firstE 0 p.2) n.2) k.2) m.2) u.2) g.2) s.2) t.2))
def head_Parse.f (k : Nat) (l : List Int) : Option Head :=
  (hsum_Check.f k l).bind fun e => if e = 0 then (if l.length = 512 then (if Lib.hasPrefix (Lib.bytesOf (l.drop 257)) magicL = true then
    (head_fields l).bind fun (p, n, k, m, u, g, s, t, e) => if e = 0 then (head_IsType.f (typeOf l)).bind fun b => (if b = true then (head_below.f p n m u g t s (typeOf l) k).bind fun c => (if c = true then some (noHead 10) else some (p, n, m, u, g, t, s, typeOf l, k, 0)) else some (noHead 11)) else some (noHead e)
    else some (noHead 3)) else none) else some (noHead e)

set_option maxHeartbeats 16000000 in
set_option maxRecDepth 1000000 in
theorem head_Parse.calls (k : Nat) (A0 : Option Addr) (c0 : Nat) (l0 : List Int) (r1 r2 : ByteArray) (r3 r4 r5 r6 r7 r8 : Int) (r9 : ByteArray) (r10 : Int) (w : World) (hr0 : Kd.C (Kd.int .u8) w A0 l0.length l0) (hc0 : l0.length ≤ c0) (h : head_Parse.f k l0 = some (r1, r2, r3, r4, r5, r6, r7, r8, r9, r10)) :
    Calls Tryz.prog 18 #[.slice A0 l0.length c0] w fun e w' => e = .returned (.tuple #[.agg #[.string r1, .string r2, .int .i64 r3, .int .i64 r4, .int .i64 r5, .int .i64 r6, .int .i64 r7, .int .u8 r8, .string r9], .int .i64 r10]) ∧ Below w.heap.size w w' := by
  have hu57 := Tryz.underlying43
  have HR0 := Aside0.mk hr0
  have HC0 := Aside0.mk hc0
  obtain ⟨e0, hK, h⟩ := Option.bind_eq_some_iff.1 h
  have HK := Aside0.mk hK
  clear hK hr0 hc0
  by_cases c0_ : ¬ e0 = 0
  · rw [if_neg c0_] at h
    unfold noHead at h
    simp only [Option.some.injEq, Prod.mk.injEq] at h
    obtain ⟨rfl, rfl, rfl, rfl, rfl, rfl, rfl, rfl, rfl, rfl⟩ := h
    have b1 : (e0 != 0) = true := bne_iff_ne.2 c0_
    clear c0_
    go_enter Tryz.func18, Tryz.ntmps18
    go_wp2_with (first | ((with_reducible refine gate_dst (N := 2) rfl ?_); refine box_event ?hg (N := 2) ?hd (cs := #[.string (⟨#[]⟩ : ByteArray), .string (⟨#[]⟩ : ByteArray), .int .i64 0, .int .i64 0, .int .i64 0, .int .i64 0, .int .i64 0, .int .u8 0, .string (⟨#[]⟩ : ByteArray)]) (t := 43) ?hr ?_; (case hd => rfl); (case hg => rfl); (case hr => first | (go_simp; done) | (go_simp; rfl)); intro gg hg w1 hbox hb; have HB := Aside0.mk hb; have BG := Aside0.mk hbox; have GG := Aside0.mk (Nat.le_of_eq hg.symm); clear hb hbox hg) | (go_at_call 34; (with_reducible refine (hsum_Check.calls k _ c0 l0 e0 _ (Kd.C_below HR0.out HB.out) HC0.out HK.out).mono ?_); rintro e w2 ⟨rfl, hb⟩; have n0_ := Aside0.mk (below_step HB.out hb); have n1_ := Aside0.mk (blk_below BG.out hb); clear HB BG hb; have HB := n0_; have BG := n1_; clear n0_ n1_; obtain ⟨hg0, hg1, hg2, hg3, hg4, hg5, hg6, hg7, hg8, fg0, fg1, fg2, fg3, fg4, fg5, fg6, fg7, fg8⟩ := blk_all9 BG.out))
    refine bodyPost_ret (results_ct rfl _ _ gg 43 #[.string (⟨#[]⟩ : ByteArray), .string (⟨#[]⟩ : ByteArray), .int .i64 0, .int .i64 0, .int .i64 0, .int .i64 0, .int .i64 0, .int .u8 0, .string (⟨#[]⟩ : ByteArray)] (0, 0) _ rfl (blk_set (blk_set (blk_set (blk_set (blk_set (blk_set (blk_set (blk_set (blk_set BG.out 0 (.string (⟨#[]⟩ : ByteArray))) 1 (.string (⟨#[]⟩ : ByteArray))) 2 (.int .i64 0)) 3 (.int .i64 0)) 4 (.int .i64 0)) 5 (.int .i64 0)) 6 (.int .i64 0)) 7 (.int .u8 0)) 8 (.string (⟨#[]⟩ : ByteArray))) Tryz.underlying43 rfl (by kernel_rfl)) rfl ?_
    exact ⟨rfl, (below_set (below_set (below_set (below_set (below_set (below_set (below_set (below_set (below_set HB.out GG.out) GG.out) GG.out) GG.out) GG.out) GG.out) GG.out) GG.out) GG.out)⟩
  have c0_' := Decidable.of_not_not c0_
  subst c0_'
  clear c0_
  rw [if_pos rfl] at h
  split at h
  case isFalse => cases h
  rename_i hlen
  have HL := Aside0.mk hlen
  clear hlen
  obtain ⟨i5, hi5, hz5, hs5, hb5⟩ := info_parts info5
  obtain ⟨A7, hcut, hA7, hC7⟩ := print_drop_of (P := Tryz.prog) (Value.int .u8) (0 : Int) 31 5 .i64 Tryz.underlying31 hi5 hs5 A0 c0 l0 257 (by decide) (by have := HL.out; omega) HC0.out
  have HR7 := Aside0.mk (Kd.C_of_reads (h1 := fun _ => rfl) (hA7 w (Kd.reads_of_C (enc := Value.int .u8) (d := (0 : Int)) (h1 := fun _ => rfl) HR0.out)))
  have HC7 := Aside0.mk hC7
  rw [show ((257 : Int)).toNat = 257 from rfl] at hcut HR7 HC7
  have HP : Aside0 (∃ m, m = l0.drop 257) := ⟨_, rfl⟩
  clear hA7 hC7 hz5 hs5 hb5
  generalize hm7 : l0.drop 257 = m7 at hcut HR7 HC7 h
  clear hm7 HP
  have kc := fun W : World => Lib.run_convert_bytes_const (P := Tryz.prog) W 31 5 #[.int .u8 117, .int .u8 115, .int .u8 116, .int .u8 97, .int .u8 114, .int .u8 0, .int .u8 48, .int .u8 48] 8 8 Tryz.underlying31 Tryz.underlying5
  have hml : Lib.bytesOf ([117, 115, 116, 97, 114, 0, 48, 48] : List Int) = magicL := rfl
  by_cases cx : Lib.hasPrefix (Lib.bytesOf m7) magicL = true
  case neg =>
    rw [if_neg cx] at h
    unfold noHead at h
    simp only [Option.some.injEq, Prod.mk.injEq] at h
    obtain ⟨rfl, rfl, rfl, rfl, rfl, rfl, rfl, rfl, rfl, rfl⟩ := h
    have HX := Aside0.mk (show Lib.hasPrefix (Lib.bytesOf m7) (Lib.bytesOf ([117, 115, 116, 97, 114, 0, 48, 48] : List Int)) = false by rw [hml]; simpa using cx)
    clear cx hml
    go_enter Tryz.func18, Tryz.ntmps18
    go_wp2_with (first | ((with_reducible refine gate_dst (N := 2) rfl ?_); refine box_event ?hg (N := 2) ?hd (cs := #[.string (⟨#[]⟩ : ByteArray), .string (⟨#[]⟩ : ByteArray), .int .i64 0, .int .i64 0, .int .i64 0, .int .i64 0, .int .i64 0, .int .u8 0, .string (⟨#[]⟩ : ByteArray)]) (t := 43) ?hr ?_; (case hd => rfl); (case hg => rfl); (case hr => first | (go_simp; done) | (go_simp; rfl)); intro gg hg w1 hbox hb; have HB := Aside0.mk hb; have BG := Aside0.mk hbox; have GG := Aside0.mk (Nat.le_of_eq hg.symm); clear hb hbox hg) | (go_at_call 34; (with_reducible refine (hsum_Check.calls k _ c0 l0 0 _ (Kd.C_below HR0.out HB.out) HC0.out HK.out).mono ?_); rintro e w2 ⟨rfl, hb⟩; have n0_ := Aside0.mk (below_step HB.out hb); have n1_ := Aside0.mk (blk_below BG.out hb); clear HB BG hb; have HB := n0_; have BG := n1_; clear n0_ n1_; obtain ⟨hg0, hg1, hg2, hg3, hg4, hg5, hg6, hg7, hg8, fg0, fg1, fg2, fg3, fg4, fg5, fg6, fg7, fg8⟩ := blk_all9 BG.out) | (go_at_call 35; (with_reducible refine (hasPrefix_C A7 _ (c0 - 257) 8 8 m7 ([117, 115, 116, 97, 114, 0, 48, 48] : List Int) false _ HC7.out rfl ?side1 ?side2 ?side3).mono ?_); (case side1 => refine Kd.C_alloc ?_ _; exact Kd.C_below HR7.out HB.out); (case side2 => exact (C_lit w2 ([117, 115, 116, 97, 114, 0, 48, 48] : List Int) (by decide) 5 (8, 9))); (case side3 => exact HX.out); rintro e w3 ⟨rfl, rfl⟩; have n0_ := Aside0.mk (below_alloc HB.out (.cells #[.int .u8 117, .int .u8 115, .int .u8 116, .int .u8 97, .int .u8 114, .int .u8 0, .int .u8 48, .int .u8 48] 5 (8, 9))); have n1_ := Aside0.mk (blk_alloc BG.out (.cells #[.int .u8 117, .int .u8 115, .int .u8 116, .int .u8 97, .int .u8 114, .int .u8 0, .int .u8 48, .int .u8 48] 5 (8, 9))); clear HB BG; have HB := n0_; have BG := n1_; clear n0_ n1_; obtain ⟨hg0, hg1, hg2, hg3, hg4, hg5, hg6, hg7, hg8, fg0, fg1, fg2, fg3, fg4, fg5, fg6, fg7, fg8⟩ := blk_all9 BG.out))
    refine bodyPost_ret (results_ct rfl _ _ gg 43 #[.string (⟨#[]⟩ : ByteArray), .string (⟨#[]⟩ : ByteArray), .int .i64 0, .int .i64 0, .int .i64 0, .int .i64 0, .int .i64 0, .int .u8 0, .string (⟨#[]⟩ : ByteArray)] (0, 0) _ rfl (blk_set (blk_set (blk_set (blk_set (blk_set (blk_set (blk_set (blk_set (blk_set BG.out 0 (.string (⟨#[]⟩ : ByteArray))) 1 (.string (⟨#[]⟩ : ByteArray))) 2 (.int .i64 0)) 3 (.int .i64 0)) 4 (.int .i64 0)) 5 (.int .i64 0)) 6 (.int .i64 0)) 7 (.int .u8 0)) 8 (.string (⟨#[]⟩ : ByteArray))) Tryz.underlying43 rfl (by kernel_rfl)) rfl ?_
    exact ⟨rfl, (below_set (below_set (below_set (below_set (below_set (below_set (below_set (below_set (below_set HB.out GG.out) GG.out) GG.out) GG.out) GG.out) GG.out) GG.out) GG.out) GG.out)⟩
  rw [if_pos cx] at h
  have HX := Aside0.mk (show Lib.hasPrefix (Lib.bytesOf m7) (Lib.bytesOf ([117, 115, 116, 97, 114, 0, 48, 48] : List Int)) = true by rw [hml]; exact cx)
  clear cx hml
  obtain ⟨⟨p1, n1, k1, m1, u1, g1, s1, t1, E8⟩, hF, h⟩ := Option.bind_eq_some_iff.1 h
  unfold head_fields at hF
  obtain ⟨⟨p_, p2⟩, hp, hF⟩ := Option.bind_eq_some_iff.1 hF
  unfold cutAt at hp
  have Hp := Aside0.mk hp
  clear hp
  obtain ⟨⟨n_, n2⟩, hn, hF⟩ := Option.bind_eq_some_iff.1 hF
  unfold cutAt at hn
  have Hn := Aside0.mk hn
  clear hn
  obtain ⟨⟨k_, k2⟩, hk, hF⟩ := Option.bind_eq_some_iff.1 hF
  unfold cutAt at hk
  have Hk := Aside0.mk hk
  clear hk
  obtain ⟨⟨m_, m2⟩, hm, hF⟩ := Option.bind_eq_some_iff.1 hF
  unfold cutAt at hm
  have Hm := Aside0.mk hm
  clear hm
  obtain ⟨⟨u_, u2⟩, hu, hF⟩ := Option.bind_eq_some_iff.1 hF
  unfold cutAt at hu
  have Hu := Aside0.mk hu
  clear hu
  obtain ⟨⟨g_, g2⟩, hg, hF⟩ := Option.bind_eq_some_iff.1 hF
  unfold cutAt at hg
  have Hg := Aside0.mk hg
  clear hg
  obtain ⟨⟨s_, s2⟩, hs, hF⟩ := Option.bind_eq_some_iff.1 hF
  unfold cutAt at hs
  have Hs := Aside0.mk hs
  clear hs
  obtain ⟨⟨t_, t2⟩, ht, hF⟩ := Option.bind_eq_some_iff.1 hF
  unfold cutAt at ht
  have Ht := Aside0.mk ht
  clear ht
  simp only [Option.some.injEq, Prod.mk.injEq] at hF
  obtain ⟨rfl, rfl, rfl, rfl, rfl, rfl, rfl, rfl, hE8⟩ := hF
  have HE8 := Aside0.mk hE8
  clear hE8
  dsimp only at h
  have hl156 : 156 < l0.length := by have := HL.out; omega
  obtain ⟨ab, ao, ea, hx156⟩ := C_at HR0.out 156 hl156
  cases ea
  rw [show l0[156] = rd l0 156 by unfold rd; simp [List.getD_eq_getElem?_getD, hl156]] at hx156
  clear hl156
  unfold typeOf at h
  generalize rd l0 156 = x7 at h hx156
  have HH := Aside0.mk h
  clear h
  have q156 : (156 : Int) < (l0.length : Int) := by have := HL.out; omega
  have Q156 := Aside0.mk q156
  replace q156 := eq_true q156
  go_enter Tryz.func18, Tryz.ntmps18
  go_wp2_with (first | ((with_reducible refine gate_dst (N := 2) rfl ?_); refine box_event ?hg (N := 2) ?hd (cs := #[.string (⟨#[]⟩ : ByteArray), .string (⟨#[]⟩ : ByteArray), .int .i64 0, .int .i64 0, .int .i64 0, .int .i64 0, .int .i64 0, .int .u8 0, .string (⟨#[]⟩ : ByteArray)]) (t := 43) ?hr ?_; (case hd => rfl); (case hg => rfl); (case hr => first | (go_simp; done) | (go_simp; rfl)); intro gg hg w1 hbox hb; have HB := Aside0.mk hb; have BG := Aside0.mk hbox; have GG := Aside0.mk (Nat.le_of_eq hg.symm); clear hb hbox hg) | (go_at_call 34; (with_reducible refine (hsum_Check.calls k _ c0 l0 0 _ (Kd.C_below HR0.out HB.out) HC0.out HK.out).mono ?_); rintro e w2 ⟨rfl, hb⟩; have n0_ := Aside0.mk (below_step HB.out hb); have n1_ := Aside0.mk (blk_below BG.out hb); clear HB BG hb; have HB := n0_; have BG := n1_; clear n0_ n1_; skip) | (go_at_call 35; (with_reducible refine (hasPrefix_C A7 _ (c0 - 257) 8 8 m7 ([117, 115, 116, 97, 114, 0, 48, 48] : List Int) true _ HC7.out rfl ?side1 ?side2 ?side3).mono ?_); (case side1 => refine Kd.C_alloc ?_ _; exact Kd.C_below HR7.out HB.out); (case side2 => exact (C_lit w2 ([117, 115, 116, 97, 114, 0, 48, 48] : List Int) (by decide) 5 (8, 9))); (case side3 => exact HX.out); rintro e w3 ⟨rfl, rfl⟩; have n0_ := Aside0.mk (below_alloc HB.out (.cells #[.int .u8 117, .int .u8 115, .int .u8 116, .int .u8 97, .int .u8 114, .int .u8 0, .int .u8 48, .int .u8 48] 5 (8, 9))); have n1_ := Aside0.mk (blk_alloc BG.out (.cells #[.int .u8 117, .int .u8 115, .int .u8 116, .int .u8 97, .int .u8 114, .int .u8 0, .int .u8 48, .int .u8 48] 5 (8, 9))); clear HB BG; have HB := n0_; have BG := n1_; clear n0_ n1_; have hx7 := (HB.out.cell (World.block_lt_of_cell? w _ hx156)).trans hx156) | ((with_reducible refine gate_dst (N := 22) rfl ?_); refine box_event ?hg (N := 22) ?hd (cs := #[.slice (some ⟨ab, ao, none⟩) l0.length c0, .int .i64 0]) (t := 75) ?hr ?_; (case hd => rfl); (case hg => rfl); (case hr => first | (go_simp; done) | (go_simp; rfl)); intro gr hg w4 hbox hb; have n0_ := Aside0.mk (below_step HB.out hb); have n1_ := Aside0.mk (blk_below BG.out hb); have GR := Aside0.mk (Nat.le_trans (below_size HB.out) (Nat.le_of_eq hg.symm)); have BR := Aside0.mk hbox; clear HB BG hb hbox hg; have HB := n0_; have BG := n1_; clear n0_ n1_; have hy7 := (HB.out.cell (World.block_lt_of_cell? w _ hx156)).trans hx156) | ((with_reducible refine gate_dst (N := 6) rfl ?_); refine box_event ?hg (N := 6) ?hd (cs := #[.string (⟨#[]⟩ : ByteArray), .string (⟨#[]⟩ : ByteArray), .int .i64 0, .int .i64 0, .int .i64 0, .int .i64 0, .int .i64 0, .int .u8 0, .string (⟨#[]⟩ : ByteArray)]) (t := 43) ?hr ?_; (case hd => rfl); (case hg => rfl); (case hr => first | (go_simp; done) | (go_simp; rfl)); intro gh hg w5 hbox hb; have n0_ := Aside0.mk (below_step HB.out hb); have n1_ := Aside0.mk (blk_below BG.out hb); have n2_ := Aside0.mk (blk_below BR.out hb); have GH := Aside0.mk (Nat.le_trans (below_size HB.out) (Nat.le_of_eq hg.symm)); have NGH : Aside0 (gg ≠ gh) := ⟨by have := blk_lt BG.out; omega⟩; have BH := Aside0.mk hbox; clear HB BG BR hb hbox hg; have HB := n0_; have BG := n1_; have BR := n2_; clear n0_ n1_ n2_; have NRH : Aside0 (gr ≠ gh) := ⟨blk_ne BR.out BH.out (by decide)⟩; have NRG : Aside0 (gg ≠ gr) := ⟨blk_ne BG.out BR.out (by decide)⟩; obtain ⟨hh0, hh1, hh2, hh3, hh4, hh5, hh6, hh7, hh8, fh0, fh1, fh2, fh3, fh4, fh5, fh6, fh7, fh8⟩ := blk_all9 BH.out))
  go_at_call 36
  with_reducible refine (reader_text.calls (some ⟨ab, ao, none⟩) c0 gr l0 345 155 0 p2 p_ _ (by decide) (by decide) (by have := HL.out; omega) (by have := HL.out; omega) HC0.out ?sb (Kd.C_below HR0.out ?sB) (by rw [show ((345 : Int) + 155).toNat = 500 from rfl, show (345 : Int).toNat = 345 from rfl]; exact Hp.out)).mono ?_
  case sb => exact (blk_far (blk_far (blk_far (blk_far (blk_far (blk_far (blk_far (blk_far (blk_far BR.out (p := ⟨gh, 0, none⟩) NRH.out (.string (⟨#[]⟩ : ByteArray))) (p := ⟨gh, 1, none⟩) NRH.out (.string (⟨#[]⟩ : ByteArray))) (p := ⟨gh, 2, none⟩) NRH.out (.int .i64 0)) (p := ⟨gh, 3, none⟩) NRH.out (.int .i64 0)) (p := ⟨gh, 4, none⟩) NRH.out (.int .i64 0)) (p := ⟨gh, 5, none⟩) NRH.out (.int .i64 0)) (p := ⟨gh, 6, none⟩) NRH.out (.int .i64 0)) (p := ⟨gh, 7, none⟩) NRH.out (.int .u8 x7)) (p := ⟨gh, 8, none⟩) NRH.out (.string (⟨#[]⟩ : ByteArray)))
  case sB => exact (below_set (j := 8) (v := .string (⟨#[]⟩ : ByteArray)) (below_set (j := 7) (v := .int .u8 x7) (below_set (j := 6) (v := .int .i64 0) (below_set (j := 5) (v := .int .i64 0) (below_set (j := 4) (v := .int .i64 0) (below_set (j := 3) (v := .int .i64 0) (below_set (j := 2) (v := .int .i64 0) (below_set (j := 1) (v := .string (⟨#[]⟩ : ByteArray)) (below_set (j := 0) (v := .string (⟨#[]⟩ : ByteArray)) HB.out GH.out) GH.out) GH.out) GH.out) GH.out) GH.out) GH.out) GH.out) GH.out)
  rintro en w6 ⟨rfl, hbr, hn⟩
  have n0_ := Aside0.mk (Below.near (below_set (j := 8) (v := .string (⟨#[]⟩ : ByteArray)) (below_set (j := 7) (v := .int .u8 x7) (below_set (j := 6) (v := .int .i64 0) (below_set (j := 5) (v := .int .i64 0) (below_set (j := 4) (v := .int .i64 0) (below_set (j := 3) (v := .int .i64 0) (below_set (j := 2) (v := .int .i64 0) (below_set (j := 1) (v := .string (⟨#[]⟩ : ByteArray)) (below_set (j := 0) (v := .string (⟨#[]⟩ : ByteArray)) HB.out GH.out) GH.out) GH.out) GH.out) GH.out) GH.out) GH.out) GH.out) GH.out) (below_size (below_set (j := 8) (v := .string (⟨#[]⟩ : ByteArray)) (below_set (j := 7) (v := .int .u8 x7) (below_set (j := 6) (v := .int .i64 0) (below_set (j := 5) (v := .int .i64 0) (below_set (j := 4) (v := .int .i64 0) (below_set (j := 3) (v := .int .i64 0) (below_set (j := 2) (v := .int .i64 0) (below_set (j := 1) (v := .string (⟨#[]⟩ : ByteArray)) (below_set (j := 0) (v := .string (⟨#[]⟩ : ByteArray)) HB.out GH.out) GH.out) GH.out) GH.out) GH.out) GH.out) GH.out) GH.out) GH.out)) GR.out hn)
  have n1_ := Aside0.mk (hn.blk (blk_far (blk_far (blk_far (blk_far (blk_far (blk_far (blk_far (blk_far (blk_far BG.out (p := ⟨gh, 0, none⟩) NGH.out (.string (⟨#[]⟩ : ByteArray))) (p := ⟨gh, 1, none⟩) NGH.out (.string (⟨#[]⟩ : ByteArray))) (p := ⟨gh, 2, none⟩) NGH.out (.int .i64 0)) (p := ⟨gh, 3, none⟩) NGH.out (.int .i64 0)) (p := ⟨gh, 4, none⟩) NGH.out (.int .i64 0)) (p := ⟨gh, 5, none⟩) NGH.out (.int .i64 0)) (p := ⟨gh, 6, none⟩) NGH.out (.int .i64 0)) (p := ⟨gh, 7, none⟩) NGH.out (.int .u8 x7)) (p := ⟨gh, 8, none⟩) NGH.out (.string (⟨#[]⟩ : ByteArray))) NRG.out)
  have n2_ : Aside0 (w6.heap[gh]? = some (.cells #[.string (⟨#[]⟩ : ByteArray), .string (⟨#[]⟩ : ByteArray), .int .i64 0, .int .i64 0, .int .i64 0, .int .i64 0, .int .i64 0, .int .u8 x7, .string (⟨#[]⟩ : ByteArray)] 43 (0, 0))) := ⟨hn.blk (blk_set (blk_set (blk_set (blk_set (blk_set (blk_set (blk_set (blk_set (blk_set BH.out 0 (.string (⟨#[]⟩ : ByteArray))) 1 (.string (⟨#[]⟩ : ByteArray))) 2 (.int .i64 0)) 3 (.int .i64 0)) 4 (.int .i64 0)) 5 (.int .i64 0)) 6 (.int .i64 0)) 7 (.int .u8 x7)) 8 (.string (⟨#[]⟩ : ByteArray))) NRH.out.symm⟩
  have n3_ : Aside0 (w6.heap[gr]? = some (.cells #[.slice (some ⟨ab, ao, none⟩) l0.length c0, .int .i64 (firstE 0 p2)] 75 (0, 0))) := ⟨hbr⟩
  clear HB BG BH BR hbr hn
  have HB := n0_
  have BG := n1_
  have BH := n2_
  have BR := n3_
  clear n0_ n1_ n2_ n3_
  have hs := (blk_cell BH.out 0).trans (rfl : _ = some (.string (⟨#[]⟩ : ByteArray) : Value))
  have fs := blk_frozen BH.out 0
  go_wp2_with fail
  clear hs fs
  go_at_call 36
  with_reducible refine (reader_text.calls (some ⟨ab, ao, none⟩) c0 gr l0 0 100 (firstE 0 p2) n2 n_ _ (by decide) (by decide) (by have := HL.out; omega) (by have := HL.out; omega) HC0.out ?sb (Kd.C_below HR0.out ?sB) (by rw [show ((0 : Int) + 100).toNat = 100 from rfl, show (0 : Int).toNat = 0 from rfl]; exact Hn.out)).mono ?_
  case sb => exact (blk_far BR.out (p := ⟨gh, 0, none⟩) NRH.out (.string p_))
  case sB => exact (below_set (j := 0) (v := .string p_) HB.out GH.out)
  rintro en w7 ⟨rfl, hbr, hn⟩
  have n0_ := Aside0.mk (Below.near (below_set (j := 0) (v := .string p_) HB.out GH.out) (below_size (below_set (j := 0) (v := .string p_) HB.out GH.out)) GR.out hn)
  have n1_ := Aside0.mk (hn.blk (blk_far BG.out (p := ⟨gh, 0, none⟩) NGH.out (.string p_)) NRG.out)
  have n2_ : Aside0 (w7.heap[gh]? = some (.cells #[.string p_, .string (⟨#[]⟩ : ByteArray), .int .i64 0, .int .i64 0, .int .i64 0, .int .i64 0, .int .i64 0, .int .u8 x7, .string (⟨#[]⟩ : ByteArray)] 43 (0, 0))) := ⟨hn.blk (blk_set BH.out 0 (.string p_)) NRH.out.symm⟩
  have n3_ : Aside0 (w7.heap[gr]? = some (.cells #[.slice (some ⟨ab, ao, none⟩) l0.length c0, .int .i64 (firstE (firstE 0 p2) n2)] 75 (0, 0))) := ⟨hbr⟩
  clear HB BG BH BR hbr hn
  have HB := n0_
  have BG := n1_
  have BH := n2_
  have BR := n3_
  clear n0_ n1_ n2_ n3_
  have hs := (blk_cell BH.out 1).trans (rfl : _ = some (.string (⟨#[]⟩ : ByteArray) : Value))
  have fs := blk_frozen BH.out 1
  go_wp2_with fail
  clear hs fs
  go_at_call 36
  with_reducible refine (reader_text.calls (some ⟨ab, ao, none⟩) c0 gr l0 157 100 (firstE (firstE 0 p2) n2) k2 k_ _ (by decide) (by decide) (by have := HL.out; omega) (by have := HL.out; omega) HC0.out ?sb (Kd.C_below HR0.out ?sB) (by rw [show ((157 : Int) + 100).toNat = 257 from rfl, show (157 : Int).toNat = 157 from rfl]; exact Hk.out)).mono ?_
  case sb => exact (blk_far BR.out (p := ⟨gh, 1, none⟩) NRH.out (.string n_))
  case sB => exact (below_set (j := 1) (v := .string n_) HB.out GH.out)
  rintro en w8 ⟨rfl, hbr, hn⟩
  have n0_ := Aside0.mk (Below.near (below_set (j := 1) (v := .string n_) HB.out GH.out) (below_size (below_set (j := 1) (v := .string n_) HB.out GH.out)) GR.out hn)
  have n1_ := Aside0.mk (hn.blk (blk_far BG.out (p := ⟨gh, 1, none⟩) NGH.out (.string n_)) NRG.out)
  have n2_ : Aside0 (w8.heap[gh]? = some (.cells #[.string p_, .string n_, .int .i64 0, .int .i64 0, .int .i64 0, .int .i64 0, .int .i64 0, .int .u8 x7, .string (⟨#[]⟩ : ByteArray)] 43 (0, 0))) := ⟨hn.blk (blk_set BH.out 1 (.string n_)) NRH.out.symm⟩
  have n3_ : Aside0 (w8.heap[gr]? = some (.cells #[.slice (some ⟨ab, ao, none⟩) l0.length c0, .int .i64 (firstE (firstE (firstE 0 p2) n2) k2)] 75 (0, 0))) := ⟨hbr⟩
  clear HB BG BH BR hbr hn
  have HB := n0_
  have BG := n1_
  have BH := n2_
  have BR := n3_
  clear n0_ n1_ n2_ n3_
  have hs := (blk_cell BH.out 8).trans (rfl : _ = some (.string (⟨#[]⟩ : ByteArray) : Value))
  have fs := blk_frozen BH.out 8
  go_wp2_with fail
  clear hs fs
  go_at_call 37
  with_reducible refine (reader_number.calls (some ⟨ab, ao, none⟩) c0 gr l0 100 8 (firstE (firstE (firstE 0 p2) n2) k2) m2 m_ _ (by decide) (by decide) (by have := HL.out; omega) (by have := HL.out; omega) HC0.out ?sb (Kd.C_below HR0.out ?sB) (by rw [show ((100 : Int) + 8).toNat = 108 from rfl, show (100 : Int).toNat = 100 from rfl]; exact Hm.out)).mono ?_
  case sb => exact (blk_far BR.out (p := ⟨gh, 8, none⟩) NRH.out (.string k_))
  case sB => exact (below_set (j := 8) (v := .string k_) HB.out GH.out)
  rintro en w9 ⟨rfl, hbr, hn⟩
  have n0_ := Aside0.mk (Below.near (below_set (j := 8) (v := .string k_) HB.out GH.out) (below_size (below_set (j := 8) (v := .string k_) HB.out GH.out)) GR.out hn)
  have n1_ := Aside0.mk (hn.blk (blk_far BG.out (p := ⟨gh, 8, none⟩) NGH.out (.string k_)) NRG.out)
  have n2_ : Aside0 (w9.heap[gh]? = some (.cells #[.string p_, .string n_, .int .i64 0, .int .i64 0, .int .i64 0, .int .i64 0, .int .i64 0, .int .u8 x7, .string k_] 43 (0, 0))) := ⟨hn.blk (blk_set BH.out 8 (.string k_)) NRH.out.symm⟩
  have n3_ : Aside0 (w9.heap[gr]? = some (.cells #[.slice (some ⟨ab, ao, none⟩) l0.length c0, .int .i64 (firstE (firstE (firstE (firstE 0 p2) n2) k2) m2)] 75 (0, 0))) := ⟨hbr⟩
  clear HB BG BH BR hbr hn
  have HB := n0_
  have BG := n1_
  have BH := n2_
  have BR := n3_
  clear n0_ n1_ n2_ n3_
  have hs := (blk_cell BH.out 2).trans (rfl : _ = some (.int .i64 0 : Value))
  have fs := blk_frozen BH.out 2
  go_wp2_with fail
  clear hs fs
  go_at_call 37
  with_reducible refine (reader_number.calls (some ⟨ab, ao, none⟩) c0 gr l0 108 8 (firstE (firstE (firstE (firstE 0 p2) n2) k2) m2) u2 u_ _ (by decide) (by decide) (by have := HL.out; omega) (by have := HL.out; omega) HC0.out ?sb (Kd.C_below HR0.out ?sB) (by rw [show ((108 : Int) + 8).toNat = 116 from rfl, show (108 : Int).toNat = 108 from rfl]; exact Hu.out)).mono ?_
  case sb => exact (blk_far BR.out (p := ⟨gh, 2, none⟩) NRH.out (.int .i64 m_))
  case sB => exact (below_set (j := 2) (v := .int .i64 m_) HB.out GH.out)
  rintro en w10 ⟨rfl, hbr, hn⟩
  have n0_ := Aside0.mk (Below.near (below_set (j := 2) (v := .int .i64 m_) HB.out GH.out) (below_size (below_set (j := 2) (v := .int .i64 m_) HB.out GH.out)) GR.out hn)
  have n1_ := Aside0.mk (hn.blk (blk_far BG.out (p := ⟨gh, 2, none⟩) NGH.out (.int .i64 m_)) NRG.out)
  have n2_ : Aside0 (w10.heap[gh]? = some (.cells #[.string p_, .string n_, .int .i64 m_, .int .i64 0, .int .i64 0, .int .i64 0, .int .i64 0, .int .u8 x7, .string k_] 43 (0, 0))) := ⟨hn.blk (blk_set BH.out 2 (.int .i64 m_)) NRH.out.symm⟩
  have n3_ : Aside0 (w10.heap[gr]? = some (.cells #[.slice (some ⟨ab, ao, none⟩) l0.length c0, .int .i64 (firstE (firstE (firstE (firstE (firstE 0 p2) n2) k2) m2) u2)] 75 (0, 0))) := ⟨hbr⟩
  clear HB BG BH BR hbr hn
  have HB := n0_
  have BG := n1_
  have BH := n2_
  have BR := n3_
  clear n0_ n1_ n2_ n3_
  have hs := (blk_cell BH.out 3).trans (rfl : _ = some (.int .i64 0 : Value))
  have fs := blk_frozen BH.out 3
  go_wp2_with fail
  clear hs fs
  go_at_call 37
  with_reducible refine (reader_number.calls (some ⟨ab, ao, none⟩) c0 gr l0 116 8 (firstE (firstE (firstE (firstE (firstE 0 p2) n2) k2) m2) u2) g2 g_ _ (by decide) (by decide) (by have := HL.out; omega) (by have := HL.out; omega) HC0.out ?sb (Kd.C_below HR0.out ?sB) (by rw [show ((116 : Int) + 8).toNat = 124 from rfl, show (116 : Int).toNat = 116 from rfl]; exact Hg.out)).mono ?_
  case sb => exact (blk_far BR.out (p := ⟨gh, 3, none⟩) NRH.out (.int .i64 u_))
  case sB => exact (below_set (j := 3) (v := .int .i64 u_) HB.out GH.out)
  rintro en w11 ⟨rfl, hbr, hn⟩
  have n0_ := Aside0.mk (Below.near (below_set (j := 3) (v := .int .i64 u_) HB.out GH.out) (below_size (below_set (j := 3) (v := .int .i64 u_) HB.out GH.out)) GR.out hn)
  have n1_ := Aside0.mk (hn.blk (blk_far BG.out (p := ⟨gh, 3, none⟩) NGH.out (.int .i64 u_)) NRG.out)
  have n2_ : Aside0 (w11.heap[gh]? = some (.cells #[.string p_, .string n_, .int .i64 m_, .int .i64 u_, .int .i64 0, .int .i64 0, .int .i64 0, .int .u8 x7, .string k_] 43 (0, 0))) := ⟨hn.blk (blk_set BH.out 3 (.int .i64 u_)) NRH.out.symm⟩
  have n3_ : Aside0 (w11.heap[gr]? = some (.cells #[.slice (some ⟨ab, ao, none⟩) l0.length c0, .int .i64 (firstE (firstE (firstE (firstE (firstE (firstE 0 p2) n2) k2) m2) u2) g2)] 75 (0, 0))) := ⟨hbr⟩
  clear HB BG BH BR hbr hn
  have HB := n0_
  have BG := n1_
  have BH := n2_
  have BR := n3_
  clear n0_ n1_ n2_ n3_
  have hs := (blk_cell BH.out 4).trans (rfl : _ = some (.int .i64 0 : Value))
  have fs := blk_frozen BH.out 4
  go_wp2_with fail
  clear hs fs
  go_at_call 37
  with_reducible refine (reader_number.calls (some ⟨ab, ao, none⟩) c0 gr l0 124 12 (firstE (firstE (firstE (firstE (firstE (firstE 0 p2) n2) k2) m2) u2) g2) s2 s_ _ (by decide) (by decide) (by have := HL.out; omega) (by have := HL.out; omega) HC0.out ?sb (Kd.C_below HR0.out ?sB) (by rw [show ((124 : Int) + 12).toNat = 136 from rfl, show (124 : Int).toNat = 124 from rfl]; exact Hs.out)).mono ?_
  case sb => exact (blk_far BR.out (p := ⟨gh, 4, none⟩) NRH.out (.int .i64 g_))
  case sB => exact (below_set (j := 4) (v := .int .i64 g_) HB.out GH.out)
  rintro en w12 ⟨rfl, hbr, hn⟩
  have n0_ := Aside0.mk (Below.near (below_set (j := 4) (v := .int .i64 g_) HB.out GH.out) (below_size (below_set (j := 4) (v := .int .i64 g_) HB.out GH.out)) GR.out hn)
  have n1_ := Aside0.mk (hn.blk (blk_far BG.out (p := ⟨gh, 4, none⟩) NGH.out (.int .i64 g_)) NRG.out)
  have n2_ : Aside0 (w12.heap[gh]? = some (.cells #[.string p_, .string n_, .int .i64 m_, .int .i64 u_, .int .i64 g_, .int .i64 0, .int .i64 0, .int .u8 x7, .string k_] 43 (0, 0))) := ⟨hn.blk (blk_set BH.out 4 (.int .i64 g_)) NRH.out.symm⟩
  have n3_ : Aside0 (w12.heap[gr]? = some (.cells #[.slice (some ⟨ab, ao, none⟩) l0.length c0, .int .i64 (firstE (firstE (firstE (firstE (firstE (firstE (firstE 0 p2) n2) k2) m2) u2) g2) s2)] 75 (0, 0))) := ⟨hbr⟩
  clear HB BG BH BR hbr hn
  have HB := n0_
  have BG := n1_
  have BH := n2_
  have BR := n3_
  clear n0_ n1_ n2_ n3_
  have hs := (blk_cell BH.out 6).trans (rfl : _ = some (.int .i64 0 : Value))
  have fs := blk_frozen BH.out 6
  go_wp2_with fail
  clear hs fs
  go_at_call 37
  with_reducible refine (reader_number.calls (some ⟨ab, ao, none⟩) c0 gr l0 136 12 (firstE (firstE (firstE (firstE (firstE (firstE (firstE 0 p2) n2) k2) m2) u2) g2) s2) t2 t_ _ (by decide) (by decide) (by have := HL.out; omega) (by have := HL.out; omega) HC0.out ?sb (Kd.C_below HR0.out ?sB) (by rw [show ((136 : Int) + 12).toNat = 148 from rfl, show (136 : Int).toNat = 136 from rfl]; exact Ht.out)).mono ?_
  case sb => exact (blk_far BR.out (p := ⟨gh, 6, none⟩) NRH.out (.int .i64 s_))
  case sB => exact (below_set (j := 6) (v := .int .i64 s_) HB.out GH.out)
  rintro en w13 ⟨rfl, hbr, hn⟩
  have n0_ := Aside0.mk (Below.near (below_set (j := 6) (v := .int .i64 s_) HB.out GH.out) (below_size (below_set (j := 6) (v := .int .i64 s_) HB.out GH.out)) GR.out hn)
  have n1_ := Aside0.mk (hn.blk (blk_far BG.out (p := ⟨gh, 6, none⟩) NGH.out (.int .i64 s_)) NRG.out)
  have n2_ : Aside0 (w13.heap[gh]? = some (.cells #[.string p_, .string n_, .int .i64 m_, .int .i64 u_, .int .i64 g_, .int .i64 0, .int .i64 s_, .int .u8 x7, .string k_] 43 (0, 0))) := ⟨hn.blk (blk_set BH.out 6 (.int .i64 s_)) NRH.out.symm⟩
  have n3_ : Aside0 (w13.heap[gr]? = some (.cells #[.slice (some ⟨ab, ao, none⟩) l0.length c0, .int .i64 (firstE (firstE (firstE (firstE (firstE (firstE (firstE (firstE 0 p2) n2) k2) m2) u2) g2) s2) t2)] 75 (0, 0))) := ⟨hbr⟩
  clear HB BG BH BR hbr hn
  have HB := n0_
  have BG := n1_
  have BH := n2_
  have BR := n3_
  clear n0_ n1_ n2_ n3_
  have n0_ : Aside0 (w13.heap[gr]? = some (.cells #[.slice (some ⟨ab, ao, none⟩) l0.length c0, .int .i64 E8] 75 (0, 0))) := ⟨by rw [← HE8.out]; exact BR.out⟩
  clear BR
  have BR := n0_
  clear n0_
  by_cases cz : x7 = 0
  · subst cz
    have h := HH.out
    clear HH
    rw [if_pos (rfl : (0 : Int) = 0)] at h
    have hh0 := (blk_cell BH.out 0).trans (rfl : _ = some (.string p_ : Value))
    have fh0 := blk_frozen BH.out 0
    have hh1 := (blk_cell BH.out 1).trans (rfl : _ = some (.string n_ : Value))
    have fh1 := blk_frozen BH.out 1
    have hh2 := (blk_cell BH.out 2).trans (rfl : _ = some (.int .i64 m_ : Value))
    have fh2 := blk_frozen BH.out 2
    have hh3 := (blk_cell BH.out 3).trans (rfl : _ = some (.int .i64 u_ : Value))
    have fh3 := blk_frozen BH.out 3
    have hh4 := (blk_cell BH.out 4).trans (rfl : _ = some (.int .i64 g_ : Value))
    have fh4 := blk_frozen BH.out 4
    have hh5 := (blk_cell BH.out 5).trans (rfl : _ = some (.int .i64 0 : Value))
    have fh5 := blk_frozen BH.out 5
    have hh6 := (blk_cell BH.out 6).trans (rfl : _ = some (.int .i64 s_ : Value))
    have fh6 := blk_frozen BH.out 6
    have hh7 := (blk_cell BH.out 7).trans (rfl : _ = some (.int .u8 0 : Value))
    have fh7 := blk_frozen BH.out 7
    have hh8 := (blk_cell BH.out 8).trans (rfl : _ = some (.string k_ : Value))
    have fh8 := blk_frozen BH.out 8
    have hg0 := (blk_cell BG.out 0).trans (rfl : _ = some (.string (⟨#[]⟩ : ByteArray) : Value))
    have fg0 := blk_frozen BG.out 0
    have hg1 := (blk_cell BG.out 1).trans (rfl : _ = some (.string (⟨#[]⟩ : ByteArray) : Value))
    have fg1 := blk_frozen BG.out 1
    have hg2 := (blk_cell BG.out 2).trans (rfl : _ = some (.int .i64 0 : Value))
    have fg2 := blk_frozen BG.out 2
    have hg3 := (blk_cell BG.out 3).trans (rfl : _ = some (.int .i64 0 : Value))
    have fg3 := blk_frozen BG.out 3
    have hg4 := (blk_cell BG.out 4).trans (rfl : _ = some (.int .i64 0 : Value))
    have fg4 := blk_frozen BG.out 4
    have hg5 := (blk_cell BG.out 5).trans (rfl : _ = some (.int .i64 0 : Value))
    have fg5 := blk_frozen BG.out 5
    have hg6 := (blk_cell BG.out 6).trans (rfl : _ = some (.int .i64 0 : Value))
    have fg6 := blk_frozen BG.out 6
    have hg7 := (blk_cell BG.out 7).trans (rfl : _ = some (.int .u8 0 : Value))
    have fg7 := blk_frozen BG.out 7
    have hg8 := (blk_cell BG.out 8).trans (rfl : _ = some (.string (⟨#[]⟩ : ByteArray) : Value))
    have fg8 := blk_frozen BG.out 8
    have hr1 := (blk_cell BR.out 1).trans (rfl : _ = some (.int .i64 E8 : Value))
    by_cases cE : ¬ E8 = 0
    · rw [if_neg cE] at h
      unfold noHead at h
      simp only [Option.some.injEq, Prod.mk.injEq] at h
      obtain ⟨rfl, rfl, rfl, rfl, rfl, rfl, rfl, rfl, rfl, rfl⟩ := h
      have b1 : (E8 != 0) = true := bne_iff_ne.2 cE
      clear cE
      have BX := Aside0.mk (show (World.setCell (World.setCell w13 ⟨gh, 5, none⟩ (.int .i64 t_)) ⟨gh, 7, none⟩ (.int .u8 48)).heap[gg]? = some (.cells #[.string (⟨#[]⟩ : ByteArray), .string (⟨#[]⟩ : ByteArray), .int .i64 0, .int .i64 0, .int .i64 0, .int .i64 0, .int .i64 0, .int .u8 0, .string (⟨#[]⟩ : ByteArray)] 43 (0, 0)) from (blk_far (blk_far BG.out (p := ⟨gh, 5, none⟩) NGH.out (.int .i64 t_)) (p := ⟨gh, 7, none⟩) NGH.out (.int .u8 48)))
      obtain ⟨xg0, xg1, xg2, xg3, xg4, xg5, xg6, xg7, xg8, xf0, xf1, xf2, xf3, xf4, xf5, xf6, xf7, xf8⟩ := blk_all9 BX.out
      clear hg0 fg0 hh0 fh0 hg1 fg1 hh1 fh1 hg2 fg2 hh2 fh2 hg3 fg3 hh3 fh3 hg4 fg4 hh4 fh4 hg6 fg6 hh6 fh6 hg8 fg8 hh8 fh8 hg5 fg5 hg7 fg7
      go_wp2
      have n0_ := Aside0.mk (below_drew1 (show Below w.heap.size w (World.setCell (World.setCell w13 ⟨gh, 5, none⟩ (.int .i64 t_)) ⟨gh, 7, none⟩ (.int .u8 48)) from (below_set (j := 7) (v := .int .u8 48) (below_set (j := 5) (v := .int .i64 t_) HB.out GH.out) GH.out)))
      have n1_ : Aside0 ((World.drew (World.setCell (World.setCell w13 ⟨gh, 5, none⟩ (.int .i64 t_)) ⟨gh, 7, none⟩ (.int .u8 48))).heap[gg]? = some (.cells #[.string (⟨#[]⟩ : ByteArray), .string (⟨#[]⟩ : ByteArray), .int .i64 0, .int .i64 0, .int .i64 0, .int .i64 0, .int .i64 0, .int .u8 0, .string (⟨#[]⟩ : ByteArray)] 43 (0, 0))) := ⟨blk_drew BX.out⟩
      have n2_ : Aside0 ((World.drew (World.setCell (World.setCell w13 ⟨gh, 5, none⟩ (.int .i64 t_)) ⟨gh, 7, none⟩ (.int .u8 48))).heap[gr]? = some (.cells #[.slice (some ⟨ab, ao, none⟩) l0.length c0, .int .i64 E8] 75 (0, 0))) := ⟨blk_drew (blk_far (blk_far BR.out (p := ⟨gh, 5, none⟩) NRH.out (.int .i64 t_)) (p := ⟨gh, 7, none⟩) NRH.out (.int .u8 48))⟩
      clear HB BG BR BX
      have HB := n0_
      have BG := n1_
      have BR := n2_
      clear n0_ n1_ n2_ xg0 xf0 xg1 xf1 xg2 xf2 xg3 xf3 xg4 xf4 xg5 xf5 xg6 xf6 xg7 xf7 xg8 xf8
      refine start_ (n := 7) (S := fun w' => w'.cell? ⟨gr, 1, none⟩ = some (.int .i64 E8)) (ds := []) #[false, false, false, false, false, false, false] (by kernel_rfl) rfl rfl ((blk_cell BR.out 1).trans rfl) (fun hHeld => ?_)
      generalize World.drew (World.setCell (World.setCell w13 ⟨gh, 5, none⟩ (.int .i64 t_)) ⟨gh, 7, none⟩ (.int .u8 48)) = wx at HB BG BR hHeld ⊢
      obtain ⟨xg0, xg1, xg2, xg3, xg4, xg5, xg6, xg7, xg8, xf0, xf1, xf2, xf3, xf4, xf5, xf6, xf7, xf8⟩ := blk_all9 BG.out
      refine pure_ (i := 0) (N := some 65) (v := ?_) (a' := ?_) #[true, false, false, false, false, false, false] rfl rfl (by kernel_rfl) (fun _ _ _ h => h) (Or.inl ⟨by rfl, ?_⟩) ?_ ?_
      rotate_left
      · intro w'
        go_simp
        with_reducible rfl
      rotate_left
      · simp only [Act.put, List.setIfInBounds_toArray, List.set_cons_zero, List.set_cons_succ, i64_w, i32_w]
        rfl
      refine pure_ (i := 1) (N := some 66) (v := ?_) (a' := ?_) #[true, true, false, false, false, false, false] rfl rfl (by kernel_rfl) (fun _ _ _ h => h) (Or.inl ⟨by rfl, ?_⟩) ?_ ?_
      rotate_left
      · intro w'
        go_simp
        with_reducible rfl
      rotate_left
      · simp only [Act.put, List.setIfInBounds_toArray, List.set_cons_zero, List.set_cons_succ, i64_w, i32_w]
        rfl
      refine pure_ (i := 2) (N := some 67) (v := ?_) (a' := ?_) #[true, true, true, false, false, false, false] rfl rfl (by kernel_rfl) (fun _ _ _ h => h) (Or.inl ⟨by rfl, ?_⟩) ?_ ?_
      rotate_left
      · intro w'
        go_simp
        with_reducible rfl
      rotate_left
      · simp only [Act.put, List.setIfInBounds_toArray, List.set_cons_zero, List.set_cons_succ, i64_w, i32_w]
        rfl
      refine pure_ (i := 3) (N := some 68) (v := ?_) (a' := ?_) #[true, true, true, true, false, false, false] rfl rfl (by kernel_rfl) (fun _ _ _ h => h) (Or.inl ⟨by rfl, ?_⟩) ?_ ?_
      rotate_left
      · intro w'
        go_simp
        with_reducible rfl
      rotate_left
      · simp only [Act.put, List.setIfInBounds_toArray, List.set_cons_zero, List.set_cons_succ, i64_w, i32_w]
        rfl
      refine take_ (i := 4) (N := some 69) (v := ?_) (a' := ?_) #[true, true, true, true, true, false, false] rfl rfl (by kernel_rfl) (fun _ _ _ h => h) (Or.inl ⟨by rfl, ?_⟩) hHeld ?_ ?_
      rotate_left
      · intro w' s0
        go_simp
        with_reducible rfl
      rotate_left
      · simp only [Act.put, List.setIfInBounds_toArray, List.set_cons_zero, List.set_cons_succ, i64_w, i32_w]
        rfl
      refine one_ (i := 5) (N := none) #[true, true, true, true, true, true, false] rfl rfl (by kernel_rfl) (by decide) (fun K hK => ?_)
      refine skip_ (w1 := ?_) (by rfl) rfl ?_ ?_
      rotate_left
      · go_simp
        rfl
      refine hK.out _ _ ((blk_cell (blk_far (blk_far (blk_far (blk_far (blk_far (blk_far (blk_far (blk_far (blk_far BR.out (p := ⟨gg, 0, none⟩) NRG.out.symm (.string (⟨#[]⟩ : ByteArray))) (p := ⟨gg, 1, none⟩) NRG.out.symm (.string (⟨#[]⟩ : ByteArray))) (p := ⟨gg, 2, none⟩) NRG.out.symm (.int .i64 0)) (p := ⟨gg, 3, none⟩) NRG.out.symm (.int .i64 0)) (p := ⟨gg, 4, none⟩) NRG.out.symm (.int .i64 0)) (p := ⟨gg, 5, none⟩) NRG.out.symm (.int .i64 0)) (p := ⟨gg, 6, none⟩) NRG.out.symm (.int .i64 0)) (p := ⟨gg, 7, none⟩) NRG.out.symm (.int .u8 0)) (p := ⟨gg, 8, none⟩) NRG.out.symm (.string (⟨#[]⟩ : ByteArray))) 1).trans rfl) (fun hHeld => ?_)
      clear hK K
      refine pure_ (i := 6) (N := some 3) (v := ?_) (a' := ?_) #[true, true, true, true, true, true, true] rfl rfl (by kernel_rfl) (fun _ _ _ h => h) (Or.inl ⟨by rfl, ?_⟩) ?_ ?_
      rotate_left
      · intro w'
        go_simp
        with_reducible rfl
      rotate_left
      · simp only [Act.put, List.setIfInBounds_toArray, List.set_cons_zero, List.set_cons_succ, i64_w, i32_w]
        rfl
      refine done_ (by kernel_rfl) ?_
      go_wp2
      refine bodyPost_ret (results_ct rfl _ _ gg 43 #[.string (⟨#[]⟩ : ByteArray), .string (⟨#[]⟩ : ByteArray), .int .i64 0, .int .i64 0, .int .i64 0, .int .i64 0, .int .i64 0, .int .u8 0, .string (⟨#[]⟩ : ByteArray)] (0, 0) _ rfl (by have h_ := (blk_set (blk_set (blk_set (blk_set (blk_set (blk_set (blk_set (blk_set (blk_set BG.out 0 (.string (⟨#[]⟩ : ByteArray))) 1 (.string (⟨#[]⟩ : ByteArray))) 2 (.int .i64 0)) 3 (.int .i64 0)) 4 (.int .i64 0)) 5 (.int .i64 0)) 6 (.int .i64 0)) 7 (.int .u8 0)) 8 (.string (⟨#[]⟩ : ByteArray))); exact h_) Tryz.underlying43 rfl (by kernel_rfl)) rfl ?_
      exact ⟨rfl, (by repeat (first | (with_reducible first | exact HB.out | apply below_alloc | apply pw_below_drewN | apply below_drew1 | refine below_set ?_ GG.out | refine below_set ?_ GH.out) | exact HB.out))⟩
    have cE' := Decidable.of_not_not cE
    subst cE'
    clear cE
    rw [if_pos rfl] at h
    obtain ⟨b, hT, h⟩ := Option.bind_eq_some_iff.1 h
    have HT := Aside0.mk hT
    clear hT
    cases b with
    | false =>
      rw [if_neg (by decide)] at h
      unfold noHead at h
      simp only [Option.some.injEq, Prod.mk.injEq] at h
      obtain ⟨rfl, rfl, rfl, rfl, rfl, rfl, rfl, rfl, rfl, rfl⟩ := h
      go_wp2_with ((go_at_call 38; (with_reducible refine (head_IsType.calls 48 false _ HT.out).mono ?_); rintro e w14 ⟨rfl, hd⟩; have hb := drawn_below hd; have n0_ := Aside0.mk (below_step (by repeat (first | (with_reducible first | exact HB.out | apply below_alloc | apply pw_below_drewN | apply below_drew1 | refine below_set ?_ GG.out | refine below_set ?_ GH.out) | exact HB.out)) hb); have n1_ := Aside0.mk (blk_below (g := gg) (o := .cells #[.string (⟨#[]⟩ : ByteArray), .string (⟨#[]⟩ : ByteArray), .int .i64 0, .int .i64 0, .int .i64 0, .int .i64 0, .int .i64 0, .int .u8 0, .string (⟨#[]⟩ : ByteArray)] 43 (0, 0)) (by have h_ := (blk_far (blk_far BG.out (p := ⟨gh, 5, none⟩) NGH.out (.int .i64 t_)) (p := ⟨gh, 7, none⟩) NGH.out (.int .u8 48)); exact h_) hb); clear HB BG hb hd; have HB := n0_; have BG := n1_; clear n0_ n1_; obtain ⟨hg0, hg1, hg2, hg3, hg4, hg5, hg6, hg7, hg8, fg0, fg1, fg2, fg3, fg4, fg5, fg6, fg7, fg8⟩ := blk_all9 BG.out))
      refine bodyPost_ret (results_ct rfl _ _ gg 43 #[.string (⟨#[]⟩ : ByteArray), .string (⟨#[]⟩ : ByteArray), .int .i64 0, .int .i64 0, .int .i64 0, .int .i64 0, .int .i64 0, .int .u8 0, .string (⟨#[]⟩ : ByteArray)] (0, 0) _ rfl (by have h_ := (blk_set (blk_set (blk_set (blk_set (blk_set (blk_set (blk_set (blk_set (blk_set BG.out 0 (.string (⟨#[]⟩ : ByteArray))) 1 (.string (⟨#[]⟩ : ByteArray))) 2 (.int .i64 0)) 3 (.int .i64 0)) 4 (.int .i64 0)) 5 (.int .i64 0)) 6 (.int .i64 0)) 7 (.int .u8 0)) 8 (.string (⟨#[]⟩ : ByteArray))); exact h_) Tryz.underlying43 rfl (by kernel_rfl)) rfl ?_
      exact ⟨rfl, (by repeat (first | (with_reducible first | exact HB.out | apply below_alloc | apply pw_below_drewN | apply below_drew1 | refine below_set ?_ GG.out | refine below_set ?_ GH.out) | exact HB.out))⟩
    | true =>
      rw [if_pos rfl] at h
      obtain ⟨c, hB, h⟩ := Option.bind_eq_some_iff.1 h
      have HBw := Aside0.mk hB
      clear hB
      cases c with
      | true =>
        rw [if_pos rfl] at h
        unfold noHead at h
        simp only [Option.some.injEq, Prod.mk.injEq] at h
        obtain ⟨rfl, rfl, rfl, rfl, rfl, rfl, rfl, rfl, rfl, rfl⟩ := h
        go_wp2_with (first | (go_at_call 38; (with_reducible refine (head_IsType.calls 48 true _ HT.out).mono ?_); rintro e w' ⟨rfl, ⟨nd, rfl⟩⟩) | (go_at_call 39; (with_reducible refine (head_below.calls p_ n_ m_ u_ g_ t_ s_ 48 k_ true _ HBw.out).mono ?_); rintro e w14 ⟨rfl, hb⟩; have n0_ := Aside0.mk (below_step (by repeat (first | (with_reducible first | exact HB.out | apply below_alloc | apply pw_below_drewN | apply below_drew1 | refine below_set ?_ GG.out | refine below_set ?_ GH.out) | exact HB.out)) hb); have n1_ := Aside0.mk (blk_below (g := gg) (o := .cells #[.string (⟨#[]⟩ : ByteArray), .string (⟨#[]⟩ : ByteArray), .int .i64 0, .int .i64 0, .int .i64 0, .int .i64 0, .int .i64 0, .int .u8 0, .string (⟨#[]⟩ : ByteArray)] 43 (0, 0)) (by have h_ := (blk_far (blk_far BG.out (p := ⟨gh, 5, none⟩) NGH.out (.int .i64 t_)) (p := ⟨gh, 7, none⟩) NGH.out (.int .u8 48)); exact h_) hb); have n2_ := Aside0.mk (blk_below (g := gh) (o := .cells #[.string p_, .string n_, .int .i64 m_, .int .i64 u_, .int .i64 g_, .int .i64 t_, .int .i64 s_, .int .u8 48, .string k_] 43 (0, 0)) (by have h_ := (blk_set (blk_set BH.out 5 (.int .i64 t_)) 7 (.int .u8 48)); exact h_) hb); clear HB BG BH hb; have HB := n0_; have BG := n1_; have BH := n2_; clear n0_ n1_ n2_; have hg0 := (blk_cell BG.out 0).trans (rfl : _ = some (.string (⟨#[]⟩ : ByteArray) : Value)); have fg0 := blk_frozen BG.out 0; have hg1 := (blk_cell BG.out 1).trans (rfl : _ = some (.string (⟨#[]⟩ : ByteArray) : Value)); have fg1 := blk_frozen BG.out 1; have hg2 := (blk_cell BG.out 2).trans (rfl : _ = some (.int .i64 0 : Value)); have fg2 := blk_frozen BG.out 2; have hg3 := (blk_cell BG.out 3).trans (rfl : _ = some (.int .i64 0 : Value)); have fg3 := blk_frozen BG.out 3; have hg4 := (blk_cell BG.out 4).trans (rfl : _ = some (.int .i64 0 : Value)); have fg4 := blk_frozen BG.out 4; have hg5 := (blk_cell BG.out 5).trans (rfl : _ = some (.int .i64 0 : Value)); have fg5 := blk_frozen BG.out 5; have hg6 := (blk_cell BG.out 6).trans (rfl : _ = some (.int .i64 0 : Value)); have fg6 := blk_frozen BG.out 6; have hg7 := (blk_cell BG.out 7).trans (rfl : _ = some (.int .u8 0 : Value)); have fg7 := blk_frozen BG.out 7; have hg8 := (blk_cell BG.out 8).trans (rfl : _ = some (.string (⟨#[]⟩ : ByteArray) : Value)); have fg8 := blk_frozen BG.out 8; have hh0 := (blk_cell BH.out 0).trans (rfl : _ = some (.string p_ : Value)); have fh0 := blk_frozen BH.out 0; have hh1 := (blk_cell BH.out 1).trans (rfl : _ = some (.string n_ : Value)); have fh1 := blk_frozen BH.out 1; have hh2 := (blk_cell BH.out 2).trans (rfl : _ = some (.int .i64 m_ : Value)); have fh2 := blk_frozen BH.out 2; have hh3 := (blk_cell BH.out 3).trans (rfl : _ = some (.int .i64 u_ : Value)); have fh3 := blk_frozen BH.out 3; have hh4 := (blk_cell BH.out 4).trans (rfl : _ = some (.int .i64 g_ : Value)); have fh4 := blk_frozen BH.out 4; have hh5 := (blk_cell BH.out 5).trans (rfl : _ = some (.int .i64 t_ : Value)); have fh5 := blk_frozen BH.out 5; have hh6 := (blk_cell BH.out 6).trans (rfl : _ = some (.int .i64 s_ : Value)); have fh6 := blk_frozen BH.out 6; have hh7 := (blk_cell BH.out 7).trans (rfl : _ = some (.int .u8 48 : Value)); have fh7 := blk_frozen BH.out 7; have hh8 := (blk_cell BH.out 8).trans (rfl : _ = some (.string k_ : Value)); have fh8 := blk_frozen BH.out 8))
        refine bodyPost_ret (results_ct rfl _ _ gg 43 #[.string (⟨#[]⟩ : ByteArray), .string (⟨#[]⟩ : ByteArray), .int .i64 0, .int .i64 0, .int .i64 0, .int .i64 0, .int .i64 0, .int .u8 0, .string (⟨#[]⟩ : ByteArray)] (0, 0) _ rfl (by have h_ := (blk_set (blk_set (blk_set (blk_set (blk_set (blk_set (blk_set (blk_set (blk_set BG.out 0 (.string (⟨#[]⟩ : ByteArray))) 1 (.string (⟨#[]⟩ : ByteArray))) 2 (.int .i64 0)) 3 (.int .i64 0)) 4 (.int .i64 0)) 5 (.int .i64 0)) 6 (.int .i64 0)) 7 (.int .u8 0)) 8 (.string (⟨#[]⟩ : ByteArray))); exact h_) Tryz.underlying43 rfl (by kernel_rfl)) rfl ?_
        exact ⟨rfl, (by repeat (first | (with_reducible first | exact HB.out | apply below_alloc | apply pw_below_drewN | apply below_drew1 | refine below_set ?_ GG.out | refine below_set ?_ GH.out) | exact HB.out))⟩
      | false =>
        rw [if_neg (by decide)] at h
        simp only [Option.some.injEq, Prod.mk.injEq] at h
        obtain ⟨rfl, rfl, rfl, rfl, rfl, rfl, rfl, rfl, rfl, rfl⟩ := h
        go_wp2_with (first | (go_at_call 38; (with_reducible refine (head_IsType.calls 48 true _ HT.out).mono ?_); rintro e w' ⟨rfl, ⟨nd, rfl⟩⟩) | (go_at_call 39; (with_reducible refine (head_below.calls p_ n_ m_ u_ g_ t_ s_ 48 k_ false _ HBw.out).mono ?_); rintro e w14 ⟨rfl, hb⟩; have n0_ := Aside0.mk (below_step (by repeat (first | (with_reducible first | exact HB.out | apply below_alloc | apply pw_below_drewN | apply below_drew1 | refine below_set ?_ GG.out | refine below_set ?_ GH.out) | exact HB.out)) hb); have n1_ := Aside0.mk (blk_below (g := gg) (o := .cells #[.string (⟨#[]⟩ : ByteArray), .string (⟨#[]⟩ : ByteArray), .int .i64 0, .int .i64 0, .int .i64 0, .int .i64 0, .int .i64 0, .int .u8 0, .string (⟨#[]⟩ : ByteArray)] 43 (0, 0)) (by have h_ := (blk_far (blk_far BG.out (p := ⟨gh, 5, none⟩) NGH.out (.int .i64 t_)) (p := ⟨gh, 7, none⟩) NGH.out (.int .u8 48)); exact h_) hb); have n2_ := Aside0.mk (blk_below (g := gh) (o := .cells #[.string p_, .string n_, .int .i64 m_, .int .i64 u_, .int .i64 g_, .int .i64 t_, .int .i64 s_, .int .u8 48, .string k_] 43 (0, 0)) (by have h_ := (blk_set (blk_set BH.out 5 (.int .i64 t_)) 7 (.int .u8 48)); exact h_) hb); clear HB BG BH hb; have HB := n0_; have BG := n1_; have BH := n2_; clear n0_ n1_ n2_; have hg0 := (blk_cell BG.out 0).trans (rfl : _ = some (.string (⟨#[]⟩ : ByteArray) : Value)); have fg0 := blk_frozen BG.out 0; have hg1 := (blk_cell BG.out 1).trans (rfl : _ = some (.string (⟨#[]⟩ : ByteArray) : Value)); have fg1 := blk_frozen BG.out 1; have hg2 := (blk_cell BG.out 2).trans (rfl : _ = some (.int .i64 0 : Value)); have fg2 := blk_frozen BG.out 2; have hg3 := (blk_cell BG.out 3).trans (rfl : _ = some (.int .i64 0 : Value)); have fg3 := blk_frozen BG.out 3; have hg4 := (blk_cell BG.out 4).trans (rfl : _ = some (.int .i64 0 : Value)); have fg4 := blk_frozen BG.out 4; have hg5 := (blk_cell BG.out 5).trans (rfl : _ = some (.int .i64 0 : Value)); have fg5 := blk_frozen BG.out 5; have hg6 := (blk_cell BG.out 6).trans (rfl : _ = some (.int .i64 0 : Value)); have fg6 := blk_frozen BG.out 6; have hg7 := (blk_cell BG.out 7).trans (rfl : _ = some (.int .u8 0 : Value)); have fg7 := blk_frozen BG.out 7; have hg8 := (blk_cell BG.out 8).trans (rfl : _ = some (.string (⟨#[]⟩ : ByteArray) : Value)); have fg8 := blk_frozen BG.out 8; have hh0 := (blk_cell BH.out 0).trans (rfl : _ = some (.string p_ : Value)); have fh0 := blk_frozen BH.out 0; have hh1 := (blk_cell BH.out 1).trans (rfl : _ = some (.string n_ : Value)); have fh1 := blk_frozen BH.out 1; have hh2 := (blk_cell BH.out 2).trans (rfl : _ = some (.int .i64 m_ : Value)); have fh2 := blk_frozen BH.out 2; have hh3 := (blk_cell BH.out 3).trans (rfl : _ = some (.int .i64 u_ : Value)); have fh3 := blk_frozen BH.out 3; have hh4 := (blk_cell BH.out 4).trans (rfl : _ = some (.int .i64 g_ : Value)); have fh4 := blk_frozen BH.out 4; have hh5 := (blk_cell BH.out 5).trans (rfl : _ = some (.int .i64 t_ : Value)); have fh5 := blk_frozen BH.out 5; have hh6 := (blk_cell BH.out 6).trans (rfl : _ = some (.int .i64 s_ : Value)); have fh6 := blk_frozen BH.out 6; have hh7 := (blk_cell BH.out 7).trans (rfl : _ = some (.int .u8 48 : Value)); have fh7 := blk_frozen BH.out 7; have hh8 := (blk_cell BH.out 8).trans (rfl : _ = some (.string k_ : Value)); have fh8 := blk_frozen BH.out 8))
        refine bodyPost_ret (results_ct rfl _ _ gg 43 #[.string p_, .string n_, .int .i64 m_, .int .i64 u_, .int .i64 g_, .int .i64 t_, .int .i64 s_, .int .u8 48, .string k_] (0, 0) _ rfl (by have h_ := (blk_set (blk_set (blk_set (blk_set (blk_set (blk_set (blk_set (blk_set (blk_set BG.out 0 (.string p_)) 1 (.string n_)) 2 (.int .i64 m_)) 3 (.int .i64 u_)) 4 (.int .i64 g_)) 5 (.int .i64 t_)) 6 (.int .i64 s_)) 7 (.int .u8 48)) 8 (.string k_)); exact h_) Tryz.underlying43 rfl (by kernel_rfl)) rfl ?_
        exact ⟨rfl, (by repeat (first | (with_reducible first | exact HB.out | apply below_alloc | apply pw_below_drewN | apply below_drew1 | refine below_set ?_ GG.out | refine below_set ?_ GH.out) | exact HB.out))⟩
  · have bz : (x7 == 0) = false := beq_eq_false_iff_ne.2 cz
    have HZ := Aside0.mk cz
    clear cz
    have h := HH.out
    clear HH
    rw [if_neg HZ.out] at h
    have hh0 := (blk_cell BH.out 0).trans (rfl : _ = some (.string p_ : Value))
    have fh0 := blk_frozen BH.out 0
    have hh1 := (blk_cell BH.out 1).trans (rfl : _ = some (.string n_ : Value))
    have fh1 := blk_frozen BH.out 1
    have hh2 := (blk_cell BH.out 2).trans (rfl : _ = some (.int .i64 m_ : Value))
    have fh2 := blk_frozen BH.out 2
    have hh3 := (blk_cell BH.out 3).trans (rfl : _ = some (.int .i64 u_ : Value))
    have fh3 := blk_frozen BH.out 3
    have hh4 := (blk_cell BH.out 4).trans (rfl : _ = some (.int .i64 g_ : Value))
    have fh4 := blk_frozen BH.out 4
    have hh5 := (blk_cell BH.out 5).trans (rfl : _ = some (.int .i64 0 : Value))
    have fh5 := blk_frozen BH.out 5
    have hh6 := (blk_cell BH.out 6).trans (rfl : _ = some (.int .i64 s_ : Value))
    have fh6 := blk_frozen BH.out 6
    have hh7 := (blk_cell BH.out 7).trans (rfl : _ = some (.int .u8 x7 : Value))
    have fh7 := blk_frozen BH.out 7
    have hh8 := (blk_cell BH.out 8).trans (rfl : _ = some (.string k_ : Value))
    have fh8 := blk_frozen BH.out 8
    have hg0 := (blk_cell BG.out 0).trans (rfl : _ = some (.string (⟨#[]⟩ : ByteArray) : Value))
    have fg0 := blk_frozen BG.out 0
    have hg1 := (blk_cell BG.out 1).trans (rfl : _ = some (.string (⟨#[]⟩ : ByteArray) : Value))
    have fg1 := blk_frozen BG.out 1
    have hg2 := (blk_cell BG.out 2).trans (rfl : _ = some (.int .i64 0 : Value))
    have fg2 := blk_frozen BG.out 2
    have hg3 := (blk_cell BG.out 3).trans (rfl : _ = some (.int .i64 0 : Value))
    have fg3 := blk_frozen BG.out 3
    have hg4 := (blk_cell BG.out 4).trans (rfl : _ = some (.int .i64 0 : Value))
    have fg4 := blk_frozen BG.out 4
    have hg5 := (blk_cell BG.out 5).trans (rfl : _ = some (.int .i64 0 : Value))
    have fg5 := blk_frozen BG.out 5
    have hg6 := (blk_cell BG.out 6).trans (rfl : _ = some (.int .i64 0 : Value))
    have fg6 := blk_frozen BG.out 6
    have hg7 := (blk_cell BG.out 7).trans (rfl : _ = some (.int .u8 0 : Value))
    have fg7 := blk_frozen BG.out 7
    have hg8 := (blk_cell BG.out 8).trans (rfl : _ = some (.string (⟨#[]⟩ : ByteArray) : Value))
    have fg8 := blk_frozen BG.out 8
    have hr1 := (blk_cell BR.out 1).trans (rfl : _ = some (.int .i64 E8 : Value))
    by_cases cE : ¬ E8 = 0
    · rw [if_neg cE] at h
      unfold noHead at h
      simp only [Option.some.injEq, Prod.mk.injEq] at h
      obtain ⟨rfl, rfl, rfl, rfl, rfl, rfl, rfl, rfl, rfl, rfl⟩ := h
      have b1 : (E8 != 0) = true := bne_iff_ne.2 cE
      clear cE
      have BX := Aside0.mk (show (World.setCell w13 ⟨gh, 5, none⟩ (.int .i64 t_)).heap[gg]? = some (.cells #[.string (⟨#[]⟩ : ByteArray), .string (⟨#[]⟩ : ByteArray), .int .i64 0, .int .i64 0, .int .i64 0, .int .i64 0, .int .i64 0, .int .u8 0, .string (⟨#[]⟩ : ByteArray)] 43 (0, 0)) from (blk_far BG.out (p := ⟨gh, 5, none⟩) NGH.out (.int .i64 t_)))
      obtain ⟨xg0, xg1, xg2, xg3, xg4, xg5, xg6, xg7, xg8, xf0, xf1, xf2, xf3, xf4, xf5, xf6, xf7, xf8⟩ := blk_all9 BX.out
      clear hg0 fg0 hh0 fh0 hg1 fg1 hh1 fh1 hg2 fg2 hh2 fh2 hg3 fg3 hh3 fh3 hg4 fg4 hh4 fh4 hg6 fg6 hh6 fh6 hg8 fg8 hh8 fh8 hg5 fg5 hg7 fg7
      go_wp2
      have n0_ := Aside0.mk (below_drew1 (show Below w.heap.size w (World.setCell w13 ⟨gh, 5, none⟩ (.int .i64 t_)) from (below_set (j := 5) (v := .int .i64 t_) HB.out GH.out)))
      have n1_ : Aside0 ((World.drew (World.setCell w13 ⟨gh, 5, none⟩ (.int .i64 t_))).heap[gg]? = some (.cells #[.string (⟨#[]⟩ : ByteArray), .string (⟨#[]⟩ : ByteArray), .int .i64 0, .int .i64 0, .int .i64 0, .int .i64 0, .int .i64 0, .int .u8 0, .string (⟨#[]⟩ : ByteArray)] 43 (0, 0))) := ⟨blk_drew BX.out⟩
      have n2_ : Aside0 ((World.drew (World.setCell w13 ⟨gh, 5, none⟩ (.int .i64 t_))).heap[gr]? = some (.cells #[.slice (some ⟨ab, ao, none⟩) l0.length c0, .int .i64 E8] 75 (0, 0))) := ⟨blk_drew (blk_far BR.out (p := ⟨gh, 5, none⟩) NRH.out (.int .i64 t_))⟩
      clear HB BG BR BX
      have HB := n0_
      have BG := n1_
      have BR := n2_
      clear n0_ n1_ n2_ xg0 xf0 xg1 xf1 xg2 xf2 xg3 xf3 xg4 xf4 xg5 xf5 xg6 xf6 xg7 xf7 xg8 xf8
      refine start_ (n := 7) (S := fun w' => w'.cell? ⟨gr, 1, none⟩ = some (.int .i64 E8)) (ds := []) #[false, false, false, false, false, false, false] (by kernel_rfl) rfl rfl ((blk_cell BR.out 1).trans rfl) (fun hHeld => ?_)
      generalize World.drew (World.setCell w13 ⟨gh, 5, none⟩ (.int .i64 t_)) = wx at HB BG BR hHeld ⊢
      obtain ⟨xg0, xg1, xg2, xg3, xg4, xg5, xg6, xg7, xg8, xf0, xf1, xf2, xf3, xf4, xf5, xf6, xf7, xf8⟩ := blk_all9 BG.out
      refine pure_ (i := 0) (N := some 65) (v := ?_) (a' := ?_) #[true, false, false, false, false, false, false] rfl rfl (by kernel_rfl) (fun _ _ _ h => h) (Or.inl ⟨by rfl, ?_⟩) ?_ ?_
      rotate_left
      · intro w'
        go_simp
        with_reducible rfl
      rotate_left
      · simp only [Act.put, List.setIfInBounds_toArray, List.set_cons_zero, List.set_cons_succ, i64_w, i32_w]
        rfl
      refine pure_ (i := 1) (N := some 66) (v := ?_) (a' := ?_) #[true, true, false, false, false, false, false] rfl rfl (by kernel_rfl) (fun _ _ _ h => h) (Or.inl ⟨by rfl, ?_⟩) ?_ ?_
      rotate_left
      · intro w'
        go_simp
        with_reducible rfl
      rotate_left
      · simp only [Act.put, List.setIfInBounds_toArray, List.set_cons_zero, List.set_cons_succ, i64_w, i32_w]
        rfl
      refine pure_ (i := 2) (N := some 67) (v := ?_) (a' := ?_) #[true, true, true, false, false, false, false] rfl rfl (by kernel_rfl) (fun _ _ _ h => h) (Or.inl ⟨by rfl, ?_⟩) ?_ ?_
      rotate_left
      · intro w'
        go_simp
        with_reducible rfl
      rotate_left
      · simp only [Act.put, List.setIfInBounds_toArray, List.set_cons_zero, List.set_cons_succ, i64_w, i32_w]
        rfl
      refine pure_ (i := 3) (N := some 68) (v := ?_) (a' := ?_) #[true, true, true, true, false, false, false] rfl rfl (by kernel_rfl) (fun _ _ _ h => h) (Or.inl ⟨by rfl, ?_⟩) ?_ ?_
      rotate_left
      · intro w'
        go_simp
        with_reducible rfl
      rotate_left
      · simp only [Act.put, List.setIfInBounds_toArray, List.set_cons_zero, List.set_cons_succ, i64_w, i32_w]
        rfl
      refine take_ (i := 4) (N := some 69) (v := ?_) (a' := ?_) #[true, true, true, true, true, false, false] rfl rfl (by kernel_rfl) (fun _ _ _ h => h) (Or.inl ⟨by rfl, ?_⟩) hHeld ?_ ?_
      rotate_left
      · intro w' s0
        go_simp
        with_reducible rfl
      rotate_left
      · simp only [Act.put, List.setIfInBounds_toArray, List.set_cons_zero, List.set_cons_succ, i64_w, i32_w]
        rfl
      refine one_ (i := 5) (N := none) #[true, true, true, true, true, true, false] rfl rfl (by kernel_rfl) (by decide) (fun K hK => ?_)
      refine skip_ (w1 := ?_) (by rfl) rfl ?_ ?_
      rotate_left
      · go_simp
        rfl
      refine hK.out _ _ ((blk_cell (blk_far (blk_far (blk_far (blk_far (blk_far (blk_far (blk_far (blk_far (blk_far BR.out (p := ⟨gg, 0, none⟩) NRG.out.symm (.string (⟨#[]⟩ : ByteArray))) (p := ⟨gg, 1, none⟩) NRG.out.symm (.string (⟨#[]⟩ : ByteArray))) (p := ⟨gg, 2, none⟩) NRG.out.symm (.int .i64 0)) (p := ⟨gg, 3, none⟩) NRG.out.symm (.int .i64 0)) (p := ⟨gg, 4, none⟩) NRG.out.symm (.int .i64 0)) (p := ⟨gg, 5, none⟩) NRG.out.symm (.int .i64 0)) (p := ⟨gg, 6, none⟩) NRG.out.symm (.int .i64 0)) (p := ⟨gg, 7, none⟩) NRG.out.symm (.int .u8 0)) (p := ⟨gg, 8, none⟩) NRG.out.symm (.string (⟨#[]⟩ : ByteArray))) 1).trans rfl) (fun hHeld => ?_)
      clear hK K
      refine pure_ (i := 6) (N := some 3) (v := ?_) (a' := ?_) #[true, true, true, true, true, true, true] rfl rfl (by kernel_rfl) (fun _ _ _ h => h) (Or.inl ⟨by rfl, ?_⟩) ?_ ?_
      rotate_left
      · intro w'
        go_simp
        with_reducible rfl
      rotate_left
      · simp only [Act.put, List.setIfInBounds_toArray, List.set_cons_zero, List.set_cons_succ, i64_w, i32_w]
        rfl
      refine done_ (by kernel_rfl) ?_
      go_wp2
      refine bodyPost_ret (results_ct rfl _ _ gg 43 #[.string (⟨#[]⟩ : ByteArray), .string (⟨#[]⟩ : ByteArray), .int .i64 0, .int .i64 0, .int .i64 0, .int .i64 0, .int .i64 0, .int .u8 0, .string (⟨#[]⟩ : ByteArray)] (0, 0) _ rfl (by have h_ := (blk_set (blk_set (blk_set (blk_set (blk_set (blk_set (blk_set (blk_set (blk_set BG.out 0 (.string (⟨#[]⟩ : ByteArray))) 1 (.string (⟨#[]⟩ : ByteArray))) 2 (.int .i64 0)) 3 (.int .i64 0)) 4 (.int .i64 0)) 5 (.int .i64 0)) 6 (.int .i64 0)) 7 (.int .u8 0)) 8 (.string (⟨#[]⟩ : ByteArray))); exact h_) Tryz.underlying43 rfl (by kernel_rfl)) rfl ?_
      exact ⟨rfl, (by repeat (first | (with_reducible first | exact HB.out | apply below_alloc | apply pw_below_drewN | apply below_drew1 | refine below_set ?_ GG.out | refine below_set ?_ GH.out) | exact HB.out))⟩
    have cE' := Decidable.of_not_not cE
    subst cE'
    clear cE
    rw [if_pos rfl] at h
    obtain ⟨b, hT, h⟩ := Option.bind_eq_some_iff.1 h
    have HT := Aside0.mk hT
    clear hT
    cases b with
    | false =>
      rw [if_neg (by decide)] at h
      unfold noHead at h
      simp only [Option.some.injEq, Prod.mk.injEq] at h
      obtain ⟨rfl, rfl, rfl, rfl, rfl, rfl, rfl, rfl, rfl, rfl⟩ := h
      go_wp2_with ((go_at_call 38; (with_reducible refine (head_IsType.calls x7 false _ HT.out).mono ?_); rintro e w14 ⟨rfl, hd⟩; have hb := drawn_below hd; have n0_ := Aside0.mk (below_step (by repeat (first | (with_reducible first | exact HB.out | apply below_alloc | apply pw_below_drewN | apply below_drew1 | refine below_set ?_ GG.out | refine below_set ?_ GH.out) | exact HB.out)) hb); have n1_ := Aside0.mk (blk_below (g := gg) (o := .cells #[.string (⟨#[]⟩ : ByteArray), .string (⟨#[]⟩ : ByteArray), .int .i64 0, .int .i64 0, .int .i64 0, .int .i64 0, .int .i64 0, .int .u8 0, .string (⟨#[]⟩ : ByteArray)] 43 (0, 0)) (by have h_ := (blk_far BG.out (p := ⟨gh, 5, none⟩) NGH.out (.int .i64 t_)); exact h_) hb); clear HB BG hb hd; have HB := n0_; have BG := n1_; clear n0_ n1_; obtain ⟨hg0, hg1, hg2, hg3, hg4, hg5, hg6, hg7, hg8, fg0, fg1, fg2, fg3, fg4, fg5, fg6, fg7, fg8⟩ := blk_all9 BG.out))
      refine bodyPost_ret (results_ct rfl _ _ gg 43 #[.string (⟨#[]⟩ : ByteArray), .string (⟨#[]⟩ : ByteArray), .int .i64 0, .int .i64 0, .int .i64 0, .int .i64 0, .int .i64 0, .int .u8 0, .string (⟨#[]⟩ : ByteArray)] (0, 0) _ rfl (by have h_ := (blk_set (blk_set (blk_set (blk_set (blk_set (blk_set (blk_set (blk_set (blk_set BG.out 0 (.string (⟨#[]⟩ : ByteArray))) 1 (.string (⟨#[]⟩ : ByteArray))) 2 (.int .i64 0)) 3 (.int .i64 0)) 4 (.int .i64 0)) 5 (.int .i64 0)) 6 (.int .i64 0)) 7 (.int .u8 0)) 8 (.string (⟨#[]⟩ : ByteArray))); exact h_) Tryz.underlying43 rfl (by kernel_rfl)) rfl ?_
      exact ⟨rfl, (by repeat (first | (with_reducible first | exact HB.out | apply below_alloc | apply pw_below_drewN | apply below_drew1 | refine below_set ?_ GG.out | refine below_set ?_ GH.out) | exact HB.out))⟩
    | true =>
      rw [if_pos rfl] at h
      obtain ⟨c, hB, h⟩ := Option.bind_eq_some_iff.1 h
      have HBw := Aside0.mk hB
      clear hB
      cases c with
      | true =>
        rw [if_pos rfl] at h
        unfold noHead at h
        simp only [Option.some.injEq, Prod.mk.injEq] at h
        obtain ⟨rfl, rfl, rfl, rfl, rfl, rfl, rfl, rfl, rfl, rfl⟩ := h
        go_wp2_with (first | (go_at_call 38; (with_reducible refine (head_IsType.calls x7 true _ HT.out).mono ?_); rintro e w' ⟨rfl, ⟨nd, rfl⟩⟩) | (go_at_call 39; (with_reducible refine (head_below.calls p_ n_ m_ u_ g_ t_ s_ x7 k_ true _ HBw.out).mono ?_); rintro e w14 ⟨rfl, hb⟩; have n0_ := Aside0.mk (below_step (by repeat (first | (with_reducible first | exact HB.out | apply below_alloc | apply pw_below_drewN | apply below_drew1 | refine below_set ?_ GG.out | refine below_set ?_ GH.out) | exact HB.out)) hb); have n1_ := Aside0.mk (blk_below (g := gg) (o := .cells #[.string (⟨#[]⟩ : ByteArray), .string (⟨#[]⟩ : ByteArray), .int .i64 0, .int .i64 0, .int .i64 0, .int .i64 0, .int .i64 0, .int .u8 0, .string (⟨#[]⟩ : ByteArray)] 43 (0, 0)) (by have h_ := (blk_far BG.out (p := ⟨gh, 5, none⟩) NGH.out (.int .i64 t_)); exact h_) hb); have n2_ := Aside0.mk (blk_below (g := gh) (o := .cells #[.string p_, .string n_, .int .i64 m_, .int .i64 u_, .int .i64 g_, .int .i64 t_, .int .i64 s_, .int .u8 x7, .string k_] 43 (0, 0)) (by have h_ := (blk_set BH.out 5 (.int .i64 t_)); exact h_) hb); clear HB BG BH hb; have HB := n0_; have BG := n1_; have BH := n2_; clear n0_ n1_ n2_; have hg0 := (blk_cell BG.out 0).trans (rfl : _ = some (.string (⟨#[]⟩ : ByteArray) : Value)); have fg0 := blk_frozen BG.out 0; have hg1 := (blk_cell BG.out 1).trans (rfl : _ = some (.string (⟨#[]⟩ : ByteArray) : Value)); have fg1 := blk_frozen BG.out 1; have hg2 := (blk_cell BG.out 2).trans (rfl : _ = some (.int .i64 0 : Value)); have fg2 := blk_frozen BG.out 2; have hg3 := (blk_cell BG.out 3).trans (rfl : _ = some (.int .i64 0 : Value)); have fg3 := blk_frozen BG.out 3; have hg4 := (blk_cell BG.out 4).trans (rfl : _ = some (.int .i64 0 : Value)); have fg4 := blk_frozen BG.out 4; have hg5 := (blk_cell BG.out 5).trans (rfl : _ = some (.int .i64 0 : Value)); have fg5 := blk_frozen BG.out 5; have hg6 := (blk_cell BG.out 6).trans (rfl : _ = some (.int .i64 0 : Value)); have fg6 := blk_frozen BG.out 6; have hg7 := (blk_cell BG.out 7).trans (rfl : _ = some (.int .u8 0 : Value)); have fg7 := blk_frozen BG.out 7; have hg8 := (blk_cell BG.out 8).trans (rfl : _ = some (.string (⟨#[]⟩ : ByteArray) : Value)); have fg8 := blk_frozen BG.out 8; have hh0 := (blk_cell BH.out 0).trans (rfl : _ = some (.string p_ : Value)); have fh0 := blk_frozen BH.out 0; have hh1 := (blk_cell BH.out 1).trans (rfl : _ = some (.string n_ : Value)); have fh1 := blk_frozen BH.out 1; have hh2 := (blk_cell BH.out 2).trans (rfl : _ = some (.int .i64 m_ : Value)); have fh2 := blk_frozen BH.out 2; have hh3 := (blk_cell BH.out 3).trans (rfl : _ = some (.int .i64 u_ : Value)); have fh3 := blk_frozen BH.out 3; have hh4 := (blk_cell BH.out 4).trans (rfl : _ = some (.int .i64 g_ : Value)); have fh4 := blk_frozen BH.out 4; have hh5 := (blk_cell BH.out 5).trans (rfl : _ = some (.int .i64 t_ : Value)); have fh5 := blk_frozen BH.out 5; have hh6 := (blk_cell BH.out 6).trans (rfl : _ = some (.int .i64 s_ : Value)); have fh6 := blk_frozen BH.out 6; have hh7 := (blk_cell BH.out 7).trans (rfl : _ = some (.int .u8 x7 : Value)); have fh7 := blk_frozen BH.out 7; have hh8 := (blk_cell BH.out 8).trans (rfl : _ = some (.string k_ : Value)); have fh8 := blk_frozen BH.out 8))
        refine bodyPost_ret (results_ct rfl _ _ gg 43 #[.string (⟨#[]⟩ : ByteArray), .string (⟨#[]⟩ : ByteArray), .int .i64 0, .int .i64 0, .int .i64 0, .int .i64 0, .int .i64 0, .int .u8 0, .string (⟨#[]⟩ : ByteArray)] (0, 0) _ rfl (by have h_ := (blk_set (blk_set (blk_set (blk_set (blk_set (blk_set (blk_set (blk_set (blk_set BG.out 0 (.string (⟨#[]⟩ : ByteArray))) 1 (.string (⟨#[]⟩ : ByteArray))) 2 (.int .i64 0)) 3 (.int .i64 0)) 4 (.int .i64 0)) 5 (.int .i64 0)) 6 (.int .i64 0)) 7 (.int .u8 0)) 8 (.string (⟨#[]⟩ : ByteArray))); exact h_) Tryz.underlying43 rfl (by kernel_rfl)) rfl ?_
        exact ⟨rfl, (by repeat (first | (with_reducible first | exact HB.out | apply below_alloc | apply pw_below_drewN | apply below_drew1 | refine below_set ?_ GG.out | refine below_set ?_ GH.out) | exact HB.out))⟩
      | false =>
        rw [if_neg (by decide)] at h
        simp only [Option.some.injEq, Prod.mk.injEq] at h
        obtain ⟨rfl, rfl, rfl, rfl, rfl, rfl, rfl, rfl, rfl, rfl⟩ := h
        go_wp2_with (first | (go_at_call 38; (with_reducible refine (head_IsType.calls x7 true _ HT.out).mono ?_); rintro e w' ⟨rfl, ⟨nd, rfl⟩⟩) | (go_at_call 39; (with_reducible refine (head_below.calls p_ n_ m_ u_ g_ t_ s_ x7 k_ false _ HBw.out).mono ?_); rintro e w14 ⟨rfl, hb⟩; have n0_ := Aside0.mk (below_step (by repeat (first | (with_reducible first | exact HB.out | apply below_alloc | apply pw_below_drewN | apply below_drew1 | refine below_set ?_ GG.out | refine below_set ?_ GH.out) | exact HB.out)) hb); have n1_ := Aside0.mk (blk_below (g := gg) (o := .cells #[.string (⟨#[]⟩ : ByteArray), .string (⟨#[]⟩ : ByteArray), .int .i64 0, .int .i64 0, .int .i64 0, .int .i64 0, .int .i64 0, .int .u8 0, .string (⟨#[]⟩ : ByteArray)] 43 (0, 0)) (by have h_ := (blk_far BG.out (p := ⟨gh, 5, none⟩) NGH.out (.int .i64 t_)); exact h_) hb); have n2_ := Aside0.mk (blk_below (g := gh) (o := .cells #[.string p_, .string n_, .int .i64 m_, .int .i64 u_, .int .i64 g_, .int .i64 t_, .int .i64 s_, .int .u8 x7, .string k_] 43 (0, 0)) (by have h_ := (blk_set BH.out 5 (.int .i64 t_)); exact h_) hb); clear HB BG BH hb; have HB := n0_; have BG := n1_; have BH := n2_; clear n0_ n1_ n2_; have hg0 := (blk_cell BG.out 0).trans (rfl : _ = some (.string (⟨#[]⟩ : ByteArray) : Value)); have fg0 := blk_frozen BG.out 0; have hg1 := (blk_cell BG.out 1).trans (rfl : _ = some (.string (⟨#[]⟩ : ByteArray) : Value)); have fg1 := blk_frozen BG.out 1; have hg2 := (blk_cell BG.out 2).trans (rfl : _ = some (.int .i64 0 : Value)); have fg2 := blk_frozen BG.out 2; have hg3 := (blk_cell BG.out 3).trans (rfl : _ = some (.int .i64 0 : Value)); have fg3 := blk_frozen BG.out 3; have hg4 := (blk_cell BG.out 4).trans (rfl : _ = some (.int .i64 0 : Value)); have fg4 := blk_frozen BG.out 4; have hg5 := (blk_cell BG.out 5).trans (rfl : _ = some (.int .i64 0 : Value)); have fg5 := blk_frozen BG.out 5; have hg6 := (blk_cell BG.out 6).trans (rfl : _ = some (.int .i64 0 : Value)); have fg6 := blk_frozen BG.out 6; have hg7 := (blk_cell BG.out 7).trans (rfl : _ = some (.int .u8 0 : Value)); have fg7 := blk_frozen BG.out 7; have hg8 := (blk_cell BG.out 8).trans (rfl : _ = some (.string (⟨#[]⟩ : ByteArray) : Value)); have fg8 := blk_frozen BG.out 8; have hh0 := (blk_cell BH.out 0).trans (rfl : _ = some (.string p_ : Value)); have fh0 := blk_frozen BH.out 0; have hh1 := (blk_cell BH.out 1).trans (rfl : _ = some (.string n_ : Value)); have fh1 := blk_frozen BH.out 1; have hh2 := (blk_cell BH.out 2).trans (rfl : _ = some (.int .i64 m_ : Value)); have fh2 := blk_frozen BH.out 2; have hh3 := (blk_cell BH.out 3).trans (rfl : _ = some (.int .i64 u_ : Value)); have fh3 := blk_frozen BH.out 3; have hh4 := (blk_cell BH.out 4).trans (rfl : _ = some (.int .i64 g_ : Value)); have fh4 := blk_frozen BH.out 4; have hh5 := (blk_cell BH.out 5).trans (rfl : _ = some (.int .i64 t_ : Value)); have fh5 := blk_frozen BH.out 5; have hh6 := (blk_cell BH.out 6).trans (rfl : _ = some (.int .i64 s_ : Value)); have fh6 := blk_frozen BH.out 6; have hh7 := (blk_cell BH.out 7).trans (rfl : _ = some (.int .u8 x7 : Value)); have fh7 := blk_frozen BH.out 7; have hh8 := (blk_cell BH.out 8).trans (rfl : _ = some (.string k_ : Value)); have fh8 := blk_frozen BH.out 8))
        refine bodyPost_ret (results_ct rfl _ _ gg 43 #[.string p_, .string n_, .int .i64 m_, .int .i64 u_, .int .i64 g_, .int .i64 t_, .int .i64 s_, .int .u8 x7, .string k_] (0, 0) _ rfl (by have h_ := (blk_set (blk_set (blk_set (blk_set (blk_set (blk_set (blk_set (blk_set (blk_set BG.out 0 (.string p_)) 1 (.string n_)) 2 (.int .i64 m_)) 3 (.int .i64 u_)) 4 (.int .i64 g_)) 5 (.int .i64 t_)) 6 (.int .i64 s_)) 7 (.int .u8 x7)) 8 (.string k_)); exact h_) Tryz.underlying43 rfl (by kernel_rfl)) rfl ?_
        exact ⟨rfl, (by repeat (first | (with_reducible first | exact HB.out | apply below_alloc | apply pw_below_drewN | apply below_drew1 | refine below_set ?_ GG.out | refine below_set ?_ GH.out) | exact HB.out))⟩
end Go.Proofs.YtjidenkhgeoaiaaGreatDoor.Hand

/- head.Parse: more rounds give the same answer. -/
namespace Go.Proofs.YtjidenkhgeoaiaaGreatDoor.Hand
open Go.RowKit Go.Proofs.YtjidenkhgeoaiaaGreatDoor.P Go.Proofs.YtjidenkhgeoaiaaGreatDoorW Go.Proofs.YtjidenkhgeoaiaaGreatDoorW.PrintWords Go.Proofs.YtjidenkhgeoaiaaGreatDoorW.PrintLast Go.Proofs.YtjidenkhgeoaiaaGreatDoorW.PrintMore
set_option linter.unusedVariables false
set_option linter.unusedSimpArgs false
theorem head_Parse.mono : ∀ l k, LeO (head_Parse.f k l) (head_Parse.f (k + 1) l) := by
  intro l k
  unfold head_Parse.f
  exact LeO.bind (hsum_Check.mono _ _) (fun _ => LeO.refl _)
end Go.Proofs.YtjidenkhgeoaiaaGreatDoor.Hand

namespace Go.Proofs.YtjidenkhgeoaiaaGreatDoor.P
open Go.RowKit Go.Proofs.YtjidenkhgeoaiaaGreatDoorW.PrintWords Go.Proofs.YtjidenkhgeoaiaaGreatDoorW.PrintLast Go.Proofs.YtjidenkhgeoaiaaGreatDoorW.PrintMore Go.Proofs.YtjidenkhgeoaiaaGreatDoor.Hand
attribute [local go_sem] max2_int min2_int max_two min_two max_three min_three max_four min_four   -- for this text's walks alone
set_option linter.unusedVariables false
set_option linter.unusedSimpArgs false

/-! ### thwartlaw08_alive: function 10 -/
def thwartlaw08_alive.f (k : Nat)  : Option (Bool) := (memb_Lay.f k (⟨#[97]⟩ : ByteArray) 4 0 0 0 0 (⟨#[]⟩ : ByteArray) ([] : List Int)).bind fun bt232 => ((head_Parse.f k bt232.1).bind fun bt236 => ((memb_From.f k bt236.1 bt236.2.1 bt236.2.2.1 bt236.2.2.2.1 bt236.2.2.2.2.1 bt236.2.2.2.2.2.1 bt236.2.2.2.2.2.2.1 bt236.2.2.2.2.2.2.2.1 bt236.2.2.2.2.2.2.2.2.1 ([] : List (S35)) ([] : List Int)).bind fun bt247 => (if (bt232.1.length : Int) = 512 then (if bt232.2 = 0 then (if bt236.2.2.2.2.2.2.2.2.2 = 0 then ((memb_Same.f bt247.1 bt247.2.1 bt247.2.2.1 bt247.2.2.2.1 bt247.2.2.2.2.1 bt247.2.2.2.2.2.1 bt247.2.2.2.2.2.2.1 bt247.2.2.2.2.2.2.2.1 (⟨#[97]⟩ : ByteArray) 4 0 0 0 0 (⟨#[]⟩ : ByteArray) ([] : List Int)).bind fun t259 => (if t259 = true then (if bt247.2.2.2.2.2.2.2.2 = 0 then ((memb_Type.f 3).bind fun t260 => (if t260 = 50 then ((memb_Kind.f 53).bind fun t261 => (if t261 = 4 then ((memb_Len.f k (⟨#[97]⟩ : ByteArray) 4 0 0 0 0 (⟨#[]⟩ : ByteArray) ([] : List Int)).bind fun t262 => (some (t262 == 512))) else (some false))) else (some false))) else (some false)) else (some false))) else (some false)) else (some false)) else (some false))))
theorem thwartlaw08_alive.mono : ∀ k, LeO (thwartlaw08_alive.f k ) (thwartlaw08_alive.f (k + 1) ) := by
 intro  k
 unfold thwartlaw08_alive.f
 repeat' first
   | (with_reducible exact head_Parse.mono _ _)
   | (with_reducible exact memb_From.mono _ _ _ _ _ _ _ _ _ _ _ _)
   | (with_reducible exact memb_Lay.mono _ _ _ _ _ _ _ _ _)
   | (with_reducible exact memb_Len.mono _ _ _ _ _ _ _ _ _)
   | (with_reducible exact LeO.refl _)
   | (with_reducible exact LeO.none _)
   | (with_reducible refine LeO.ite ?_ ?_)
   | (with_reducible refine LeO.bind ?_ (fun _ => ?_))
   | exact head_Parse.mono _ _
   | exact memb_From.mono _ _ _ _ _ _ _ _ _ _ _ _
   | exact memb_Lay.mono _ _ _ _ _ _ _ _ _
   | exact memb_Len.mono _ _ _ _ _ _ _ _ _
   | exact LeO.none _
   | refine LeO.ite ?_ ?_
   | refine LeO.bind ?_ (fun _ => ?_)
set_option maxHeartbeats 8000000 in
set_option maxRecDepth 100000 in
theorem thwartlaw08_alive.calls (k : Nat)  (r : Bool) (w : World) (HTB : Aside0 (TabOk w)) (htrue : r = true) (h : thwartlaw08_alive.f k  = some r) :
  Calls Tryz.prog 10 #[] w fun e w' => e = .returned (.bool r) ∧ Below w.heap.size w w' := by
 have HT := Aside0.mk htrue
 clear htrue
 have hu38 := Tryz.underlying38
 have hu43 := Tryz.underlying43
 have HB := Aside0.mk (Below.refl w.heap.size w)
 have H : ((memb_Lay.f k (⟨#[97]⟩ : ByteArray) 4 0 0 0 0 (⟨#[]⟩ : ByteArray) ([] : List Int)).bind fun bt232 => ((head_Parse.f k bt232.1).bind fun bt236 => ((memb_From.f k bt236.1 bt236.2.1 bt236.2.2.1 bt236.2.2.2.1 bt236.2.2.2.2.1 bt236.2.2.2.2.2.1 bt236.2.2.2.2.2.2.1 bt236.2.2.2.2.2.2.2.1 bt236.2.2.2.2.2.2.2.2.1 ([] : List (S35)) ([] : List Int)).bind fun bt247 => (if (bt232.1.length : Int) = 512 then (if bt232.2 = 0 then (if bt236.2.2.2.2.2.2.2.2.2 = 0 then ((memb_Same.f bt247.1 bt247.2.1 bt247.2.2.1 bt247.2.2.2.1 bt247.2.2.2.2.1 bt247.2.2.2.2.2.1 bt247.2.2.2.2.2.2.1 bt247.2.2.2.2.2.2.2.1 (⟨#[97]⟩ : ByteArray) 4 0 0 0 0 (⟨#[]⟩ : ByteArray) ([] : List Int)).bind fun t259 => (if t259 = true then (if bt247.2.2.2.2.2.2.2.2 = 0 then ((memb_Type.f 3).bind fun t260 => (if t260 = 50 then ((memb_Kind.f 53).bind fun t261 => (if t261 = 4 then ((memb_Len.f k (⟨#[97]⟩ : ByteArray) 4 0 0 0 0 (⟨#[]⟩ : ByteArray) ([] : List Int)).bind fun t262 => (some (t262 == 512))) else (some false))) else (some false))) else (some false)) else (some false))) else (some false)) else (some false)) else (some false))))) = some r := h
 clear h
 replace H := Option.bind_eq_some_iff.mp H
 obtain ⟨⟨t232, t235⟩, A10, H⟩ := H
 try dsimp only at H
 have A1 := Aside0.mk A10
 clear A10
 replace H := Option.bind_eq_some_iff.mp H
 obtain ⟨⟨t236, t237, t238, t239, t240, t241, t242, t243, t244, t245⟩, A20, H⟩ := H
 try dsimp only at H
 have A2 := Aside0.mk A20
 clear A20
 replace H := Option.bind_eq_some_iff.mp H
 obtain ⟨⟨t247, t248, t249, t250, t251, t252, t253, t254, t257⟩, A30, H⟩ := H
 try dsimp only at H
 have A3 := Aside0.mk A30
 clear A30
 by_cases c4 : (t232.length : Int) = 512
 ·rw [if_pos c4] at H
  have c4b0 : ((t232.length : Int) == 512) = true := beq_iff_eq.mpr c4
  have c4b1 : ((t232.length : Int) != 512) = false := bne_eq_false_iff_eq.mpr c4
  clear c4
  by_cases c5 : t235 = 0
  ·rw [if_pos c5] at H
   have c5b0 : (t235 == 0) = true := beq_iff_eq.mpr c5
   have c5b1 : (t235 != 0) = false := bne_eq_false_iff_eq.mpr c5
   clear c5
   by_cases c6 : t245 = 0
   ·rw [if_pos c6] at H
    have c6b0 : (t245 == 0) = true := beq_iff_eq.mpr c6
    have c6b1 : (t245 != 0) = false := bne_eq_false_iff_eq.mpr c6
    clear c6
    replace H := Option.bind_eq_some_iff.mp H
    obtain ⟨t259, A70, H⟩ := H
    try dsimp only at H
    have A7 := Aside0.mk A70
    clear A70
    by_cases c8 : t259 = true
    ·subst c8
     have H1 := H; rw [if_pos rfl] at H1
     clear H
     have H := H1
     clear H1
     by_cases c9 : t257 = 0
     ·rw [if_pos c9] at H
      have c9b0 : (t257 == 0) = true := beq_iff_eq.mpr c9
      have c9b1 : (t257 != 0) = false := bne_eq_false_iff_eq.mpr c9
      clear c9
      replace H := Option.bind_eq_some_iff.mp H
      obtain ⟨t260, A100, H⟩ := H
      try dsimp only at H
      have A10 := Aside0.mk A100
      clear A100
      by_cases c11 : t260 = 50
      ·rw [if_pos c11] at H
       have c11b0 : (t260 == 50) = true := beq_iff_eq.mpr c11
       have c11b1 : (t260 != 50) = false := bne_eq_false_iff_eq.mpr c11
       clear c11
       replace H := Option.bind_eq_some_iff.mp H
       obtain ⟨t261, A120, H⟩ := H
       try dsimp only at H
       have A12 := Aside0.mk A120
       clear A120
       by_cases c13 : t261 = 4
       ·rw [if_pos c13] at H
        have c13b0 : (t261 == 4) = true := beq_iff_eq.mpr c13
        have c13b1 : (t261 != 4) = false := bne_eq_false_iff_eq.mpr c13
        clear c13
        replace H := Option.bind_eq_some_iff.mp H
        obtain ⟨t262, A140, H⟩ := H
        try dsimp only at H
        have A14 := Aside0.mk A140
        clear A140
        obtain rfl := Option.some.inj H
        go_enter Tryz.func10, Tryz.ntmps10
        go_wp2_with (first | ((with_reducible refine gate_dst (N := 1) rfl ?_); refine boxA_ 1 38 #[.string (⟨#[]⟩ : ByteArray), .int .i64 0, .int .i64 0, .int .i64 0, .int .i64 0, .int .i64 0, .string (⟨#[]⟩ : ByteArray), .slice none 0 0] ?_; intro gb231 hg w15 hbox hb; have n0_ := Aside0.mk (bstep_ hb); have n1_ := Aside0.mk (hbox); have n2_ := Aside0.mk ((by rw [hg]; exact bsize_ : w.heap.size ≤ gb231)); have n3_ := Aside0.mk ((by rw [hg]; exact bsize_ : w.heap.size ≤ gb231)); clear HB; have HB := n0_; have BK231 := n1_; have GW231 := n2_; have GE231 := n3_; clear n0_ n1_ n2_ n3_; clear hb hbox hg; obtain ⟨hcz16_0, hcz16_1, hcz16_2, hcz16_3, hcz16_4, hcz16_5, hcz16_6, hcz16_7, hfz16_0, hfz16_1, hfz16_2, hfz16_3, hfz16_4, hfz16_5, hfz16_6, hfz16_7⟩ := blk_all8 BK231.out) | ((with_reducible refine gate_callee (f := 16) rfl ?_); refine goesL_ (some 11) rfl rfl Tryz.func16 (by kernel_rfl) rfl #[.agg #[.string (⟨#[97]⟩ : ByteArray), .int .i64 4, .int .i64 0, .int .i64 0, .int .i64 0, .int .i64 0, .string (⟨#[]⟩ : ByteArray), .slice none 0 0]] rfl (by (try simp only [List.map_toArray, List.map_cons, List.map_nil]); first | done | rfl | (simp only [List.length_drop, List.length_take]; rfl)) ?_; (refine (memb_Lay.calls k (⟨#[97]⟩ : ByteArray) 4 0 0 0 0 (⟨#[]⟩ : ByteArray) _ _ ([] : List Int) t232 t235 _ ⟨HTB.out.below belA_⟩ ?side1 ?side2 A1.out).mono ?_); (case side1 => exact Kd.C_nil _ _); (case side2 => exact Nat.le_refl _); rintro e w17 ⟨v233, rfl, ho0, hb⟩; refine ⟨_, rfl, ?_⟩; have n0_ := Aside0.mk (Kd.R_lower ho0 bsize_); have n1_ := Aside0.mk (blk_below (g := gb231) (o := .cells #[.string (⟨#[97]⟩ : ByteArray), .int .i64 4, .int .i64 0, .int .i64 0, .int .i64 0, .int .i64 0, .string (⟨#[]⟩ : ByteArray), .slice none 0 0] 38 (0, 0)) (by (with_reducible repeat (first | refine blk_drewN ?_ _ | refine blk_drew ?_ | refine blk_alloc ?_ _)); refine blk_put (cs := #[.string (⟨#[97]⟩ : ByteArray), .int .i64 4, .int .i64 0, .int .i64 0, .int .i64 0, .int .i64 0, .string (⟨#[]⟩ : ByteArray), .slice none 0 0]) ?_ 7 _ rfl; (with_reducible repeat (first | refine blk_drewN ?_ _ | refine blk_drew ?_ | refine blk_alloc ?_ _)); refine blk_put (cs := #[.string (⟨#[97]⟩ : ByteArray), .int .i64 4, .int .i64 0, .int .i64 0, .int .i64 0, .int .i64 0, .string (⟨#[]⟩ : ByteArray), .slice none 0 0]) ?_ 6 _ rfl; (with_reducible repeat (first | refine blk_drewN ?_ _ | refine blk_drew ?_ | refine blk_alloc ?_ _)); refine blk_put (cs := #[.string (⟨#[97]⟩ : ByteArray), .int .i64 4, .int .i64 0, .int .i64 0, .int .i64 0, .int .i64 0, .string (⟨#[]⟩ : ByteArray), .slice none 0 0]) ?_ 5 _ rfl; (with_reducible repeat (first | refine blk_drewN ?_ _ | refine blk_drew ?_ | refine blk_alloc ?_ _)); refine blk_put (cs := #[.string (⟨#[97]⟩ : ByteArray), .int .i64 4, .int .i64 0, .int .i64 0, .int .i64 0, .int .i64 0, .string (⟨#[]⟩ : ByteArray), .slice none 0 0]) ?_ 4 _ rfl; (with_reducible repeat (first | refine blk_drewN ?_ _ | refine blk_drew ?_ | refine blk_alloc ?_ _)); refine blk_put (cs := #[.string (⟨#[97]⟩ : ByteArray), .int .i64 4, .int .i64 0, .int .i64 0, .int .i64 0, .int .i64 0, .string (⟨#[]⟩ : ByteArray), .slice none 0 0]) ?_ 3 _ rfl; (with_reducible repeat (first | refine blk_drewN ?_ _ | refine blk_drew ?_ | refine blk_alloc ?_ _)); refine blk_put (cs := #[.string (⟨#[97]⟩ : ByteArray), .int .i64 4, .int .i64 0, .int .i64 0, .int .i64 0, .int .i64 0, .string (⟨#[]⟩ : ByteArray), .slice none 0 0]) ?_ 2 _ rfl; (with_reducible repeat (first | refine blk_drewN ?_ _ | refine blk_drew ?_ | refine blk_alloc ?_ _)); refine blk_put (cs := #[.string (⟨#[97]⟩ : ByteArray), .int .i64 0, .int .i64 0, .int .i64 0, .int .i64 0, .int .i64 0, .string (⟨#[]⟩ : ByteArray), .slice none 0 0]) ?_ 1 _ rfl; (with_reducible repeat (first | refine blk_drewN ?_ _ | refine blk_drew ?_ | refine blk_alloc ?_ _)); refine blk_put (cs := #[.string (⟨#[]⟩ : ByteArray), .int .i64 0, .int .i64 0, .int .i64 0, .int .i64 0, .int .i64 0, .string (⟨#[]⟩ : ByteArray), .slice none 0 0]) ?_ 0 _ rfl; (with_reducible repeat (first | refine blk_drewN ?_ _ | refine blk_drew ?_ | refine blk_alloc ?_ _)); exact BK231.out) hb); have n2_ := Aside0.mk (bstep_ hb); clear BK231; clear HB; have HO234 := n0_; have BK231 := n1_; have HB := n2_; clear n0_ n1_ n2_; (try clear hb); (try clear hb2); (try clear hk); (try clear hi); (try clear ho0); obtain ⟨Ao18, co18, eo18⟩ := Kd.R_slice HO234.out; subst eo18) | ((with_reducible refine gate_callee (f := 18) rfl ?_); refine goesA_ (some 16) Tryz.func18 #[.slice Ao18 t232.length co18] ?_; (with_reducible refine (head_Parse.calls k _ _ t232 t236 t237 t238 t239 t240 t241 t242 t243 t244 t245 _ ?side1 ?side2 A2.out).mono ?_); (case side1 => repeat (first | exact (Kd.R_reads' HO234.out).2.2 | (with_reducible refine Kd.C_alloc ?_ _) | (with_reducible refine Kd.C_drewN ?_ _) | (with_reducible refine Kd.C_drew ?_))); (case side2 => exact (Kd.R_reads' HO234.out).2.1); rintro e w19 ⟨rfl, hb⟩; refine ⟨_, rfl, ?_⟩; have n0_ := Aside0.mk (Kd.R_below (by (with_reducible repeat (first | apply Kd.R_alloc | apply Kd.R_drewN | apply Kd.R_drew)); exact HO234.out) hb); have n1_ := Aside0.mk (blkB_ BK231.out hb); have n2_ := Aside0.mk (bstep_ hb); clear HO234; clear BK231; clear HB; have HO234 := n0_; have BK231 := n1_; have HB := n2_; clear n0_ n1_ n2_; (try clear hb); (try clear hb2); (try clear hk); (try clear hi)) | ((with_reducible refine gate_dst (N := 4) rfl ?_); refine boxA_ 4 43 #[.string (⟨#[]⟩ : ByteArray), .string (⟨#[]⟩ : ByteArray), .int .i64 0, .int .i64 0, .int .i64 0, .int .i64 0, .int .i64 0, .int .u8 0, .string (⟨#[]⟩ : ByteArray)] ?_; intro gb246 hg w20 hbox hb; have n0_ := Aside0.mk (Kd.R_below (by (with_reducible repeat (first | apply Kd.R_alloc | apply Kd.R_drewN | apply Kd.R_drew)); exact HO234.out) hb); have n1_ := Aside0.mk (blkB_ BK231.out hb); have n2_ := Aside0.mk (bstep_ hb); have n3_ := Aside0.mk (hbox); have n4_ := Aside0.mk ((by rw [hg]; exact bsize_ : w.heap.size ≤ gb246)); have n5_ := Aside0.mk ((by rw [hg]; exact bsize_ : w.heap.size ≤ gb246)); have n6_ := Aside0.mk ((by rw [hg]; exact Nat.ne_of_lt (blkL_ BK231.out) : gb231 ≠ gb246)); have n7_ := Aside0.mk ((by rw [hg]; exact Nat.ne_of_gt (blkL_ BK231.out) : gb246 ≠ gb231)); clear HO234; clear BK231; clear HB; have HO234 := n0_; have BK231 := n1_; have HB := n2_; have BK246 := n3_; have GW246 := n4_; have GE246 := n5_; have NB231_246 := n6_; have NB246_231 := n7_; clear n0_ n1_ n2_ n3_ n4_ n5_ n6_ n7_; clear hb hbox hg; have hnb21 := NB246_231.out; have hnc21 := NB231_246.out; obtain ⟨hcz22_0, hcz22_1, hcz22_2, hcz22_3, hcz22_4, hcz22_5, hcz22_6, hcz22_7, hcz22_8, hfz22_0, hfz22_1, hfz22_2, hfz22_3, hfz22_4, hfz22_5, hfz22_6, hfz22_7, hfz22_8⟩ := blk_all9 BK246.out) | ((with_reducible refine gate_callee (f := 11) rfl ?_); refine goesA_ (some 21) Tryz.func11 #[.agg #[.string t236, .string t237, .int .i64 t238, .int .i64 t239, .int .i64 t240, .int .i64 t241, .int .i64 t242, .int .u8 t243, .string t244], .slice none 0 0, .slice none 0 0] ?_; (refine (memb_From.calls k t236 t237 t238 t239 t240 t241 t242 t243 t244 _ _ ([] : List (S35)) _ _ ([] : List Int) t247 t248 t249 t250 t251 t252 t253 t254 t257 _ ?side1 ?side2 ?side3 ?side4 A3.out).mono ?_); (case side1 => exact Kd.C_nil _ _); (case side2 => exact Nat.le_refl _); (case side3 => exact Kd.C_nil _ _); (case side4 => exact Nat.le_refl _); rintro e w23 ⟨v255, rfl, ho0, hb⟩; refine ⟨_, rfl, ?_⟩; have n0_ := Aside0.mk (Kd.R_elder' (by (with_reducible repeat (first | apply Kd.R_alloc | apply Kd.R_drewN | apply Kd.R_drew)); exact (Kd.R_mono (Kd.R_far (p := ⟨gb246, 8, none⟩) (Kd.R_far (p := ⟨gb246, 7, none⟩) (Kd.R_far (p := ⟨gb246, 6, none⟩) (Kd.R_far (p := ⟨gb246, 5, none⟩) (Kd.R_far (p := ⟨gb246, 4, none⟩) (Kd.R_far (p := ⟨gb246, 3, none⟩) (Kd.R_far (p := ⟨gb246, 2, none⟩) (Kd.R_far (p := ⟨gb246, 1, none⟩) (Kd.R_far (p := ⟨gb246, 0, none⟩) (Kd.R_types HO234.out BK246.out (by decide)) (fun _ hk => hk.2) (.string t236)) (fun _ hk => hk.2) (.string t237)) (fun _ hk => hk.2) (.int .i64 t238)) (fun _ hk => hk.2) (.int .i64 t239)) (fun _ hk => hk.2) (.int .i64 t240)) (fun _ hk => hk.2) (.int .i64 t241)) (fun _ hk => hk.2) (.int .i64 t242)) (fun _ hk => hk.2) (.int .u8 t243)) (fun _ hk => hk.2) (.string t244)) (fun _ h_ => h_.1))) (Kd.R_base ho0) hb); have n1_ := Aside0.mk (Kd.R_lower (Kd.R_new' ho0 (Kd.R_lt (by (with_reducible repeat (first | apply Kd.R_alloc | apply Kd.R_drewN | apply Kd.R_drew)); exact (Kd.R_mono (Kd.R_far (p := ⟨gb246, 8, none⟩) (Kd.R_far (p := ⟨gb246, 7, none⟩) (Kd.R_far (p := ⟨gb246, 6, none⟩) (Kd.R_far (p := ⟨gb246, 5, none⟩) (Kd.R_far (p := ⟨gb246, 4, none⟩) (Kd.R_far (p := ⟨gb246, 3, none⟩) (Kd.R_far (p := ⟨gb246, 2, none⟩) (Kd.R_far (p := ⟨gb246, 1, none⟩) (Kd.R_far (p := ⟨gb246, 0, none⟩) (Kd.R_types HO234.out BK246.out (by decide)) (fun _ hk => hk.2) (.string t236)) (fun _ hk => hk.2) (.string t237)) (fun _ hk => hk.2) (.int .i64 t238)) (fun _ hk => hk.2) (.int .i64 t239)) (fun _ hk => hk.2) (.int .i64 t240)) (fun _ hk => hk.2) (.int .i64 t241)) (fun _ hk => hk.2) (.int .i64 t242)) (fun _ hk => hk.2) (.int .u8 t243)) (fun _ hk => hk.2) (.string t244)) (fun _ h_ => h_.1))))) bsize_); have n2_ := Aside0.mk (blk_below (g := gb231) (o := .cells #[.string (⟨#[97]⟩ : ByteArray), .int .i64 4, .int .i64 0, .int .i64 0, .int .i64 0, .int .i64 0, .string (⟨#[]⟩ : ByteArray), .slice none 0 0] 38 (0, 0)) (by (with_reducible repeat (first | refine blk_drewN ?_ _ | refine blk_drew ?_ | refine blk_alloc ?_ _)); refine blk_far ?_ NB231_246.out _; (with_reducible repeat (first | refine blk_drewN ?_ _ | refine blk_drew ?_ | refine blk_alloc ?_ _)); refine blk_far ?_ NB231_246.out _; (with_reducible repeat (first | refine blk_drewN ?_ _ | refine blk_drew ?_ | refine blk_alloc ?_ _)); refine blk_far ?_ NB231_246.out _; (with_reducible repeat (first | refine blk_drewN ?_ _ | refine blk_drew ?_ | refine blk_alloc ?_ _)); refine blk_far ?_ NB231_246.out _; (with_reducible repeat (first | refine blk_drewN ?_ _ | refine blk_drew ?_ | refine blk_alloc ?_ _)); refine blk_far ?_ NB231_246.out _; (with_reducible repeat (first | refine blk_drewN ?_ _ | refine blk_drew ?_ | refine blk_alloc ?_ _)); refine blk_far ?_ NB231_246.out _; (with_reducible repeat (first | refine blk_drewN ?_ _ | refine blk_drew ?_ | refine blk_alloc ?_ _)); refine blk_far ?_ NB231_246.out _; (with_reducible repeat (first | refine blk_drewN ?_ _ | refine blk_drew ?_ | refine blk_alloc ?_ _)); refine blk_far ?_ NB231_246.out _; (with_reducible repeat (first | refine blk_drewN ?_ _ | refine blk_drew ?_ | refine blk_alloc ?_ _)); refine blk_far ?_ NB231_246.out _; (with_reducible repeat (first | refine blk_drewN ?_ _ | refine blk_drew ?_ | refine blk_alloc ?_ _)); exact BK231.out) hb); have n3_ := Aside0.mk (blk_below (g := gb246) (o := .cells #[.string t236, .string t237, .int .i64 t238, .int .i64 t239, .int .i64 t240, .int .i64 t241, .int .i64 t242, .int .u8 t243, .string t244] 43 (0, 0)) (by (with_reducible repeat (first | refine blk_drewN ?_ _ | refine blk_drew ?_ | refine blk_alloc ?_ _)); refine blk_put (cs := #[.string t236, .string t237, .int .i64 t238, .int .i64 t239, .int .i64 t240, .int .i64 t241, .int .i64 t242, .int .u8 t243, .string (⟨#[]⟩ : ByteArray)]) ?_ 8 _ rfl; (with_reducible repeat (first | refine blk_drewN ?_ _ | refine blk_drew ?_ | refine blk_alloc ?_ _)); refine blk_put (cs := #[.string t236, .string t237, .int .i64 t238, .int .i64 t239, .int .i64 t240, .int .i64 t241, .int .i64 t242, .int .u8 0, .string (⟨#[]⟩ : ByteArray)]) ?_ 7 _ rfl; (with_reducible repeat (first | refine blk_drewN ?_ _ | refine blk_drew ?_ | refine blk_alloc ?_ _)); refine blk_put (cs := #[.string t236, .string t237, .int .i64 t238, .int .i64 t239, .int .i64 t240, .int .i64 t241, .int .i64 0, .int .u8 0, .string (⟨#[]⟩ : ByteArray)]) ?_ 6 _ rfl; (with_reducible repeat (first | refine blk_drewN ?_ _ | refine blk_drew ?_ | refine blk_alloc ?_ _)); refine blk_put (cs := #[.string t236, .string t237, .int .i64 t238, .int .i64 t239, .int .i64 t240, .int .i64 0, .int .i64 0, .int .u8 0, .string (⟨#[]⟩ : ByteArray)]) ?_ 5 _ rfl; (with_reducible repeat (first | refine blk_drewN ?_ _ | refine blk_drew ?_ | refine blk_alloc ?_ _)); refine blk_put (cs := #[.string t236, .string t237, .int .i64 t238, .int .i64 t239, .int .i64 0, .int .i64 0, .int .i64 0, .int .u8 0, .string (⟨#[]⟩ : ByteArray)]) ?_ 4 _ rfl; (with_reducible repeat (first | refine blk_drewN ?_ _ | refine blk_drew ?_ | refine blk_alloc ?_ _)); refine blk_put (cs := #[.string t236, .string t237, .int .i64 t238, .int .i64 0, .int .i64 0, .int .i64 0, .int .i64 0, .int .u8 0, .string (⟨#[]⟩ : ByteArray)]) ?_ 3 _ rfl; (with_reducible repeat (first | refine blk_drewN ?_ _ | refine blk_drew ?_ | refine blk_alloc ?_ _)); refine blk_put (cs := #[.string t236, .string t237, .int .i64 0, .int .i64 0, .int .i64 0, .int .i64 0, .int .i64 0, .int .u8 0, .string (⟨#[]⟩ : ByteArray)]) ?_ 2 _ rfl; (with_reducible repeat (first | refine blk_drewN ?_ _ | refine blk_drew ?_ | refine blk_alloc ?_ _)); refine blk_put (cs := #[.string t236, .string (⟨#[]⟩ : ByteArray), .int .i64 0, .int .i64 0, .int .i64 0, .int .i64 0, .int .i64 0, .int .u8 0, .string (⟨#[]⟩ : ByteArray)]) ?_ 1 _ rfl; (with_reducible repeat (first | refine blk_drewN ?_ _ | refine blk_drew ?_ | refine blk_alloc ?_ _)); refine blk_put (cs := #[.string (⟨#[]⟩ : ByteArray), .string (⟨#[]⟩ : ByteArray), .int .i64 0, .int .i64 0, .int .i64 0, .int .i64 0, .int .i64 0, .int .u8 0, .string (⟨#[]⟩ : ByteArray)]) ?_ 0 _ rfl; (with_reducible repeat (first | refine blk_drewN ?_ _ | refine blk_drew ?_ | refine blk_alloc ?_ _)); exact BK246.out) hb); have n4_ := Aside0.mk (bstep_ hb); clear HO234; clear BK231; clear BK246; clear HB; have HO234 := n0_; have HO256 := n1_; have BK231 := n2_; have BK246 := n3_; have HB := n4_; clear n0_ n1_ n2_ n3_ n4_; (try clear hb); (try clear hb2); (try clear hk); (try clear hi); (try clear ho0)) | ((with_reducible refine gate_dst (N := 6) rfl ?_); refine boxA_ 6 38 #[.string (⟨#[]⟩ : ByteArray), .int .i64 0, .int .i64 0, .int .i64 0, .int .i64 0, .int .i64 0, .string (⟨#[]⟩ : ByteArray), .slice none 0 0] ?_; intro gb258 hg w24 hbox hb; have n0_ := Aside0.mk (Kd.R_below (by (with_reducible repeat (first | apply Kd.R_alloc | apply Kd.R_drewN | apply Kd.R_drew)); exact HO234.out) hb); have n1_ := Aside0.mk (Kd.R_below (by (with_reducible repeat (first | apply Kd.R_alloc | apply Kd.R_drewN | apply Kd.R_drew)); exact HO256.out) hb); have n2_ := Aside0.mk (blkB_ BK231.out hb); have n3_ := Aside0.mk (blkB_ BK246.out hb); have n4_ := Aside0.mk (bstep_ hb); have n5_ := Aside0.mk (hbox); have n6_ := Aside0.mk ((by rw [hg]; exact bsize_ : w.heap.size ≤ gb258)); have n7_ := Aside0.mk ((by rw [hg]; exact bsize_ : w.heap.size ≤ gb258)); have n8_ := Aside0.mk ((by rw [hg]; exact Nat.ne_of_lt (blkL_ BK231.out) : gb231 ≠ gb258)); have n9_ := Aside0.mk ((by rw [hg]; exact Nat.ne_of_gt (blkL_ BK231.out) : gb258 ≠ gb231)); have n10_ := Aside0.mk ((by rw [hg]; exact Nat.ne_of_lt (blkL_ BK246.out) : gb246 ≠ gb258)); have n11_ := Aside0.mk ((by rw [hg]; exact Nat.ne_of_gt (blkL_ BK246.out) : gb258 ≠ gb246)); clear HO234; clear HO256; clear BK231; clear BK246; clear HB; have HO234 := n0_; have HO256 := n1_; have BK231 := n2_; have BK246 := n3_; have HB := n4_; have BK258 := n5_; have GW258 := n6_; have GE258 := n7_; have NB231_258 := n8_; have NB258_231 := n9_; have NB246_258 := n10_; have NB258_246 := n11_; clear n0_ n1_ n2_ n3_ n4_ n5_ n6_ n7_ n8_ n9_ n10_ n11_; clear hb hbox hg; have hnb25 := NB258_231.out; have hnc25 := NB231_258.out; have hnb26 := NB258_246.out; have hnc26 := NB246_258.out; obtain ⟨hcz27_0, hcz27_1, hcz27_2, hcz27_3, hcz27_4, hcz27_5, hcz27_6, hcz27_7, hfz27_0, hfz27_1, hfz27_2, hfz27_3, hfz27_4, hfz27_5, hfz27_6, hfz27_7⟩ := blk_all8 BK258.out; obtain ⟨Ao28, co28, eo28⟩ := Kd.R_slice HO256.out; subst eo28; obtain ⟨hcz29_0, hcz29_1, hcz29_2, hcz29_3, hcz29_4, hcz29_5, hcz29_6, hcz29_7, hfz29_0, hfz29_1, hfz29_2, hfz29_3, hfz29_4, hfz29_5, hfz29_6, hfz29_7⟩ := blk_all8 BK231.out) | (go_at_call 14; (refine (memb_Same.calls t247 t248 t249 t250 t251 t252 t253 _ _ t254 (⟨#[97]⟩ : ByteArray) 4 0 0 0 0 (⟨#[]⟩ : ByteArray) _ _ ([] : List Int) true _ ?side1 ?side2 ?side3 ?side4 A7.out).mono ?_); (case side1 => refine (Kd.R_reads' (e := 5) (base := w.heap.size) (ok := fun k_ => (True ∧ some k_ ≠ (.slice Ao18 t232.length co18 : Value).ownBlock)) (n := t254.length) (c := co28) ?_).2.2; exact (by (with_reducible repeat (first | apply Kd.R_alloc | apply Kd.R_drewN | apply Kd.R_drew)); exact (Kd.R_mono (Kd.R_far (p := ⟨gb258, 7, none⟩) (Kd.R_far (p := ⟨gb258, 6, none⟩) (Kd.R_far (p := ⟨gb258, 5, none⟩) (Kd.R_far (p := ⟨gb258, 4, none⟩) (Kd.R_far (p := ⟨gb258, 3, none⟩) (Kd.R_far (p := ⟨gb258, 2, none⟩) (Kd.R_far (p := ⟨gb258, 1, none⟩) (Kd.R_far (p := ⟨gb258, 0, none⟩) (Kd.R_types HO256.out BK258.out (by decide)) (fun _ hk => hk.2) (.string t247)) (fun _ hk => hk.2) (.int .i64 t248)) (fun _ hk => hk.2) (.int .i64 t249)) (fun _ hk => hk.2) (.int .i64 t250)) (fun _ hk => hk.2) (.int .i64 t251)) (fun _ hk => hk.2) (.int .i64 t252)) (fun _ hk => hk.2) (.string t253)) (fun _ hk => hk.2) (.slice Ao28 t254.length co28)) (fun _ h_ => h_.1)))); (case side2 => exact (Kd.R_reads' HO256.out).2.1); (case side3 => exact Kd.C_nil _ _); (case side4 => exact Nat.le_refl _); rintro e w30 ⟨rfl, hb⟩; have n0_ := Aside0.mk (Kd.R_below (by (with_reducible repeat (first | apply Kd.R_alloc | apply Kd.R_drewN | apply Kd.R_drew)); exact (Kd.R_mono (Kd.R_far (p := ⟨gb258, 7, none⟩) (Kd.R_far (p := ⟨gb258, 6, none⟩) (Kd.R_far (p := ⟨gb258, 5, none⟩) (Kd.R_far (p := ⟨gb258, 4, none⟩) (Kd.R_far (p := ⟨gb258, 3, none⟩) (Kd.R_far (p := ⟨gb258, 2, none⟩) (Kd.R_far (p := ⟨gb258, 1, none⟩) (Kd.R_far (p := ⟨gb258, 0, none⟩) (Kd.R_types HO234.out BK258.out (by decide)) (fun _ hk => hk.2) (.string t247)) (fun _ hk => hk.2) (.int .i64 t248)) (fun _ hk => hk.2) (.int .i64 t249)) (fun _ hk => hk.2) (.int .i64 t250)) (fun _ hk => hk.2) (.int .i64 t251)) (fun _ hk => hk.2) (.int .i64 t252)) (fun _ hk => hk.2) (.string t253)) (fun _ hk => hk.2) (.slice Ao28 t254.length co28)) (fun _ h_ => h_.1))) hb); have n1_ := Aside0.mk (Kd.R_below (by (with_reducible repeat (first | apply Kd.R_alloc | apply Kd.R_drewN | apply Kd.R_drew)); exact (Kd.R_mono (Kd.R_far (p := ⟨gb258, 7, none⟩) (Kd.R_far (p := ⟨gb258, 6, none⟩) (Kd.R_far (p := ⟨gb258, 5, none⟩) (Kd.R_far (p := ⟨gb258, 4, none⟩) (Kd.R_far (p := ⟨gb258, 3, none⟩) (Kd.R_far (p := ⟨gb258, 2, none⟩) (Kd.R_far (p := ⟨gb258, 1, none⟩) (Kd.R_far (p := ⟨gb258, 0, none⟩) (Kd.R_types HO256.out BK258.out (by decide)) (fun _ hk => hk.2) (.string t247)) (fun _ hk => hk.2) (.int .i64 t248)) (fun _ hk => hk.2) (.int .i64 t249)) (fun _ hk => hk.2) (.int .i64 t250)) (fun _ hk => hk.2) (.int .i64 t251)) (fun _ hk => hk.2) (.int .i64 t252)) (fun _ hk => hk.2) (.string t253)) (fun _ hk => hk.2) (.slice Ao28 t254.length co28)) (fun _ h_ => h_.1))) hb); have n2_ := Aside0.mk (blk_below (g := gb231) (o := .cells #[.string (⟨#[97]⟩ : ByteArray), .int .i64 4, .int .i64 0, .int .i64 0, .int .i64 0, .int .i64 0, .string (⟨#[]⟩ : ByteArray), .slice none 0 0] 38 (0, 0)) (by (with_reducible repeat (first | refine blk_drewN ?_ _ | refine blk_drew ?_ | refine blk_alloc ?_ _)); refine blk_far ?_ NB231_258.out _; (with_reducible repeat (first | refine blk_drewN ?_ _ | refine blk_drew ?_ | refine blk_alloc ?_ _)); refine blk_far ?_ NB231_258.out _; (with_reducible repeat (first | refine blk_drewN ?_ _ | refine blk_drew ?_ | refine blk_alloc ?_ _)); refine blk_far ?_ NB231_258.out _; (with_reducible repeat (first | refine blk_drewN ?_ _ | refine blk_drew ?_ | refine blk_alloc ?_ _)); refine blk_far ?_ NB231_258.out _; (with_reducible repeat (first | refine blk_drewN ?_ _ | refine blk_drew ?_ | refine blk_alloc ?_ _)); refine blk_far ?_ NB231_258.out _; (with_reducible repeat (first | refine blk_drewN ?_ _ | refine blk_drew ?_ | refine blk_alloc ?_ _)); refine blk_far ?_ NB231_258.out _; (with_reducible repeat (first | refine blk_drewN ?_ _ | refine blk_drew ?_ | refine blk_alloc ?_ _)); refine blk_far ?_ NB231_258.out _; (with_reducible repeat (first | refine blk_drewN ?_ _ | refine blk_drew ?_ | refine blk_alloc ?_ _)); refine blk_far ?_ NB231_258.out _; (with_reducible repeat (first | refine blk_drewN ?_ _ | refine blk_drew ?_ | refine blk_alloc ?_ _)); exact BK231.out) hb); have n3_ := Aside0.mk (blk_below (g := gb246) (o := .cells #[.string t236, .string t237, .int .i64 t238, .int .i64 t239, .int .i64 t240, .int .i64 t241, .int .i64 t242, .int .u8 t243, .string t244] 43 (0, 0)) (by (with_reducible repeat (first | refine blk_drewN ?_ _ | refine blk_drew ?_ | refine blk_alloc ?_ _)); refine blk_far ?_ NB246_258.out _; (with_reducible repeat (first | refine blk_drewN ?_ _ | refine blk_drew ?_ | refine blk_alloc ?_ _)); refine blk_far ?_ NB246_258.out _; (with_reducible repeat (first | refine blk_drewN ?_ _ | refine blk_drew ?_ | refine blk_alloc ?_ _)); refine blk_far ?_ NB246_258.out _; (with_reducible repeat (first | refine blk_drewN ?_ _ | refine blk_drew ?_ | refine blk_alloc ?_ _)); refine blk_far ?_ NB246_258.out _; (with_reducible repeat (first | refine blk_drewN ?_ _ | refine blk_drew ?_ | refine blk_alloc ?_ _)); refine blk_far ?_ NB246_258.out _; (with_reducible repeat (first | refine blk_drewN ?_ _ | refine blk_drew ?_ | refine blk_alloc ?_ _)); refine blk_far ?_ NB246_258.out _; (with_reducible repeat (first | refine blk_drewN ?_ _ | refine blk_drew ?_ | refine blk_alloc ?_ _)); refine blk_far ?_ NB246_258.out _; (with_reducible repeat (first | refine blk_drewN ?_ _ | refine blk_drew ?_ | refine blk_alloc ?_ _)); refine blk_far ?_ NB246_258.out _; (with_reducible repeat (first | refine blk_drewN ?_ _ | refine blk_drew ?_ | refine blk_alloc ?_ _)); exact BK246.out) hb); have n4_ := Aside0.mk (blk_below (g := gb258) (o := .cells #[.string t247, .int .i64 t248, .int .i64 t249, .int .i64 t250, .int .i64 t251, .int .i64 t252, .string t253, .slice Ao28 t254.length co28] 38 (0, 0)) (by (with_reducible repeat (first | refine blk_drewN ?_ _ | refine blk_drew ?_ | refine blk_alloc ?_ _)); refine blk_put (cs := #[.string t247, .int .i64 t248, .int .i64 t249, .int .i64 t250, .int .i64 t251, .int .i64 t252, .string t253, .slice none 0 0]) ?_ 7 _ rfl; (with_reducible repeat (first | refine blk_drewN ?_ _ | refine blk_drew ?_ | refine blk_alloc ?_ _)); refine blk_put (cs := #[.string t247, .int .i64 t248, .int .i64 t249, .int .i64 t250, .int .i64 t251, .int .i64 t252, .string (⟨#[]⟩ : ByteArray), .slice none 0 0]) ?_ 6 _ rfl; (with_reducible repeat (first | refine blk_drewN ?_ _ | refine blk_drew ?_ | refine blk_alloc ?_ _)); refine blk_put (cs := #[.string t247, .int .i64 t248, .int .i64 t249, .int .i64 t250, .int .i64 t251, .int .i64 0, .string (⟨#[]⟩ : ByteArray), .slice none 0 0]) ?_ 5 _ rfl; (with_reducible repeat (first | refine blk_drewN ?_ _ | refine blk_drew ?_ | refine blk_alloc ?_ _)); refine blk_put (cs := #[.string t247, .int .i64 t248, .int .i64 t249, .int .i64 t250, .int .i64 0, .int .i64 0, .string (⟨#[]⟩ : ByteArray), .slice none 0 0]) ?_ 4 _ rfl; (with_reducible repeat (first | refine blk_drewN ?_ _ | refine blk_drew ?_ | refine blk_alloc ?_ _)); refine blk_put (cs := #[.string t247, .int .i64 t248, .int .i64 t249, .int .i64 0, .int .i64 0, .int .i64 0, .string (⟨#[]⟩ : ByteArray), .slice none 0 0]) ?_ 3 _ rfl; (with_reducible repeat (first | refine blk_drewN ?_ _ | refine blk_drew ?_ | refine blk_alloc ?_ _)); refine blk_put (cs := #[.string t247, .int .i64 t248, .int .i64 0, .int .i64 0, .int .i64 0, .int .i64 0, .string (⟨#[]⟩ : ByteArray), .slice none 0 0]) ?_ 2 _ rfl; (with_reducible repeat (first | refine blk_drewN ?_ _ | refine blk_drew ?_ | refine blk_alloc ?_ _)); refine blk_put (cs := #[.string t247, .int .i64 0, .int .i64 0, .int .i64 0, .int .i64 0, .int .i64 0, .string (⟨#[]⟩ : ByteArray), .slice none 0 0]) ?_ 1 _ rfl; (with_reducible repeat (first | refine blk_drewN ?_ _ | refine blk_drew ?_ | refine blk_alloc ?_ _)); refine blk_put (cs := #[.string (⟨#[]⟩ : ByteArray), .int .i64 0, .int .i64 0, .int .i64 0, .int .i64 0, .int .i64 0, .string (⟨#[]⟩ : ByteArray), .slice none 0 0]) ?_ 0 _ rfl; (with_reducible repeat (first | refine blk_drewN ?_ _ | refine blk_drew ?_ | refine blk_alloc ?_ _)); exact BK258.out) hb); have n5_ := Aside0.mk (bstep_ hb); clear HO234; clear HO256; clear BK231; clear BK246; clear BK258; clear HB; have HO234 := n0_; have HO256 := n1_; have BK231 := n2_; have BK246 := n3_; have BK258 := n4_; have HB := n5_; clear n0_ n1_ n2_ n3_ n4_ n5_; (try clear hb); (try clear hb2); (try clear hk); (try clear hi)) | (go_at_call 6; (with_reducible refine (memb_Type.calls 3 t260 _ A10.out).mono ?_); rintro e w' ⟨rfl, ⟨nd, rfl⟩⟩) | (go_at_call 7; (with_reducible refine (memb_Kind.calls 53 t261 _ A12.out).mono ?_); rintro e w31 ⟨rfl, hb⟩; have n0_ := Aside0.mk (Kd.R_below (by (with_reducible repeat (first | apply Kd.R_alloc | apply Kd.R_drewN | apply Kd.R_drew)); exact HO234.out) hb); have n1_ := Aside0.mk (Kd.R_below (by (with_reducible repeat (first | apply Kd.R_alloc | apply Kd.R_drewN | apply Kd.R_drew)); exact HO256.out) hb); have n2_ := Aside0.mk (blkB_ BK231.out hb); have n3_ := Aside0.mk (blkB_ BK246.out hb); have n4_ := Aside0.mk (blkB_ BK258.out hb); have n5_ := Aside0.mk (bstep_ hb); clear HO234; clear HO256; clear BK231; clear BK246; clear BK258; clear HB; have HO234 := n0_; have HO256 := n1_; have BK231 := n2_; have BK246 := n3_; have BK258 := n4_; have HB := n5_; clear n0_ n1_ n2_ n3_ n4_ n5_; (try clear hb); (try clear hb2); (try clear hk); (try clear hi); obtain ⟨hcz32_0, hcz32_1, hcz32_2, hcz32_3, hcz32_4, hcz32_5, hcz32_6, hcz32_7, hfz32_0, hfz32_1, hfz32_2, hfz32_3, hfz32_4, hfz32_5, hfz32_6, hfz32_7⟩ := blk_all8 BK231.out) | (go_at_call 20; (refine (memb_Len.calls k (⟨#[97]⟩ : ByteArray) 4 0 0 0 0 (⟨#[]⟩ : ByteArray) _ _ ([] : List Int) t262 _ ⟨HTB.out.below belA_⟩ ?side1 ?side2 A14.out).mono ?_); (case side1 => exact Kd.C_nil _ _); (case side2 => exact Nat.le_refl _); rintro e w33 ⟨rfl, hb⟩; have n0_ := Aside0.mk (Kd.R_below (by (with_reducible repeat (first | apply Kd.R_alloc | apply Kd.R_drewN | apply Kd.R_drew)); exact HO234.out) hb); have n1_ := Aside0.mk (Kd.R_below (by (with_reducible repeat (first | apply Kd.R_alloc | apply Kd.R_drewN | apply Kd.R_drew)); exact HO256.out) hb); have n2_ := Aside0.mk (blkB_ BK231.out hb); have n3_ := Aside0.mk (blkB_ BK246.out hb); have n4_ := Aside0.mk (blkB_ BK258.out hb); have n5_ := Aside0.mk (bstep_ hb); clear HO234; clear HO256; clear BK231; clear BK246; clear BK258; clear HB; have HO234 := n0_; have HO256 := n1_; have BK231 := n2_; have BK246 := n3_; have BK258 := n4_; have HB := n5_; clear n0_ n1_ n2_ n3_ n4_ n5_; (try clear hb); (try clear hb2); (try clear hk); (try clear hi)))
        go_ret
        exact finA_
       ·rw [if_neg c13] at H
        have c13b0 : (t261 == 4) = false := beq_eq_false_iff_ne.mpr c13
        have c13b1 : (t261 != 4) = true := bne_iff_ne.mpr c13
        exact absurd (H.trans (congrArg some HT.out)) (by simp)
      ·rw [if_neg c11] at H
       have c11b0 : (t260 == 50) = false := beq_eq_false_iff_ne.mpr c11
       have c11b1 : (t260 != 50) = true := bne_iff_ne.mpr c11
       exact absurd (H.trans (congrArg some HT.out)) (by simp)
     ·rw [if_neg c9] at H
      have c9b0 : (t257 == 0) = false := beq_eq_false_iff_ne.mpr c9
      have c9b1 : (t257 != 0) = true := bne_iff_ne.mpr c9
      exact absurd (H.trans (congrArg some HT.out)) (by simp)
    ·replace c8 := Bool.eq_false_iff.mpr c8
     subst c8
     have H1 := H; rw [if_neg (show ¬ (false = true) by decide)] at H1
     clear H
     have H := H1
     clear H1
     exact absurd (H.trans (congrArg some HT.out)) (by simp)
   ·rw [if_neg c6] at H
    have c6b0 : (t245 == 0) = false := beq_eq_false_iff_ne.mpr c6
    have c6b1 : (t245 != 0) = true := bne_iff_ne.mpr c6
    exact absurd (H.trans (congrArg some HT.out)) (by simp)
  ·rw [if_neg c5] at H
   have c5b0 : (t235 == 0) = false := beq_eq_false_iff_ne.mpr c5
   have c5b1 : (t235 != 0) = true := bne_iff_ne.mpr c5
   exact absurd (H.trans (congrArg some HT.out)) (by simp)
 ·rw [if_neg c4] at H
  have c4b0 : ((t232.length : Int) == 512) = false := beq_eq_false_iff_ne.mpr c4
  have c4b1 : ((t232.length : Int) != 512) = true := bne_iff_ne.mpr c4
  exact absurd (H.trans (congrArg some HT.out)) (by simp)

/-! ### thwartref02_Join: function 25 -/
def thwartref02_Join.f (a0 : ByteArray) (a1 : ByteArray) : Option (ByteArray) := if a0.toList = ([] : List UInt8) then (some a1) else (if a0.size + 1 ≤ 9223372036854775807 then (if (a0 ++ (⟨#[47]⟩ : ByteArray)).size + a1.size ≤ 9223372036854775807 then (some ((a0 ++ (⟨#[47]⟩ : ByteArray)) ++ a1)) else (none)) else (none))
set_option maxHeartbeats 8000000 in
set_option maxRecDepth 100000 in
theorem thwartref02_Join.calls (a0 : ByteArray) (a1 : ByteArray) (r : ByteArray) (w : World) (h : thwartref02_Join.f a0 a1 = some r) :
  Calls Tryz.prog 25 #[.string a0, .string a1] w fun e w' => e = .returned (.string r) ∧ Drawn0 w w' := by
 have H : (if a0.toList = ([] : List UInt8) then (some a1) else (if a0.size + 1 ≤ 9223372036854775807 then (if (a0 ++ (⟨#[47]⟩ : ByteArray)).size + a1.size ≤ 9223372036854775807 then (some ((a0 ++ (⟨#[47]⟩ : ByteArray)) ++ a1)) else (none)) else (none))) = some r := h
 clear h
 by_cases c3 : a0.toList = ([] : List UInt8)
 ·rw [if_pos c3] at H
  have c3b0 : (a0.toList == ([] : List UInt8)) = true := beq_iff_eq.mpr c3
  have c3b1 : (a0.toList != ([] : List UInt8)) = false := bne_eq_false_iff_eq.mpr c3
  clear c3
  obtain rfl := Option.some.inj H
  go_enter Tryz.func25, Tryz.ntmps25
  go_wp2
  go_ret
  exact ⟨by first | rfl | (simp; done) | (simp [*]; done) | (simp only [bytes_ne, bytes_eq] <;> rfl), by repeat (first | exact Drawn0.refl _ | apply Drawn0.step)⟩
 ·rw [if_neg c3] at H
  have c3b0 : (a0.toList == ([] : List UInt8)) = false := beq_eq_false_iff_ne.mpr c3
  have c3b1 : (a0.toList != ([] : List UInt8)) = true := bne_iff_ne.mpr c3
  by_cases c4 : a0.size + 1 ≤ 9223372036854775807
  ·rw [if_pos c4] at H
   have c4b0 := eq_true c4
   have c4b1 : decide (a0.size + 1 ≤ 9223372036854775807) = true := decide_eq_true c4
   try have c4b2 : (9223372036854775807 < a0.size + 1) = False := eq_false (Nat.not_lt.2 c4)
   by_cases c5 : (a0 ++ (⟨#[47]⟩ : ByteArray)).size + a1.size ≤ 9223372036854775807
   ·rw [if_pos c5] at H
    have c5b0 := eq_true c5
    have c5b1 : decide ((a0 ++ (⟨#[47]⟩ : ByteArray)).size + a1.size ≤ 9223372036854775807) = true := decide_eq_true c5
    try have c5b2 : (9223372036854775807 < (a0 ++ (⟨#[47]⟩ : ByteArray)).size + a1.size) = False := eq_false (Nat.not_lt.2 c5)
    try have c5b3 : (9223372036854775807 < a0.size + 1 + a1.size) = False := by have h_ := Nat.not_lt.2 c5; simp only [ByteArray.size_append] at h_; exact eq_false h_
    obtain rfl := Option.some.inj H
    go_enter Tryz.func25, Tryz.ntmps25
    go_wp2
    go_ret
    exact ⟨by first | rfl | (simp; done) | (simp [*]; done) | (simp only [bytes_ne, bytes_eq] <;> rfl), by repeat (first | exact Drawn0.refl _ | apply Drawn0.step)⟩
   ·rw [if_neg c5] at H
    exact absurd H (by simp)
  ·rw [if_neg c4] at H
   exact absurd H (by simp)


/-! ### thwartref06_Find: function 26 -/
def thwartref06_Find.l0 : Nat → List (S34) → ByteArray → Int → Option (ByteArray × Bool)
 | 0, _, _, _ => none
 | k + 1, x0, x1, x6 => if x6 ≥ 0 then (if 0 ≤ x6 then (if x6 < (x0.length : Int) then (if ((rd_T34 x0 x6).f0).toList = x1.toList then (some ((rd_T34 x0 x6).f1, true)) else (thwartref06_Find.l0 k x0 x1 (wrap64 (x6 - 1)))) else (none)) else (none)) else (some ((⟨#[]⟩ : ByteArray), false))
def thwartref06_Find.f (k : Nat) (l0 : List (S34)) (a1 : ByteArray) : Option (ByteArray × Bool) := thwartref06_Find.l0 k l0 a1 (wrap64 ((l0.length : Int) - 1))
theorem thwartref06_Find.mono_l : ∀ k, (∀ y0 y1 y2, LeO (thwartref06_Find.l0 k y0 y1 y2) (thwartref06_Find.l0 (k + 1) y0 y1 y2))
 | 0 => fun _ _ _ r h => by simp [thwartref06_Find.l0] at h
 | k + 1 => by
  have ih0 := thwartref06_Find.mono_l k
  ·intro y0 y1 y2
   unfold thwartref06_Find.l0
   repeat' first
   | (with_reducible exact ih0 _ _ _)
   | (with_reducible exact LeO.refl _)
   | (with_reducible exact LeO.none _)
   | (with_reducible refine LeO.ite ?_ ?_)
   | (with_reducible refine LeO.bind ?_ (fun _ => ?_))
   | exact ih0 _ _ _
   | exact LeO.none _
   | refine LeO.ite ?_ ?_
   | refine LeO.bind ?_ (fun _ => ?_)
theorem thwartref06_Find.mono : ∀ a0 a1 k, LeO (thwartref06_Find.f k a0 a1) (thwartref06_Find.f (k + 1) a0 a1) := by
 intro a0 a1 k
 have ih0 := thwartref06_Find.mono_l k
 unfold thwartref06_Find.f
 repeat' first
   | (with_reducible exact ih0 _ _ _)
   | (with_reducible exact LeO.refl _)
   | (with_reducible exact LeO.none _)
   | (with_reducible refine LeO.ite ?_ ?_)
   | (with_reducible refine LeO.bind ?_ (fun _ => ?_))
   | exact ih0 _ _ _
   | exact LeO.none _
   | refine LeO.ite ?_ ?_
   | refine LeO.bind ?_ (fun _ => ?_)
set_option maxHeartbeats 8000000 in
set_option maxRecDepth 100000 in
theorem thwartref06_Find.calls (k : Nat) (A0 : Option Addr) (c0 : Nat) (l0 : List (S34)) (a1 : ByteArray) (r1 : ByteArray) (r2 : Bool) (w : World) (hr0 : Kd.C k34 w A0 l0.length l0) (hc0 : l0.length ≤ c0) (h : thwartref06_Find.f k l0 a1 = some (r1, r2)) :
  Calls Tryz.prog 26 #[.slice A0 l0.length c0, .string a1] w fun e w' => e = .returned (.tuple #[.string r1, .bool r2]) ∧ Drawn0 w w' := by
 have HR0 := Aside0.mk hr0
 have HC0 := Aside0.mk hc0
 clear hr0 hc0
 have H : (thwartref06_Find.l0 k l0 a1 (wrap64 ((l0.length : Int) - 1))) = some (r1, r2) := h
 clear h
 have H' := Aside0.mk H
 clear H
 go_enter Tryz.func26, Tryz.ntmps26
 go_wp2
 go_loopg [6] k (fun kq v6 w' => ∃ (x6_1 : Int), v6 = .int .i64 x6_1 ∧ Aside0 (thwartref06_Find.l0 kq l0 a1 x6_1 = some (r1, r2)) ∧ Aside0 (kq ≤ k) ∧ Drawn0 w w')
 case atStart => exact ⟨(wrap64 ((l0.length : Int) - 1)), (by first | rfl | (simp; done) | (simp [*]; done)), H', ⟨Nat.le_refl _⟩, by repeat (first | exact Drawn0.refl _ | apply Drawn0.step)⟩
 case round =>
  clear H'
  try clear c2
  try clear p2
  obtain ⟨x6_1, rfl, HA, HK1, ⟨m1, rfl⟩⟩ := hrel
  cases gk with
  | zero => exact absurd HA.out (by simp [thwartref06_Find.l0])
  | succ k1 =>
   have H := HA.out
   clear HA
   simp only [thwartref06_Find.l0] at H
   by_cases c3 : x6_1 ≥ 0
   ·rw [if_pos c3] at H
    have c3b0 : decide (0 ≤ x6_1) = true := decide_eq_true c3
    clear c3
    by_cases c4 : 0 ≤ x6_1
    ·rw [if_pos c4] at H
     have c4b0 : decide (0 ≤ x6_1) = true := decide_eq_true c4
     clear c4
     by_cases c5 : x6_1 < (l0.length : Int)
     ·rw [if_pos c5] at H
      have c5b0 : decide (x6_1 < (l0.length : Int)) = true := decide_eq_true c5
      clear c5
      by_cases c6 : ((rd_T34 l0 x6_1).f0).toList = a1.toList
      ·rw [if_pos c6] at H
       have c6b0 : (((rd_T34 l0 x6_1).f0).toList == a1.toList) = true := beq_iff_eq.mpr c6
       have c6b1 : (((rd_T34 l0 x6_1).f0).toList != a1.toList) = false := bne_eq_false_iff_eq.mpr c6
       clear c6
       simp only [Option.some.injEq, Prod.mk.injEq] at H
       obtain ⟨rfl, rfl⟩ := H
       have p274 : 0 ≤ (x6_1 : Int) := of_decide_eq_true (by first | (with_reducible assumption) | assumption)
       have q274 : x6_1 < (l0.length : Int) := of_decide_eq_true (by first | (with_reducible assumption) | assumption)
       obtain ⟨ad274, e274, hx274_0, hx274_1⟩ := at_T34 HR0.out x6_1 p274 q274
       cases e274
       replace p274 := eq_true p274
       replace q274 := eq_true q274
       have p275 : 0 ≤ (x6_1 : Int) := of_decide_eq_true (by first | (with_reducible assumption) | assumption)
       have q275 : x6_1 < (l0.length : Int) := of_decide_eq_true (by first | (with_reducible assumption) | assumption)
       obtain ⟨ad275, e275, hx275_0, hx275_1⟩ := at_T34 HR0.out x6_1 p275 q275
       obtain rfl : ad274 = ad275 := (by injection e275)
       replace p275 := eq_true p275
       replace q275 := eq_true q275
       go_wp2
       go_ret2
       exact ⟨by first | rfl | (simp; done) | (simp [*]; done), by repeat (first | exact Drawn0.refl _ | apply Drawn0.step)⟩
      ·rw [if_neg c6] at H
       have c6b0 : (((rd_T34 l0 x6_1).f0).toList == a1.toList) = false := beq_eq_false_iff_ne.mpr c6
       have c6b1 : (((rd_T34 l0 x6_1).f0).toList != a1.toList) = true := bne_iff_ne.mpr c6
       have H' := Aside0.mk H
       clear H
       have p274 : 0 ≤ (x6_1 : Int) := of_decide_eq_true (by first | (with_reducible assumption) | assumption)
       have q274 : x6_1 < (l0.length : Int) := of_decide_eq_true (by first | (with_reducible assumption) | assumption)
       obtain ⟨ad274, e274, hx274_0, hx274_1⟩ := at_T34 HR0.out x6_1 p274 q274
       cases e274
       replace p274 := eq_true p274
       replace q274 := eq_true q274
       go_wp2
       go_roundg k1
       case measure => have := HK1.out; omega
       case rel => exact ⟨(wrap64 (x6_1 - 1)), (by first | rfl | (simp; done) | (simp [*]; done)), H', ⟨by have := HK1.out; omega⟩, by repeat (first | exact Drawn0.refl _ | apply Drawn0.step)⟩
     ·rw [if_neg c5] at H
      exact absurd H (by simp)
    ·rw [if_neg c4] at H
     exact absurd H (by simp)
   ·rw [if_neg c3] at H
    have c3b0 : decide (0 ≤ x6_1) = false := decide_eq_false c3
    clear c3
    simp only [Option.some.injEq, Prod.mk.injEq] at H
    obtain ⟨rfl, rfl⟩ := H
    go_wp2
    go_ret2
    exact ⟨by first | rfl | (simp; done) | (simp [*]; done), by repeat (first | exact Drawn0.refl _ | apply Drawn0.step)⟩


/-! ### thwartref04_Cut: function 65 -/
def thwartref04_Cut.l0 : Nat → ByteArray → List ByteArray → Int → Int → Option (List ByteArray)
 | 0, _, _, _, _ => none
 | k + 1, x0, x3, x4, x5 => if x5 < (x0.size : Int) then (if 0 ≤ x5 then (if (bt x0 x5) = 47 then (if 0 ≤ x4 then (if x4 ≤ x5 then (if x5 ≤ (x0.size : Int) then (if x3.length < 8796093022208 then (thwartref04_Cut.l0 k x0 (x3 ++ [x0.extract (x4 : Int).toNat (x5 : Int).toNat]) (wrap64 (x5 + 1)) (wrap64 (x5 + 1))) else (none)) else (none)) else (none)) else (none)) else (thwartref04_Cut.l0 k x0 x3 x4 (wrap64 (x5 + 1)))) else (none)) else (if 0 ≤ x4 then (if x4 ≤ (x0.size : Int) then (if x3.length < 8796093022208 then (some (x3 ++ [x0.extract (x4 : Int).toNat x0.size])) else (none)) else (none)) else (none))
def thwartref04_Cut.f (k : Nat) (a0 : ByteArray) : Option (List ByteArray) := thwartref04_Cut.l0 k a0 ([] : List ByteArray) 0 0
theorem thwartref04_Cut.mono_l : ∀ k, (∀ y0 y1 y2 y3, LeO (thwartref04_Cut.l0 k y0 y1 y2 y3) (thwartref04_Cut.l0 (k + 1) y0 y1 y2 y3))
 | 0 => fun _ _ _ _ r h => by simp [thwartref04_Cut.l0] at h
 | k + 1 => by
  have ih0 := thwartref04_Cut.mono_l k
  ·intro y0 y1 y2 y3
   unfold thwartref04_Cut.l0
   repeat' first
   | (with_reducible exact ih0 _ _ _ _)
   | (with_reducible exact LeO.refl _)
   | (with_reducible exact LeO.none _)
   | (with_reducible refine LeO.ite ?_ ?_)
   | (with_reducible refine LeO.bind ?_ (fun _ => ?_))
   | exact ih0 _ _ _ _
   | exact LeO.none _
   | refine LeO.ite ?_ ?_
   | refine LeO.bind ?_ (fun _ => ?_)
theorem thwartref04_Cut.mono : ∀ a0 k, LeO (thwartref04_Cut.f k a0) (thwartref04_Cut.f (k + 1) a0) := by
 intro a0 k
 have ih0 := thwartref04_Cut.mono_l k
 unfold thwartref04_Cut.f
 repeat' first
   | (with_reducible exact ih0 _ _ _ _)
   | (with_reducible exact LeO.refl _)
   | (with_reducible exact LeO.none _)
   | (with_reducible refine LeO.ite ?_ ?_)
   | (with_reducible refine LeO.bind ?_ (fun _ => ?_))
   | exact ih0 _ _ _ _
   | exact LeO.none _
   | refine LeO.ite ?_ ?_
   | refine LeO.bind ?_ (fun _ => ?_)
set_option maxHeartbeats 8000000 in
set_option maxRecDepth 100000 in
theorem thwartref04_Cut.calls (k : Nat) (a0 : ByteArray) (r : List ByteArray) (w : World) (h : thwartref04_Cut.f k a0 = some r) :
  Calls Tryz.prog 65 #[.string a0] w fun e w' => ∃ v0_ : Value, e = .returned (v0_) ∧ Kd.R Kd.string 9 w' w.heap.size (fun _ => True) v0_ r ∧ Below w.heap.size w w' := by
 have HB := Aside0.mk (Below.refl w.heap.size w)
 have H : (thwartref04_Cut.l0 k a0 ([] : List ByteArray) 0 0) = some r := h
 clear h
 have H' := Aside0.mk H
 clear H
 go_enter Tryz.func65, Tryz.ntmps65
 go_wp2
 go_loopg [3, 4, 5] k (fun kq v3 v4 v5 w' => ∃ (x3_1 : List ByteArray) (x4_1 : Int) (x5_1 : Int), v4 = .int .i64 x4_1 ∧ v5 = .int .i64 x5_1 ∧ Aside0 (thwartref04_Cut.l0 kq a0 x3_1 x4_1 x5_1 = some r) ∧ Aside0 (kq ≤ k) ∧ Aside0 (Kd.R Kd.string 9 w' w.heap.size (fun _ => True) v3 x3_1) ∧ Aside0 (Below w.heap.size w w'))
 case atStart => exact ⟨(([] : List ByteArray)), (0), (0), (by first | rfl | (simp; done) | (simp [*]; done)), (by first | rfl | (simp; done) | (simp [*]; done)), H', ⟨Nat.le_refl _⟩, ⟨by first | exact Kd.R_nil _ _ _ _ _ | exact Kd.N_nil _ _ _ _ _ | exact Kd.V_nil _ _ _ _ _ | exact Kd.Q_nil _ _ _ _ _ | exact Kd.S_nil _ _ _ _ _⟩, ⟨by repeat (first | (with_reducible first | exact HB.out | apply below_alloc | apply pw_below_drewN | apply below_drew1) | exact HB.out)⟩⟩
 case round =>
  clear H'
  obtain ⟨x3_1, x4_1, x5_1, rfl, rfl, HA, HK1, HO_3, HB⟩ := hrel
  cases gk with
  | zero => exact absurd HA.out (by simp [thwartref04_Cut.l0])
  | succ k1 =>
   have H := HA.out
   clear HA
   simp only [thwartref04_Cut.l0] at H
   by_cases c2 : x5_1 < (a0.size : Int)
   ·rw [if_pos c2] at H
    have c2b0 : decide (x5_1 < (a0.size : Int)) = true := decide_eq_true c2
    clear c2
    by_cases c3 : 0 ≤ x5_1
    ·rw [if_pos c3] at H
     have c3b0 : decide (0 ≤ x5_1) = true := decide_eq_true c3
     clear c3
     by_cases c5 : (bt a0 x5_1) = 47
     ·rw [if_pos c5] at H
      have c5b0 : ((bt a0 x5_1) == 47) = true := beq_iff_eq.mpr c5
      have c5b1 : ((bt a0 x5_1) != 47) = false := bne_eq_false_iff_eq.mpr c5
      clear c5
      by_cases c6 : 0 ≤ x4_1
      ·rw [if_pos c6] at H
       have c6b0 := eq_true c6
       have c6b1 : decide (0 ≤ x4_1) = true := decide_eq_true c6
       clear c6
       by_cases c7 : x4_1 ≤ x5_1
       ·rw [if_pos c7] at H
        have c7b0 := eq_true c7
        have c7b1 : decide (x4_1 ≤ x5_1) = true := decide_eq_true c7
        clear c7
        by_cases c8 : x5_1 ≤ (a0.size : Int)
        ·rw [if_pos c8] at H
         have c8b0 := eq_true c8
         have c8b1 : decide (x5_1 ≤ (a0.size : Int)) = true := decide_eq_true c8
         clear c8
         by_cases c9 : x3_1.length < 8796093022208
         ·rw [if_pos c9] at H
          have LMc9 := Aside0.mk c9
          clear c9
          obtain ⟨y276, hy276⟩ : ∃ y_ : List ByteArray, y_ = (x3_1 ++ [a0.extract (x4_1 : Int).toNat (x5_1 : Int).toNat]) := ⟨_, rfl⟩
          replace H : (thwartref04_Cut.l0 k1 a0 y276 (wrap64 (x5_1 + 1)) (wrap64 (x5_1 + 1))) = some r := by first | (rw [hy276]; with_reducible exact H) | (have H2_ := (Option.bind_some _ _).symm.trans H; rw [hy276]; with_reducible exact H2_) | (have H2_ := (Option.bind_some _ _).symm.trans H; with_reducible exact H2_) | with_reducible exact H | (rw [hy276]; exact H) | exact H
          have Ny276 := Aside0.mk hy276
          clear hy276
          have H' := Aside0.mk H
          clear H
          have p4 : 0 ≤ (x5_1 : Int) := of_decide_eq_true (by first | (with_reducible assumption) | assumption)
          have q4 : x5_1 < (a0.size : Int) := of_decide_eq_true (by first | (with_reducible assumption) | assumption)
          have hx4 := bt_at a0 x5_1
          replace p4 := eq_true p4
          replace q4 := eq_true q4
          go_wp2_with (first | ((with_reducible refine gate_builtin (b := .append) (xs := #[.tmp 16, .tmp 21]) rfl ?_); at_builtin; refine Kd.R_append Kd.string (w0 := w) w.heap.size rfl (.tmp 16) (.tmp 21) 84 9 (.string ⟨#[]⟩) 16 rfl Tryz.underlying84 info9 rfl (by decide) (by omega) u3 x3_1 (a0.extract (x4_1 : Int).toNat (x5_1 : Int).toNat) [.string (a0.extract (x4_1 : Int).toNat (x5_1 : Int).toNat)] (fun _ => True) (fun _ => False) rfl rfl ?aP (fun _ hk => hk.elim) ?aF ?aO ?aB ?aS ?aL ?_; (case aP => exact rfl); (case aB => exact belA_); (case aF => exact (fun _ _ => trivial)); (case aO => exact (by (with_reducible repeat (first | apply Kd.R_alloc | apply Kd.R_drewN | apply Kd.R_drew)); exact HO_3.out)); (case aS => exact bsize_); (case aL => have := LMc9.out; omega); intro v277 w10 ho hb hg hat; rw [← Ny276.out] at ho; have n0_ := Aside0.mk (hb); have n1_ := Aside0.mk (ho); clear HB; clear HO_3; have HB := n0_; have HO278 := n1_; clear n0_ n1_; clear ho hb hg hat))
          go_roundg k1
          case measure => have := HK1.out; omega
          case rel => exact ⟨(y276), (wrap64 (x5_1 + 1)), (wrap64 (x5_1 + 1)), (by first | rfl | (simp; done) | (simp [*]; done)), (by first | rfl | (simp; done) | (simp [*]; done)), H', ⟨by have := HK1.out; omega⟩, ⟨by (with_reducible repeat (first | apply Kd.R_alloc | apply Kd.R_drewN | apply Kd.R_drew)); exact HO278.out⟩, ⟨by repeat (first | (with_reducible first | exact HB.out | apply below_alloc | apply pw_below_drewN | apply below_drew1) | exact HB.out)⟩⟩
         ·rw [if_neg c9] at H
          exact absurd H (by simp)
        ·rw [if_neg c8] at H
         exact absurd H (by simp)
       ·rw [if_neg c7] at H
        exact absurd H (by simp)
      ·rw [if_neg c6] at H
       exact absurd H (by simp)
     ·rw [if_neg c5] at H
      have c5b0 : ((bt a0 x5_1) == 47) = false := beq_eq_false_iff_ne.mpr c5
      have c5b1 : ((bt a0 x5_1) != 47) = true := bne_iff_ne.mpr c5
      have H' := Aside0.mk H
      clear H
      have p4 : 0 ≤ (x5_1 : Int) := of_decide_eq_true (by first | (with_reducible assumption) | assumption)
      have q4 : x5_1 < (a0.size : Int) := of_decide_eq_true (by first | (with_reducible assumption) | assumption)
      have hx4 := bt_at a0 x5_1
      replace p4 := eq_true p4
      replace q4 := eq_true q4
      go_wp2
      go_roundg k1
      case measure => have := HK1.out; omega
      case rel => exact ⟨(x3_1), (x4_1), (wrap64 (x5_1 + 1)), (by first | rfl | (simp; done) | (simp [*]; done)), (by first | rfl | (simp; done) | (simp [*]; done)), H', ⟨by have := HK1.out; omega⟩, ⟨by (with_reducible repeat (first | apply Kd.R_alloc | apply Kd.R_drewN | apply Kd.R_drew)); exact HO_3.out⟩, ⟨by repeat (first | (with_reducible first | exact HB.out | apply below_alloc | apply pw_below_drewN | apply below_drew1) | exact HB.out)⟩⟩
    ·rw [if_neg c3] at H
     exact absurd H (by simp)
   ·rw [if_neg c2] at H
    have c2b0 : decide (x5_1 < (a0.size : Int)) = false := decide_eq_false c2
    clear c2
    by_cases c11 : 0 ≤ x4_1
    ·rw [if_pos c11] at H
     have c11b0 := eq_true c11
     have c11b1 : decide (0 ≤ x4_1) = true := decide_eq_true c11
     clear c11
     by_cases c12 : x4_1 ≤ (a0.size : Int)
     ·rw [if_pos c12] at H
      have c12b0 := eq_true c12
      have c12b1 : decide (x4_1 ≤ (a0.size : Int)) = true := decide_eq_true c12
      clear c12
      by_cases c13 : x3_1.length < 8796093022208
      ·rw [if_pos c13] at H
       have LMc13 := Aside0.mk c13
       clear c13
       obtain ⟨y279, hy279⟩ : ∃ y_ : List ByteArray, y_ = (x3_1 ++ [a0.extract (x4_1 : Int).toNat a0.size]) := ⟨_, rfl⟩
       replace H : (some y279) = some r := by first | (rw [hy279]; with_reducible exact H) | (have H2_ := (Option.bind_some _ _).symm.trans H; rw [hy279]; with_reducible exact H2_) | (have H2_ := (Option.bind_some _ _).symm.trans H; with_reducible exact H2_) | with_reducible exact H | (rw [hy279]; exact H) | exact H
       have Ny279 := Aside0.mk hy279
       clear hy279
       obtain rfl := Option.some.inj H
       go_wp2_with (first | ((with_reducible refine gate_builtin (b := .append) (xs := #[.tmp 25, .tmp 29]) rfl ?_); at_builtin; refine Kd.R_append Kd.string (w0 := w) w.heap.size rfl (.tmp 25) (.tmp 29) 84 9 (.string ⟨#[]⟩) 16 rfl Tryz.underlying84 info9 rfl (by decide) (by omega) u3 x3_1 (a0.extract (x4_1 : Int).toNat a0.size) [.string (a0.extract (x4_1 : Int).toNat a0.size)] (fun _ => True) (fun _ => False) rfl rfl ?aP (fun _ hk => hk.elim) ?aF ?aO ?aB ?aS ?aL ?_; (case aP => exact rfl); (case aB => exact belA_); (case aF => exact (fun _ _ => trivial)); (case aO => exact (by (with_reducible repeat (first | apply Kd.R_alloc | apply Kd.R_drewN | apply Kd.R_drew)); exact HO_3.out)); (case aS => exact bsize_); (case aL => have := LMc13.out; omega); intro v280 w14 ho hb hg hat; rw [← Ny279.out] at ho; have n0_ := Aside0.mk (hb); have n1_ := Aside0.mk (ho); clear HB; clear HO_3; have HB := n0_; have HO281 := n1_; clear n0_ n1_; clear ho hb hg hat))
       go_ret
       exact ⟨_, by first | rfl | (simp [errW_none, errW_some] <;> rfl) | (simp [*, errW_none, errW_some] <;> rfl), by (with_reducible repeat (first | apply Kd.R_alloc | apply Kd.R_drewN | apply Kd.R_drew)); exact HO281.out, by repeat (first | (with_reducible first | exact HB.out | apply below_alloc | apply pw_below_drewN | apply below_drew1) | exact HB.out)⟩
      ·rw [if_neg c13] at H
       exact absurd H (by simp)
     ·rw [if_neg c12] at H
      exact absurd H (by simp)
    ·rw [if_neg c11] at H
     exact absurd H (by simp)


/-! ### thwartref04_Name: function 66 -/
def thwartref04_Name.l0 : Nat → ByteArray → Int → Option (Bool)
 | 0, _, _ => none
 | k + 1, x0, x3 => if x3 < (x0.size : Int) then (if 0 ≤ x3 then (if (bt x0 x3) = 0 then (some false) else (if (bt x0 x3) = 47 then (some false) else (thwartref04_Name.l0 k x0 (wrap64 (x3 + 1))))) else (none)) else (if (x0.size : Int) ≥ 1 then (if (x0.size : Int) ≤ 60 then (if x0.toList = ([46] : List UInt8) then (some false) else (some (x0.toList != ([46, 46] : List UInt8)))) else (some false)) else (some false))
def thwartref04_Name.f (k : Nat) (a0 : ByteArray) : Option (Bool) := thwartref04_Name.l0 k a0 0
theorem thwartref04_Name.mono_l : ∀ k, (∀ y0 y1, LeO (thwartref04_Name.l0 k y0 y1) (thwartref04_Name.l0 (k + 1) y0 y1))
 | 0 => fun _ _ r h => by simp [thwartref04_Name.l0] at h
 | k + 1 => by
  have ih0 := thwartref04_Name.mono_l k
  ·intro y0 y1
   unfold thwartref04_Name.l0
   repeat' first
   | (with_reducible exact ih0 _ _)
   | (with_reducible exact LeO.refl _)
   | (with_reducible exact LeO.none _)
   | (with_reducible refine LeO.ite ?_ ?_)
   | (with_reducible refine LeO.bind ?_ (fun _ => ?_))
   | exact ih0 _ _
   | exact LeO.none _
   | refine LeO.ite ?_ ?_
   | refine LeO.bind ?_ (fun _ => ?_)
theorem thwartref04_Name.mono : ∀ a0 k, LeO (thwartref04_Name.f k a0) (thwartref04_Name.f (k + 1) a0) := by
 intro a0 k
 have ih0 := thwartref04_Name.mono_l k
 unfold thwartref04_Name.f
 repeat' first
   | (with_reducible exact ih0 _ _)
   | (with_reducible exact LeO.refl _)
   | (with_reducible exact LeO.none _)
   | (with_reducible refine LeO.ite ?_ ?_)
   | (with_reducible refine LeO.bind ?_ (fun _ => ?_))
   | exact ih0 _ _
   | exact LeO.none _
   | refine LeO.ite ?_ ?_
   | refine LeO.bind ?_ (fun _ => ?_)
set_option maxHeartbeats 8000000 in
set_option maxRecDepth 100000 in
theorem thwartref04_Name.calls (k : Nat) (a0 : ByteArray) (r : Bool) (w : World) (h : thwartref04_Name.f k a0 = some r) :
  Calls Tryz.prog 66 #[.string a0] w fun e w' => e = .returned (.bool r) ∧ Drawn0 w w' := by
 have H : (thwartref04_Name.l0 k a0 0) = some r := h
 clear h
 have H' := Aside0.mk H
 clear H
 go_enter Tryz.func66, Tryz.ntmps66
 go_wp2
 go_loopg [3] k (fun kq v3 w' => ∃ (x3_1 : Int), v3 = .int .i64 x3_1 ∧ Aside0 (thwartref04_Name.l0 kq a0 x3_1 = some r) ∧ Aside0 (kq ≤ k) ∧ Drawn0 w w')
 case atStart => exact ⟨(0), (by first | rfl | (simp; done) | (simp [*]; done)), H', ⟨Nat.le_refl _⟩, by repeat (first | exact Drawn0.refl _ | apply Drawn0.step)⟩
 case round =>
  clear H'
  obtain ⟨x3_1, rfl, HA, HK1, ⟨m1, rfl⟩⟩ := hrel
  cases gk with
  | zero => exact absurd HA.out (by simp [thwartref04_Name.l0])
  | succ k1 =>
   have H := HA.out
   clear HA
   simp only [thwartref04_Name.l0] at H
   by_cases c2 : x3_1 < (a0.size : Int)
   ·rw [if_pos c2] at H
    have c2b0 : decide (x3_1 < (a0.size : Int)) = true := decide_eq_true c2
    clear c2
    by_cases c3 : 0 ≤ x3_1
    ·rw [if_pos c3] at H
     have c3b0 : decide (0 ≤ x3_1) = true := decide_eq_true c3
     clear c3
     by_cases c5 : (bt a0 x3_1) = 0
     ·rw [if_pos c5] at H
      have c5b0 : ((bt a0 x3_1) == 0) = true := beq_iff_eq.mpr c5
      have c5b1 : ((bt a0 x3_1) != 0) = false := bne_eq_false_iff_eq.mpr c5
      clear c5
      obtain rfl := Option.some.inj H
      have p4 : 0 ≤ (x3_1 : Int) := of_decide_eq_true (by first | (with_reducible assumption) | assumption)
      have q4 : x3_1 < (a0.size : Int) := of_decide_eq_true (by first | (with_reducible assumption) | assumption)
      have hx4 := bt_at a0 x3_1
      replace p4 := eq_true p4
      replace q4 := eq_true q4
      go_wp2
      go_ret
      exact ⟨by first | rfl | (simp; done) | (simp [*]; done), by repeat (first | exact Drawn0.refl _ | apply Drawn0.step)⟩
     ·rw [if_neg c5] at H
      have c5b0 : ((bt a0 x3_1) == 0) = false := beq_eq_false_iff_ne.mpr c5
      have c5b1 : ((bt a0 x3_1) != 0) = true := bne_iff_ne.mpr c5
      by_cases c7 : (bt a0 x3_1) = 47
      ·rw [if_pos c7] at H
       have c7b0 : ((bt a0 x3_1) == 47) = true := beq_iff_eq.mpr c7
       have c7b1 : ((bt a0 x3_1) != 47) = false := bne_eq_false_iff_eq.mpr c7
       clear c7
       obtain rfl := Option.some.inj H
       have p4 : 0 ≤ (x3_1 : Int) := of_decide_eq_true (by first | (with_reducible assumption) | assumption)
       have q4 : x3_1 < (a0.size : Int) := of_decide_eq_true (by first | (with_reducible assumption) | assumption)
       have hx4 := bt_at a0 x3_1
       replace p4 := eq_true p4
       replace q4 := eq_true q4
       have p6 : 0 ≤ (x3_1 : Int) := of_decide_eq_true (by first | (with_reducible assumption) | assumption)
       have q6 : x3_1 < (a0.size : Int) := of_decide_eq_true (by first | (with_reducible assumption) | assumption)
       have hx6 := bt_at a0 x3_1
       replace p6 := eq_true p6
       replace q6 := eq_true q6
       go_wp2
       go_ret
       exact ⟨by first | rfl | (simp; done) | (simp [*]; done), by repeat (first | exact Drawn0.refl _ | apply Drawn0.step)⟩
      ·rw [if_neg c7] at H
       have c7b0 : ((bt a0 x3_1) == 47) = false := beq_eq_false_iff_ne.mpr c7
       have c7b1 : ((bt a0 x3_1) != 47) = true := bne_iff_ne.mpr c7
       have H' := Aside0.mk H
       clear H
       have p4 : 0 ≤ (x3_1 : Int) := of_decide_eq_true (by first | (with_reducible assumption) | assumption)
       have q4 : x3_1 < (a0.size : Int) := of_decide_eq_true (by first | (with_reducible assumption) | assumption)
       have hx4 := bt_at a0 x3_1
       replace p4 := eq_true p4
       replace q4 := eq_true q4
       have p6 : 0 ≤ (x3_1 : Int) := of_decide_eq_true (by first | (with_reducible assumption) | assumption)
       have q6 : x3_1 < (a0.size : Int) := of_decide_eq_true (by first | (with_reducible assumption) | assumption)
       have hx6 := bt_at a0 x3_1
       replace p6 := eq_true p6
       replace q6 := eq_true q6
       go_wp2
       go_roundg k1
       case measure => have := HK1.out; omega
       case rel => exact ⟨(wrap64 (x3_1 + 1)), (by first | rfl | (simp; done) | (simp [*]; done)), H', ⟨by have := HK1.out; omega⟩, by repeat (first | exact Drawn0.refl _ | apply Drawn0.step)⟩
    ·rw [if_neg c3] at H
     exact absurd H (by simp)
   ·rw [if_neg c2] at H
    have c2b0 : decide (x3_1 < (a0.size : Int)) = false := decide_eq_false c2
    clear c2
    by_cases c8 : (a0.size : Int) ≥ 1
    ·rw [if_pos c8] at H
     have c8b0 : decide (1 ≤ (a0.size : Int)) = true := decide_eq_true c8
     have c8b1 : decide (1 ≤ a0.size) = true := decide_eq_true (by omega)
     clear c8
     by_cases c9 : (a0.size : Int) ≤ 60
     ·rw [if_pos c9] at H
      have c9b0 : decide ((a0.size : Int) ≤ 60) = true := decide_eq_true c9
      have c9b1 : decide (a0.size ≤ 60) = true := decide_eq_true (by omega)
      clear c9
      by_cases c10 : a0.toList = ([46] : List UInt8)
      ·rw [if_pos c10] at H
       have c10b0 : (a0.toList == ([46] : List UInt8)) = true := beq_iff_eq.mpr c10
       have c10b1 : (a0.toList != ([46] : List UInt8)) = false := bne_eq_false_iff_eq.mpr c10
       clear c10
       obtain rfl := Option.some.inj H
       go_wp2
       go_ret
       exact ⟨by first | rfl | (simp; done) | (simp [*]; done), by repeat (first | exact Drawn0.refl _ | apply Drawn0.step)⟩
      ·rw [if_neg c10] at H
       have c10b0 : (a0.toList == ([46] : List UInt8)) = false := beq_eq_false_iff_ne.mpr c10
       have c10b1 : (a0.toList != ([46] : List UInt8)) = true := bne_iff_ne.mpr c10
       obtain rfl := Option.some.inj H
       go_wp2
       go_ret
       exact ⟨by first | rfl | (simp; done) | (simp [*]; done), by repeat (first | exact Drawn0.refl _ | apply Drawn0.step)⟩
     ·rw [if_neg c9] at H
      have c9b0 : decide ((a0.size : Int) ≤ 60) = false := decide_eq_false c9
      have c9b1 : decide (a0.size ≤ 60) = false := decide_eq_false (by omega)
      clear c9
      obtain rfl := Option.some.inj H
      go_wp2
      go_ret
      exact ⟨by first | rfl | (simp; done) | (simp [*]; done), by repeat (first | exact Drawn0.refl _ | apply Drawn0.step)⟩
    ·rw [if_neg c8] at H
     have c8b0 : decide (1 ≤ (a0.size : Int)) = false := decide_eq_false c8
     have c8b1 : decide (1 ≤ a0.size) = false := decide_eq_false (by omega)
     clear c8
     obtain rfl := Option.some.inj H
     go_wp2
     go_ret
     exact ⟨by first | rfl | (simp; done) | (simp [*]; done), by repeat (first | exact Drawn0.refl _ | apply Drawn0.step)⟩


/-! ### thwartref04_Parts: function 46 -/
def thwartref04_Parts.l0 : Nat → List ByteArray → Int → Option (List ByteArray × Int)
 | 0, _, _ => none
 | k + 1, x4, x5 => if x5 < (x4.length : Int) then (if 0 ≤ x5 then ((thwartref04_Name.f k (rdOf ByteArray.empty x4 x5)).bind fun t286 => (if t286 = true then (thwartref04_Parts.l0 k x4 (wrap64 (x5 + 1))) else (some (([] : List ByteArray), 8)))) else (none)) else (some (x4, 0))
def thwartref04_Parts.f (k : Nat) (a0 : ByteArray) : Option (List ByteArray × Int) := if (a0.size : Int) > 300 then (some (([] : List ByteArray), 8)) else ((thwartref04_Cut.f k a0).bind fun t282 => (thwartref04_Parts.l0 k t282 0))
theorem thwartref04_Parts.mono_l : ∀ k, (∀ y0 y1, LeO (thwartref04_Parts.l0 k y0 y1) (thwartref04_Parts.l0 (k + 1) y0 y1))
 | 0 => fun _ _ r h => by simp [thwartref04_Parts.l0] at h
 | k + 1 => by
  have ih0 := thwartref04_Parts.mono_l k
  ·intro y0 y1
   unfold thwartref04_Parts.l0
   repeat' first
   | (with_reducible exact ih0 _ _)
   | (with_reducible exact thwartref04_Cut.mono _ _)
   | (with_reducible exact thwartref04_Name.mono _ _)
   | (with_reducible exact LeO.refl _)
   | (with_reducible exact LeO.none _)
   | (with_reducible refine LeO.ite ?_ ?_)
   | (with_reducible refine LeO.bind ?_ (fun _ => ?_))
   | exact ih0 _ _
   | exact thwartref04_Cut.mono _ _
   | exact thwartref04_Name.mono _ _
   | exact LeO.none _
   | refine LeO.ite ?_ ?_
   | refine LeO.bind ?_ (fun _ => ?_)
theorem thwartref04_Parts.mono : ∀ a0 k, LeO (thwartref04_Parts.f k a0) (thwartref04_Parts.f (k + 1) a0) := by
 intro a0 k
 have ih0 := thwartref04_Parts.mono_l k
 unfold thwartref04_Parts.f
 repeat' first
   | (with_reducible exact ih0 _ _)
   | (with_reducible exact thwartref04_Cut.mono _ _)
   | (with_reducible exact thwartref04_Name.mono _ _)
   | (with_reducible exact LeO.refl _)
   | (with_reducible exact LeO.none _)
   | (with_reducible refine LeO.ite ?_ ?_)
   | (with_reducible refine LeO.bind ?_ (fun _ => ?_))
   | exact ih0 _ _
   | exact thwartref04_Cut.mono _ _
   | exact thwartref04_Name.mono _ _
   | exact LeO.none _
   | refine LeO.ite ?_ ?_
   | refine LeO.bind ?_ (fun _ => ?_)
set_option maxHeartbeats 8000000 in
set_option maxRecDepth 100000 in
theorem thwartref04_Parts.calls (k : Nat) (a0 : ByteArray) (r1 : List ByteArray) (r2 : Int) (w : World) (h : thwartref04_Parts.f k a0 = some (r1, r2)) :
  Calls Tryz.prog 46 #[.string a0] w fun e w' => ∃ v0_ : Value, e = .returned (.tuple #[v0_, .int .i64 r2]) ∧ Kd.R Kd.string 9 w' w.heap.size (fun _ => True) v0_ r1 ∧ Below w.heap.size w w' := by
 have HB := Aside0.mk (Below.refl w.heap.size w)
 have H : (if (a0.size : Int) > 300 then (some (([] : List ByteArray), 8)) else ((thwartref04_Cut.f k a0).bind fun t282 => (thwartref04_Parts.l0 k t282 0))) = some (r1, r2) := h
 clear h
 by_cases c2 : (a0.size : Int) > 300
 ·rw [if_pos c2] at H
  have c2b0 : decide (300 < (a0.size : Int)) = true := decide_eq_true c2
  have c2b1 : decide (300 < a0.size) = true := decide_eq_true (by omega)
  clear c2
  simp only [Option.some.injEq, Prod.mk.injEq] at H
  obtain ⟨rfl, rfl⟩ := H
  go_enter Tryz.func46, Tryz.ntmps46
  go_wp2
  go_ret2
  exact ⟨_, by first | rfl | (simp [errW_none, errW_some] <;> rfl) | (simp [*, errW_none, errW_some] <;> rfl), by first | exact Kd.R_nil _ _ _ _ _ | exact Kd.N_nil _ _ _ _ _ | exact Kd.V_nil _ _ _ _ _ | exact Kd.Q_nil _ _ _ _ _ | exact Kd.S_nil _ _ _ _ _, by repeat (first | (with_reducible first | exact HB.out | apply below_alloc | apply pw_below_drewN | apply below_drew1) | exact HB.out)⟩
 ·rw [if_neg c2] at H
  have c2b0 : decide (300 < (a0.size : Int)) = false := decide_eq_false c2
  have c2b1 : decide (300 < a0.size) = false := decide_eq_false (by omega)
  clear c2
  replace H := Option.bind_eq_some_iff.mp H
  obtain ⟨t282, A30, H⟩ := H
  try dsimp only at H
  have A3 := Aside0.mk A30
  clear A30
  have H' := Aside0.mk H
  clear H
  go_enter Tryz.func46, Tryz.ntmps46
  go_wp2_with (first | ((with_reducible refine gate_callee (f := 65) rfl ?_); refine goesA_ (some 10) Tryz.func65 #[.string a0] ?_; (with_reducible refine (thwartref04_Cut.calls k a0 t282 _ A3.out).mono ?_); rintro e w4 ⟨v283, rfl, ho0, hb⟩; refine ⟨_, rfl, ?_⟩; have n0_ := Aside0.mk (Kd.R_lower ho0 bsize_); have n1_ := Aside0.mk (bstep_ hb); clear HB; have HO284 := n0_; have HB := n1_; clear n0_ n1_; (try clear hb); (try clear hb2); (try clear hk); (try clear hi); (try clear ho0)))
  go_loopg [5] k (fun kq v5 w' => ∃ (x5_1 : Int), v5 = .int .i64 x5_1 ∧ Aside0 (thwartref04_Parts.l0 kq t282 x5_1 = some (r1, r2)) ∧ Aside0 (kq ≤ k) ∧ Aside0 (Kd.R Kd.string 9 w' w.heap.size (fun _ => True) v283 t282) ∧ Aside0 (Below w.heap.size w w'))
  case atStart => exact ⟨(0), (by first | rfl | (simp; done) | (simp [*]; done)), H', ⟨Nat.le_refl _⟩, ⟨by (with_reducible repeat (first | apply Kd.R_alloc | apply Kd.R_drewN | apply Kd.R_drew)); exact HO284.out⟩, ⟨by repeat (first | (with_reducible first | exact HB.out | apply below_alloc | apply pw_below_drewN | apply below_drew1) | exact HB.out)⟩⟩
  case round =>
   clear H'
   try clear c2
   try clear c2b0
   try clear c2b1
   try clear p2
   try clear c4
   obtain ⟨x5_1, rfl, HA, HK1, HO_4, HB⟩ := hrel
   cases gk with
   | zero => exact absurd HA.out (by simp [thwartref04_Parts.l0])
   | succ k1 =>
    have H := HA.out
    clear HA
    simp only [thwartref04_Parts.l0] at H
    by_cases c5 : x5_1 < (t282.length : Int)
    ·rw [if_pos c5] at H
     have c5b0 : decide (x5_1 < (t282.length : Int)) = true := decide_eq_true c5
     clear c5
     by_cases c6 : 0 ≤ x5_1
     ·rw [if_pos c6] at H
      have c6b0 : decide (0 ≤ x5_1) = true := decide_eq_true c6
      clear c6
      replace H := Option.bind_eq_some_iff.mp H
      obtain ⟨t286, A70, H⟩ := H
      try dsimp only at H
      have A7 := Aside0.mk A70
      clear A70
      by_cases c8 : t286 = true
      ·subst c8
       have H1 := H; rw [if_pos rfl] at H1
       clear H
       have H := H1
       clear H1
       have H' := Aside0.mk H
       clear H
       obtain ⟨Ao9, co9, eo9⟩ := Kd.R_slice HO_4.out
       subst eo9
       have p285 : 0 ≤ (x5_1 : Int) := of_decide_eq_true (by first | (with_reducible assumption) | assumption)
       have q285 : x5_1 < (t282.length : Int) := of_decide_eq_true (by first | (with_reducible assumption) | assumption)
       obtain ⟨ad285, e285, hx285_0⟩ := Kd.at_string (Kd.R_reads' HO_4.out).2.2 x5_1 p285 q285
       cases e285
       replace p285 := eq_true p285
       replace q285 := eq_true q285
       go_wp2_with (first | ((with_reducible refine gate_callee (f := 66) rfl ?_); refine goesA_ (some 21) Tryz.func66 #[.string (rdOf ByteArray.empty t282 x5_1)] ?_; (with_reducible refine (thwartref04_Name.calls k1 (rdOf ByteArray.empty t282 x5_1) true _ A7.out).mono ?_); rintro e w' ⟨rfl, ⟨nd, rfl⟩⟩; refine ⟨_, rfl, ?_⟩))
       go_roundg k1
       case measure => have := HK1.out; omega
       case rel => exact ⟨(wrap64 (x5_1 + 1)), (by first | rfl | (simp; done) | (simp [*]; done)), H', ⟨by have := HK1.out; omega⟩, ⟨by (with_reducible repeat (first | apply Kd.R_alloc | apply Kd.R_drewN | apply Kd.R_drew)); exact HO_4.out⟩, ⟨by repeat (first | (with_reducible first | exact HB.out | apply below_alloc | apply pw_below_drewN | apply below_drew1) | exact HB.out)⟩⟩
      ·replace c8 := Bool.eq_false_iff.mpr c8
       subst c8
       have H1 := H; rw [if_neg (show ¬ (false = true) by decide)] at H1
       clear H
       have H := H1
       clear H1
       simp only [Option.some.injEq, Prod.mk.injEq] at H
       obtain ⟨rfl, rfl⟩ := H
       obtain ⟨Ao10, co10, eo10⟩ := Kd.R_slice HO_4.out
       subst eo10
       have p285 : 0 ≤ (x5_1 : Int) := of_decide_eq_true (by first | (with_reducible assumption) | assumption)
       have q285 : x5_1 < (t282.length : Int) := of_decide_eq_true (by first | (with_reducible assumption) | assumption)
       obtain ⟨ad285, e285, hx285_0⟩ := Kd.at_string (Kd.R_reads' HO_4.out).2.2 x5_1 p285 q285
       cases e285
       replace p285 := eq_true p285
       replace q285 := eq_true q285
       go_wp2_with (first | ((with_reducible refine gate_callee (f := 66) rfl ?_); refine goesA_ (some 21) Tryz.func66 #[.string (rdOf ByteArray.empty t282 x5_1)] ?_; (with_reducible refine (thwartref04_Name.calls k1 (rdOf ByteArray.empty t282 x5_1) false _ A7.out).mono ?_); rintro e w' ⟨rfl, ⟨nd, rfl⟩⟩; refine ⟨_, rfl, ?_⟩))
       go_ret2
       exact ⟨_, by first | rfl | (simp [errW_none, errW_some] <;> rfl) | (simp [*, errW_none, errW_some] <;> rfl), by first | exact Kd.R_nil _ _ _ _ _ | exact Kd.N_nil _ _ _ _ _ | exact Kd.V_nil _ _ _ _ _ | exact Kd.Q_nil _ _ _ _ _ | exact Kd.S_nil _ _ _ _ _, by repeat (first | (with_reducible first | exact HB.out | apply below_alloc | apply pw_below_drewN | apply below_drew1) | exact HB.out)⟩
     ·rw [if_neg c6] at H
      exact absurd H (by simp)
    ·rw [if_neg c5] at H
     have c5b0 : decide (x5_1 < (t282.length : Int)) = false := decide_eq_false c5
     clear c5
     simp only [Option.some.injEq, Prod.mk.injEq] at H
     obtain ⟨rfl, rfl⟩ := H
     obtain ⟨Ao11, co11, eo11⟩ := Kd.R_slice HO_4.out
     subst eo11
     go_wp2
     go_ret2
     exact ⟨_, by first | rfl | (simp [errW_none, errW_some] <;> rfl) | (simp [*, errW_none, errW_some] <;> rfl), by (with_reducible repeat (first | apply Kd.R_alloc | apply Kd.R_drewN | apply Kd.R_drew)); exact HO_4.out, by repeat (first | (with_reducible first | exact HB.out | apply below_alloc | apply pw_below_drewN | apply below_drew1) | exact HB.out)⟩


/-! ### thwartref08_Numbers: function 47 -/
def thwartref08_Numbers.f (a0_0 : Int) (a0_1 : Int) (a0_2 : Int) (a0_3 : Int) : Option (Bool) := if a0_0 ≥ 0 then (if a0_0 ≤ 4095 then (if a0_1 ≥ 0 then (if a0_1 ≤ 1099511627775 then (if a0_2 ≥ 0 then (if a0_2 ≤ 1099511627775 then (if a0_3 ≥ (-1125899906842624) then (some (decide (a0_3 ≤ 1125899906842624))) else (some false)) else (some false)) else (some false)) else (some false)) else (some false)) else (some false)) else (some false)
set_option maxHeartbeats 8000000 in
set_option maxRecDepth 100000 in
theorem thwartref08_Numbers.calls (a0_0 : Int) (a0_1 : Int) (a0_2 : Int) (a0_3 : Int) (r : Bool) (w : World) (h : thwartref08_Numbers.f a0_0 a0_1 a0_2 a0_3 = some r) :
  Calls Tryz.prog 47 #[.agg #[.int .i64 a0_0, .int .i64 a0_1, .int .i64 a0_2, .int .i64 a0_3]] w fun e w' => e = .returned (.bool r) ∧ Below w.heap.size w w' := by
 have hu27 := Tryz.underlying27
 have HB := Aside0.mk (Below.refl w.heap.size w)
 have H : (if a0_0 ≥ 0 then (if a0_0 ≤ 4095 then (if a0_1 ≥ 0 then (if a0_1 ≤ 1099511627775 then (if a0_2 ≥ 0 then (if a0_2 ≤ 1099511627775 then (if a0_3 ≥ (-1125899906842624) then (some (decide (a0_3 ≤ 1125899906842624))) else (some false)) else (some false)) else (some false)) else (some false)) else (some false)) else (some false)) else (some false)) = some r := h
 clear h
 by_cases c2 : a0_0 ≥ 0
 ·rw [if_pos c2] at H
  have c2b0 : decide (0 ≤ a0_0) = true := decide_eq_true c2
  clear c2
  by_cases c3 : a0_0 ≤ 4095
  ·rw [if_pos c3] at H
   have c3b0 : decide (a0_0 ≤ 4095) = true := decide_eq_true c3
   clear c3
   by_cases c4 : a0_1 ≥ 0
   ·rw [if_pos c4] at H
    have c4b0 : decide (0 ≤ a0_1) = true := decide_eq_true c4
    clear c4
    by_cases c5 : a0_1 ≤ 1099511627775
    ·rw [if_pos c5] at H
     have c5b0 : decide (a0_1 ≤ 1099511627775) = true := decide_eq_true c5
     clear c5
     by_cases c6 : a0_2 ≥ 0
     ·rw [if_pos c6] at H
      have c6b0 : decide (0 ≤ a0_2) = true := decide_eq_true c6
      clear c6
      by_cases c7 : a0_2 ≤ 1099511627775
      ·rw [if_pos c7] at H
       have c7b0 : decide (a0_2 ≤ 1099511627775) = true := decide_eq_true c7
       clear c7
       by_cases c8 : a0_3 ≥ (-1125899906842624)
       ·rw [if_pos c8] at H
        have c8b0 : decide ((-1125899906842624) ≤ a0_3) = true := decide_eq_true c8
        clear c8
        obtain rfl := Option.some.inj H
        go_enter Tryz.func47, Tryz.ntmps47
        go_wp2_with (first | ((with_reducible refine gate_dst (N := 1) rfl ?_); refine boxA_ 1 27 #[.int .i64 a0_0, .int .i64 a0_1, .int .i64 a0_2, .int .i64 a0_3] ?_; intro gb287 hg w9 hbox hb; have n0_ := Aside0.mk (bstep_ hb); have n1_ := Aside0.mk (hbox); have n2_ := Aside0.mk ((by rw [hg]; exact bsize_ : w.heap.size ≤ gb287)); have n3_ := Aside0.mk ((by rw [hg]; exact bsize_ : w.heap.size ≤ gb287)); clear HB; have HB := n0_; have BK287 := n1_; have GW287 := n2_; have GE287 := n3_; clear n0_ n1_ n2_ n3_; clear hb hbox hg; obtain ⟨hcz10_0, hcz10_1, hcz10_2, hcz10_3, hfz10_0, hfz10_1, hfz10_2, hfz10_3⟩ := blk_all4 BK287.out))
        go_ret
        exact finA_
       ·rw [if_neg c8] at H
        have c8b0 : decide ((-1125899906842624) ≤ a0_3) = false := decide_eq_false c8
        clear c8
        obtain rfl := Option.some.inj H
        go_enter Tryz.func47, Tryz.ntmps47
        go_wp2_with (first | ((with_reducible refine gate_dst (N := 1) rfl ?_); refine boxA_ 1 27 #[.int .i64 a0_0, .int .i64 a0_1, .int .i64 a0_2, .int .i64 a0_3] ?_; intro gb287 hg w11 hbox hb; have n0_ := Aside0.mk (bstep_ hb); have n1_ := Aside0.mk (hbox); have n2_ := Aside0.mk ((by rw [hg]; exact bsize_ : w.heap.size ≤ gb287)); have n3_ := Aside0.mk ((by rw [hg]; exact bsize_ : w.heap.size ≤ gb287)); clear HB; have HB := n0_; have BK287 := n1_; have GW287 := n2_; have GE287 := n3_; clear n0_ n1_ n2_ n3_; clear hb hbox hg; obtain ⟨hcz12_0, hcz12_1, hcz12_2, hcz12_3, hfz12_0, hfz12_1, hfz12_2, hfz12_3⟩ := blk_all4 BK287.out))
        go_ret
        exact finA_
      ·rw [if_neg c7] at H
       have c7b0 : decide (a0_2 ≤ 1099511627775) = false := decide_eq_false c7
       clear c7
       obtain rfl := Option.some.inj H
       go_enter Tryz.func47, Tryz.ntmps47
       go_wp2_with (first | ((with_reducible refine gate_dst (N := 1) rfl ?_); refine boxA_ 1 27 #[.int .i64 a0_0, .int .i64 a0_1, .int .i64 a0_2, .int .i64 a0_3] ?_; intro gb287 hg w13 hbox hb; have n0_ := Aside0.mk (bstep_ hb); have n1_ := Aside0.mk (hbox); have n2_ := Aside0.mk ((by rw [hg]; exact bsize_ : w.heap.size ≤ gb287)); have n3_ := Aside0.mk ((by rw [hg]; exact bsize_ : w.heap.size ≤ gb287)); clear HB; have HB := n0_; have BK287 := n1_; have GW287 := n2_; have GE287 := n3_; clear n0_ n1_ n2_ n3_; clear hb hbox hg; obtain ⟨hcz14_0, hcz14_1, hcz14_2, hcz14_3, hfz14_0, hfz14_1, hfz14_2, hfz14_3⟩ := blk_all4 BK287.out))
       go_ret
       exact finA_
     ·rw [if_neg c6] at H
      have c6b0 : decide (0 ≤ a0_2) = false := decide_eq_false c6
      clear c6
      obtain rfl := Option.some.inj H
      go_enter Tryz.func47, Tryz.ntmps47
      go_wp2_with (first | ((with_reducible refine gate_dst (N := 1) rfl ?_); refine boxA_ 1 27 #[.int .i64 a0_0, .int .i64 a0_1, .int .i64 a0_2, .int .i64 a0_3] ?_; intro gb287 hg w15 hbox hb; have n0_ := Aside0.mk (bstep_ hb); have n1_ := Aside0.mk (hbox); have n2_ := Aside0.mk ((by rw [hg]; exact bsize_ : w.heap.size ≤ gb287)); have n3_ := Aside0.mk ((by rw [hg]; exact bsize_ : w.heap.size ≤ gb287)); clear HB; have HB := n0_; have BK287 := n1_; have GW287 := n2_; have GE287 := n3_; clear n0_ n1_ n2_ n3_; clear hb hbox hg; obtain ⟨hcz16_0, hcz16_1, hcz16_2, hcz16_3, hfz16_0, hfz16_1, hfz16_2, hfz16_3⟩ := blk_all4 BK287.out))
      go_ret
      exact finA_
    ·rw [if_neg c5] at H
     have c5b0 : decide (a0_1 ≤ 1099511627775) = false := decide_eq_false c5
     clear c5
     obtain rfl := Option.some.inj H
     go_enter Tryz.func47, Tryz.ntmps47
     go_wp2_with (first | ((with_reducible refine gate_dst (N := 1) rfl ?_); refine boxA_ 1 27 #[.int .i64 a0_0, .int .i64 a0_1, .int .i64 a0_2, .int .i64 a0_3] ?_; intro gb287 hg w17 hbox hb; have n0_ := Aside0.mk (bstep_ hb); have n1_ := Aside0.mk (hbox); have n2_ := Aside0.mk ((by rw [hg]; exact bsize_ : w.heap.size ≤ gb287)); have n3_ := Aside0.mk ((by rw [hg]; exact bsize_ : w.heap.size ≤ gb287)); clear HB; have HB := n0_; have BK287 := n1_; have GW287 := n2_; have GE287 := n3_; clear n0_ n1_ n2_ n3_; clear hb hbox hg; obtain ⟨hcz18_0, hcz18_1, hcz18_2, hcz18_3, hfz18_0, hfz18_1, hfz18_2, hfz18_3⟩ := blk_all4 BK287.out))
     go_ret
     exact finA_
   ·rw [if_neg c4] at H
    have c4b0 : decide (0 ≤ a0_1) = false := decide_eq_false c4
    clear c4
    obtain rfl := Option.some.inj H
    go_enter Tryz.func47, Tryz.ntmps47
    go_wp2_with (first | ((with_reducible refine gate_dst (N := 1) rfl ?_); refine boxA_ 1 27 #[.int .i64 a0_0, .int .i64 a0_1, .int .i64 a0_2, .int .i64 a0_3] ?_; intro gb287 hg w19 hbox hb; have n0_ := Aside0.mk (bstep_ hb); have n1_ := Aside0.mk (hbox); have n2_ := Aside0.mk ((by rw [hg]; exact bsize_ : w.heap.size ≤ gb287)); have n3_ := Aside0.mk ((by rw [hg]; exact bsize_ : w.heap.size ≤ gb287)); clear HB; have HB := n0_; have BK287 := n1_; have GW287 := n2_; have GE287 := n3_; clear n0_ n1_ n2_ n3_; clear hb hbox hg; obtain ⟨hcz20_0, hcz20_1, hcz20_2, hcz20_3, hfz20_0, hfz20_1, hfz20_2, hfz20_3⟩ := blk_all4 BK287.out))
    go_ret
    exact finA_
  ·rw [if_neg c3] at H
   have c3b0 : decide (a0_0 ≤ 4095) = false := decide_eq_false c3
   clear c3
   obtain rfl := Option.some.inj H
   go_enter Tryz.func47, Tryz.ntmps47
   go_wp2_with (first | ((with_reducible refine gate_dst (N := 1) rfl ?_); refine boxA_ 1 27 #[.int .i64 a0_0, .int .i64 a0_1, .int .i64 a0_2, .int .i64 a0_3] ?_; intro gb287 hg w21 hbox hb; have n0_ := Aside0.mk (bstep_ hb); have n1_ := Aside0.mk (hbox); have n2_ := Aside0.mk ((by rw [hg]; exact bsize_ : w.heap.size ≤ gb287)); have n3_ := Aside0.mk ((by rw [hg]; exact bsize_ : w.heap.size ≤ gb287)); clear HB; have HB := n0_; have BK287 := n1_; have GW287 := n2_; have GE287 := n3_; clear n0_ n1_ n2_ n3_; clear hb hbox hg; obtain ⟨hcz22_0, hcz22_1, hcz22_2, hcz22_3, hfz22_0, hfz22_1, hfz22_2, hfz22_3⟩ := blk_all4 BK287.out))
   go_ret
   exact finA_
 ·rw [if_neg c2] at H
  have c2b0 : decide (0 ≤ a0_0) = false := decide_eq_false c2
  clear c2
  obtain rfl := Option.some.inj H
  go_enter Tryz.func47, Tryz.ntmps47
  go_wp2_with (first | ((with_reducible refine gate_dst (N := 1) rfl ?_); refine boxA_ 1 27 #[.int .i64 a0_0, .int .i64 a0_1, .int .i64 a0_2, .int .i64 a0_3] ?_; intro gb287 hg w23 hbox hb; have n0_ := Aside0.mk (bstep_ hb); have n1_ := Aside0.mk (hbox); have n2_ := Aside0.mk ((by rw [hg]; exact bsize_ : w.heap.size ≤ gb287)); have n3_ := Aside0.mk ((by rw [hg]; exact bsize_ : w.heap.size ≤ gb287)); clear HB; have HB := n0_; have BK287 := n1_; have GW287 := n2_; have GE287 := n3_; clear n0_ n1_ n2_ n3_; clear hb hbox hg; obtain ⟨hcz24_0, hcz24_1, hcz24_2, hcz24_3, hfz24_0, hfz24_1, hfz24_2, hfz24_3⟩ := blk_all4 BK287.out))
  go_ret
  exact finA_


/-! ### thwartref02_zero: function 101 -/
def thwartref02_zero.l0 : Nat → ByteArray → Int → Option (Int)
 | 0, _, _ => none
 | k + 1, x0, x3 => if x3 < (x0.size : Int) then (if 0 ≤ x3 then (if (bt x0 x3) = 0 then (some x3) else (thwartref02_zero.l0 k x0 (wrap64 (x3 + 1)))) else (none)) else (some (x0.size : Int))
def thwartref02_zero.f (k : Nat) (a0 : ByteArray) : Option (Int) := thwartref02_zero.l0 k a0 0
theorem thwartref02_zero.mono_l : ∀ k, (∀ y0 y1, LeO (thwartref02_zero.l0 k y0 y1) (thwartref02_zero.l0 (k + 1) y0 y1))
 | 0 => fun _ _ r h => by simp [thwartref02_zero.l0] at h
 | k + 1 => by
  have ih0 := thwartref02_zero.mono_l k
  ·intro y0 y1
   unfold thwartref02_zero.l0
   repeat' first
   | (with_reducible exact ih0 _ _)
   | (with_reducible exact LeO.refl _)
   | (with_reducible exact LeO.none _)
   | (with_reducible refine LeO.ite ?_ ?_)
   | (with_reducible refine LeO.bind ?_ (fun _ => ?_))
   | exact ih0 _ _
   | exact LeO.none _
   | refine LeO.ite ?_ ?_
   | refine LeO.bind ?_ (fun _ => ?_)
theorem thwartref02_zero.mono : ∀ a0 k, LeO (thwartref02_zero.f k a0) (thwartref02_zero.f (k + 1) a0) := by
 intro a0 k
 have ih0 := thwartref02_zero.mono_l k
 unfold thwartref02_zero.f
 repeat' first
   | (with_reducible exact ih0 _ _)
   | (with_reducible exact LeO.refl _)
   | (with_reducible exact LeO.none _)
   | (with_reducible refine LeO.ite ?_ ?_)
   | (with_reducible refine LeO.bind ?_ (fun _ => ?_))
   | exact ih0 _ _
   | exact LeO.none _
   | refine LeO.ite ?_ ?_
   | refine LeO.bind ?_ (fun _ => ?_)
set_option maxHeartbeats 8000000 in
set_option maxRecDepth 100000 in
theorem thwartref02_zero.calls (k : Nat) (a0 : ByteArray) (r : Int) (w : World) (h : thwartref02_zero.f k a0 = some r) :
  Calls Tryz.prog 101 #[.string a0] w fun e w' => e = .returned (.int .i64 r) ∧ Drawn0 w w' := by
 have H : (thwartref02_zero.l0 k a0 0) = some r := h
 clear h
 have H' := Aside0.mk H
 clear H
 go_enter Tryz.func101, Tryz.ntmps101
 go_wp2
 go_loopg [3] k (fun kq v3 w' => ∃ (x3_1 : Int), v3 = .int .i64 x3_1 ∧ Aside0 (thwartref02_zero.l0 kq a0 x3_1 = some r) ∧ Aside0 (kq ≤ k) ∧ Drawn0 w w')
 case atStart => exact ⟨(0), (by first | rfl | (simp; done) | (simp [*]; done)), H', ⟨Nat.le_refl _⟩, by repeat (first | exact Drawn0.refl _ | apply Drawn0.step)⟩
 case round =>
  clear H'
  try clear c1
  obtain ⟨x3_1, rfl, HA, HK1, ⟨m1, rfl⟩⟩ := hrel
  cases gk with
  | zero => exact absurd HA.out (by simp [thwartref02_zero.l0])
  | succ k1 =>
   have H := HA.out
   clear HA
   simp only [thwartref02_zero.l0] at H
   by_cases c2 : x3_1 < (a0.size : Int)
   ·rw [if_pos c2] at H
    have c2b0 : decide (x3_1 < (a0.size : Int)) = true := decide_eq_true c2
    clear c2
    by_cases c3 : 0 ≤ x3_1
    ·rw [if_pos c3] at H
     have c3b0 : decide (0 ≤ x3_1) = true := decide_eq_true c3
     clear c3
     by_cases c5 : (bt a0 x3_1) = 0
     ·rw [if_pos c5] at H
      have c5b0 : ((bt a0 x3_1) == 0) = true := beq_iff_eq.mpr c5
      have c5b1 : ((bt a0 x3_1) != 0) = false := bne_eq_false_iff_eq.mpr c5
      clear c5
      obtain rfl := Option.some.inj H
      have p4 : 0 ≤ (x3_1 : Int) := of_decide_eq_true (by first | (with_reducible assumption) | assumption)
      have q4 : x3_1 < (a0.size : Int) := of_decide_eq_true (by first | (with_reducible assumption) | assumption)
      have hx4 := bt_at a0 x3_1
      replace p4 := eq_true p4
      replace q4 := eq_true q4
      go_wp2
      go_ret
      exact ⟨by first | rfl | (simp; done) | (simp [*]; done), by repeat (first | exact Drawn0.refl _ | apply Drawn0.step)⟩
     ·rw [if_neg c5] at H
      have c5b0 : ((bt a0 x3_1) == 0) = false := beq_eq_false_iff_ne.mpr c5
      have c5b1 : ((bt a0 x3_1) != 0) = true := bne_iff_ne.mpr c5
      have H' := Aside0.mk H
      clear H
      have p4 : 0 ≤ (x3_1 : Int) := of_decide_eq_true (by first | (with_reducible assumption) | assumption)
      have q4 : x3_1 < (a0.size : Int) := of_decide_eq_true (by first | (with_reducible assumption) | assumption)
      have hx4 := bt_at a0 x3_1
      replace p4 := eq_true p4
      replace q4 := eq_true q4
      go_wp2
      go_roundg k1
      case measure => have := HK1.out; omega
      case rel => exact ⟨(wrap64 (x3_1 + 1)), (by first | rfl | (simp; done) | (simp [*]; done)), H', ⟨by have := HK1.out; omega⟩, by repeat (first | exact Drawn0.refl _ | apply Drawn0.step)⟩
    ·rw [if_neg c3] at H
     exact absurd H (by simp)
   ·rw [if_neg c2] at H
    have c2b0 : decide (x3_1 < (a0.size : Int)) = false := decide_eq_false c2
    clear c2
    obtain rfl := Option.some.inj H
    go_wp2
    go_ret
    exact ⟨by first | rfl | (simp; done) | (simp [*]; done), by repeat (first | exact Drawn0.refl _ | apply Drawn0.step)⟩


/-! ### thwartref02_Loose: function 82 -/
def thwartref02_Loose.f (k : Nat) (l0 : List Int) : Option (ByteArray) := (thwartref02_zero.f k (strOfNums l0)).bind fun t288 => (if 0 ≤ t288 then (if t288 ≤ ((strOfNums l0).size : Int) then (some ((strOfNums l0).extract 0 (t288 : Int).toNat)) else (none)) else (none))
theorem thwartref02_Loose.mono : ∀ a0 k, LeO (thwartref02_Loose.f k a0) (thwartref02_Loose.f (k + 1) a0) := by
 intro a0 k
 unfold thwartref02_Loose.f
 repeat' first
   | (with_reducible exact thwartref02_zero.mono _ _)
   | (with_reducible exact LeO.refl _)
   | (with_reducible exact LeO.none _)
   | (with_reducible refine LeO.ite ?_ ?_)
   | (with_reducible refine LeO.bind ?_ (fun _ => ?_))
   | exact thwartref02_zero.mono _ _
   | exact LeO.none _
   | refine LeO.ite ?_ ?_
   | refine LeO.bind ?_ (fun _ => ?_)
set_option maxHeartbeats 8000000 in
set_option maxRecDepth 100000 in
theorem thwartref02_Loose.calls (k : Nat) (A0 : Option Addr) (c0 : Nat) (l0 : List Int) (r : ByteArray) (w : World) (hr0 : Kd.C (Kd.int .u8) w A0 l0.length l0) (hc0 : l0.length ≤ c0) (h : thwartref02_Loose.f k l0 = some r) :
  Calls Tryz.prog 82 #[.slice A0 l0.length c0] w fun e w' => e = .returned (.string r) ∧ Drawn0 w w' := by
 have HR0 := Aside0.mk hr0
 have HC0 := Aside0.mk hc0
 clear hr0 hc0
 have H : ((thwartref02_zero.f k (strOfNums l0)).bind fun t288 => (if 0 ≤ t288 then (if t288 ≤ ((strOfNums l0).size : Int) then (some ((strOfNums l0).extract 0 (t288 : Int).toNat)) else (none)) else (none))) = some r := h
 clear h
 replace H := Option.bind_eq_some_iff.mp H
 obtain ⟨t288, A20, H⟩ := H
 try dsimp only at H
 have A2 := Aside0.mk A20
 clear A20
 by_cases c3 : 0 ≤ t288
 ·rw [if_pos c3] at H
  have c3b0 := eq_true c3
  have c3b1 : decide (0 ≤ t288) = true := decide_eq_true c3
  clear c3
  by_cases c4 : t288 ≤ ((strOfNums l0).size : Int)
  ·rw [if_pos c4] at H
   have c4b0 := eq_true c4
   have c4b1 : decide (t288 ≤ ((strOfNums l0).size : Int)) = true := decide_eq_true c4
   clear c4
   obtain rfl := Option.some.inj H
   have hcv5 := Kd.C_string (P := Tryz.prog) (A := A0) (c := c0) Tryz.underlying31 Tryz.underlying5 Tryz.underlying9 HR0.out
   go_enter Tryz.func82, Tryz.ntmps82
   go_wp2_with (first | ((with_reducible refine gate_callee (f := 101) rfl ?_); refine goesA_ (some 8) Tryz.func101 #[.string (strOfNums l0)] ?_; (with_reducible refine (thwartref02_zero.calls k (strOfNums l0) t288 _ A2.out).mono ?_); rintro e w' ⟨rfl, ⟨nd, rfl⟩⟩; refine ⟨_, rfl, ?_⟩))
   go_ret
   exact ⟨by first | rfl | (simp; done) | (simp [*]; done), by repeat (first | exact Drawn0.refl _ | apply Drawn0.step)⟩
  ·rw [if_neg c4] at H
   exact absurd H (by simp)
 ·rw [if_neg c3] at H
  exact absurd H (by simp)

end Go.Proofs.YtjidenkhgeoaiaaGreatDoor.P

/- Contract, by hand, of thwartref08.has: whether a text has a byte 0 (S.Loose([]byte(s)) != s). -/
namespace Go.Proofs.YtjidenkhgeoaiaaGreatDoor.Hand
open Go.RowKit Go.Proofs.YtjidenkhgeoaiaaGreatDoor.P Go.Proofs.YtjidenkhgeoaiaaGreatDoorW Go.Proofs.YtjidenkhgeoaiaaGreatDoorW.PrintWords Go.Proofs.YtjidenkhgeoaiaaGreatDoorW.PrintLast Go.Proofs.YtjidenkhgeoaiaaGreatDoorW.PrintMore
set_option linter.unusedVariables false
set_option linter.unusedSimpArgs false
def ref08_has.f (k : Nat) (a0 : ByteArray) : Option Bool :=
  if a0.size ≤ 9223372036854775807 then (thwartref02_Loose.f k (bytesOf a0)).bind fun t => some (t.toList != a0.toList) else none
theorem ref08_has.mono : ∀ a0 k, LeO (ref08_has.f k a0) (ref08_has.f (k + 1) a0) := by
  intro a0 k
  unfold ref08_has.f
  split
  · exact LeO.bind (thwartref02_Loose.mono _ _) (fun _ => LeO.refl _)
  · exact LeO.refl _
set_option maxHeartbeats 4000000 in
set_option maxRecDepth 100000 in
theorem ref08_has.calls (k : Nat) (a0 : ByteArray) (r : Bool) (w : World) (h : ref08_has.f k a0 = some r) :
    Calls Tryz.prog 67 #[.string a0] w fun e w' => e = .returned (.bool r) ∧ Below w.heap.size w w' := by
  unfold ref08_has.f at h
  split at h
  case isFalse => cases h
  rename_i hs
  obtain ⟨t, ht, h⟩ := Option.bind_eq_some_iff.mp h
  have hr := Option.some.inj h
  clear h
  have HT := Aside0.mk ht
  have HR := Aside0.mk hr
  clear ht hr
  have HC := Aside0.mk (Kd.C_of_reads (enc := Value.int .u8) (h1 := fun _ => rfl) (bytes_reads w 5 a0 hs))
  have HL := Aside0.mk (show (bytesOf a0).length ≤ grownCap w a0.size 0 5 from by rw [bytesOf_length]; exact grownCap_ge _ _ _ _)
  have kb := fun W => print_bytes (P := Tryz.prog) 9 31 5 Tryz.underlying9 Tryz.underlying31 Tryz.underlying5 a0 W
  have HBB := Aside0.mk (bytes_below (Below.refl w.heap.size w) (Nat.le_refl _) 5 a0)
  clear hs
  go_enter Tryz.func67, Tryz.ntmps67
  go_wp2_with (go_at_call 82; rw [← bytesOf_length a0]; (with_reducible refine (thwartref02_Loose.calls k _ _ (bytesOf a0) t _ ?hC ?hL HT.out).mono ?_); (case hC => (rw [bytesOf_length]; exact HC.out)); (case hL => (rw [bytesOf_length]; exact (by have := HL.out; rwa [bytesOf_length] at this))); rintro e w' ⟨rfl, hd⟩; have HD := Aside0.mk hd; clear hd kb)
  go_ret
  refine ⟨?_, ?_⟩
  · rw [← HR.out]; rfl
  · exact below_then HBB.out HBB.out.size (drawnK HD.out)
end Go.Proofs.YtjidenkhgeoaiaaGreatDoor.Hand

namespace Go.Proofs.YtjidenkhgeoaiaaGreatDoor.P
open Go.RowKit Go.Proofs.YtjidenkhgeoaiaaGreatDoorW.PrintWords Go.Proofs.YtjidenkhgeoaiaaGreatDoorW.PrintLast Go.Proofs.YtjidenkhgeoaiaaGreatDoorW.PrintMore Go.Proofs.YtjidenkhgeoaiaaGreatDoor.Hand
attribute [local go_sem] max2_int min2_int max_two min_two max_three min_three max_four min_four   -- for this text's walks alone
set_option linter.unusedVariables false
set_option linter.unusedSimpArgs false

/-! ### thwartref08_link: function 48 -/
def thwartref08_link.j0 : Nat → Bool → ByteArray → Int → Int → Int → Int → Int → ByteArray → List Int → Option (Int)
 | 0, _, _, _, _, _, _, _, _, _ => none
 | k + 1, x29, x289000, x289001, x289002, x289003, x289004, x289005, x289006, x289007 => if x29 = true then (some 3) else (if (x289006.size : Int) > 300 then (some 10) else (some 0))
def thwartref08_link.f (k : Nat) (a0_0 : ByteArray) (a0_1 : Int) (a0_2 : Int) (a0_3 : Int) (a0_4 : Int) (a0_5 : Int) (a0_6 : ByteArray) (l0_7 : List Int) : Option (Int) := if a0_1 = 2 then ((thwartref04_Parts.f k a0_6).bind fun bt289 => (if bt289.2 = 0 then (some 0) else (some 8))) else (if a0_1 = 3 then (if a0_6.toList = ([] : List UInt8) then (thwartref08_link.j0 k true a0_0 a0_1 a0_2 a0_3 a0_4 a0_5 a0_6 l0_7) else ((ref08_has.f k a0_6).bind fun t293 => (thwartref08_link.j0 k t293 a0_0 a0_1 a0_2 a0_3 a0_4 a0_5 a0_6 l0_7))) else (if a0_6.toList = ([] : List UInt8) then (some 0) else (some 3)))
theorem thwartref08_link.mono_l : ∀ k, (∀ y0 y1 y2 y3 y4 y5 y6 y7 y8, LeO (thwartref08_link.j0 k y0 y1 y2 y3 y4 y5 y6 y7 y8) (thwartref08_link.j0 (k + 1) y0 y1 y2 y3 y4 y5 y6 y7 y8))
 | 0 => fun _ _ _ _ _ _ _ _ _ r h => by simp [thwartref08_link.j0] at h
 | k + 1 => by
  have ih0 := thwartref08_link.mono_l k
  ·intro y0 y1 y2 y3 y4 y5 y6 y7 y8
   unfold thwartref08_link.j0
   repeat' first
   | (with_reducible exact ih0 _ _ _ _ _ _ _ _ _)
   | (with_reducible exact ref08_has.mono _ _)
   | (with_reducible exact thwartref04_Parts.mono _ _)
   | (with_reducible exact LeO.refl _)
   | (with_reducible exact LeO.none _)
   | (with_reducible refine LeO.ite ?_ ?_)
   | (with_reducible refine LeO.bind ?_ (fun _ => ?_))
   | exact ih0 _ _ _ _ _ _ _ _ _
   | exact ref08_has.mono _ _
   | exact thwartref04_Parts.mono _ _
   | exact LeO.none _
   | refine LeO.ite ?_ ?_
   | refine LeO.bind ?_ (fun _ => ?_)
theorem thwartref08_link.mono : ∀ a0 a1 a2 a3 a4 a5 a6 a7 k, LeO (thwartref08_link.f k a0 a1 a2 a3 a4 a5 a6 a7) (thwartref08_link.f (k + 1) a0 a1 a2 a3 a4 a5 a6 a7) := by
 intro a0 a1 a2 a3 a4 a5 a6 a7 k
 have ih0 := thwartref08_link.mono_l k
 unfold thwartref08_link.f
 repeat' first
   | (with_reducible exact ih0 _ _ _ _ _ _ _ _ _)
   | (with_reducible exact ref08_has.mono _ _)
   | (with_reducible exact thwartref04_Parts.mono _ _)
   | (with_reducible exact LeO.refl _)
   | (with_reducible exact LeO.none _)
   | (with_reducible refine LeO.ite ?_ ?_)
   | (with_reducible refine LeO.bind ?_ (fun _ => ?_))
   | exact ih0 _ _ _ _ _ _ _ _ _
   | exact ref08_has.mono _ _
   | exact thwartref04_Parts.mono _ _
   | exact LeO.none _
   | refine LeO.ite ?_ ?_
   | refine LeO.bind ?_ (fun _ => ?_)
set_option maxHeartbeats 8000000 in
set_option maxRecDepth 100000 in
theorem thwartref08_link.calls (k : Nat) (a0_0 : ByteArray) (a0_1 : Int) (a0_2 : Int) (a0_3 : Int) (a0_4 : Int) (a0_5 : Int) (a0_6 : ByteArray) (A0_7 : Option Addr) (c0_7 : Nat) (l0_7 : List Int) (r : Int) (w : World) (hr0_7 : Kd.C (Kd.int .u8) w A0_7 l0_7.length l0_7) (hc0_7 : l0_7.length ≤ c0_7) (h : thwartref08_link.f k a0_0 a0_1 a0_2 a0_3 a0_4 a0_5 a0_6 l0_7 = some r) :
  Calls Tryz.prog 48 #[.agg #[.string a0_0, .int .i64 a0_1, .int .i64 a0_2, .int .i64 a0_3, .int .i64 a0_4, .int .i64 a0_5, .string a0_6, .slice A0_7 l0_7.length c0_7]] w fun e w' => e = .returned (.int .i64 r) ∧ Below w.heap.size w w' := by
 have hu45 := Tryz.underlying45
 have HR0_7 := Aside0.mk hr0_7
 have HC0_7 := Aside0.mk hc0_7
 clear hr0_7 hc0_7
 have HB := Aside0.mk (Below.refl w.heap.size w)
 have H : (if a0_1 = 2 then ((thwartref04_Parts.f k a0_6).bind fun bt289 => (if bt289.2 = 0 then (some 0) else (some 8))) else (if a0_1 = 3 then (if a0_6.toList = ([] : List UInt8) then (thwartref08_link.j0 k true a0_0 a0_1 a0_2 a0_3 a0_4 a0_5 a0_6 l0_7) else ((ref08_has.f k a0_6).bind fun t293 => (thwartref08_link.j0 k t293 a0_0 a0_1 a0_2 a0_3 a0_4 a0_5 a0_6 l0_7))) else (if a0_6.toList = ([] : List UInt8) then (some 0) else (some 3)))) = some r := h
 clear h
 by_cases c2 : a0_1 = 2
 ·rw [if_pos c2] at H
  have c2b0 : (a0_1 == 2) = true := beq_iff_eq.mpr c2
  have c2b1 : (a0_1 != 2) = false := bne_eq_false_iff_eq.mpr c2
  clear c2
  replace H := Option.bind_eq_some_iff.mp H
  obtain ⟨⟨t289, t290⟩, A30, H⟩ := H
  try dsimp only at H
  have A3 := Aside0.mk A30
  clear A30
  by_cases c4 : t290 = 0
  ·rw [if_pos c4] at H
   have c4b0 : (t290 == 0) = true := beq_iff_eq.mpr c4
   have c4b1 : (t290 != 0) = false := bne_eq_false_iff_eq.mpr c4
   clear c4
   obtain rfl := Option.some.inj H
   go_enter Tryz.func48, Tryz.ntmps48
   go_wp2_with (first | ((with_reducible refine gate_dst (N := 1) rfl ?_); refine boxA_ 1 45 #[.string a0_0, .int .i64 a0_1, .int .i64 a0_2, .int .i64 a0_3, .int .i64 a0_4, .int .i64 a0_5, .string a0_6, .slice A0_7 l0_7.length c0_7] ?_; intro gb288 hg w5 hbox hb; have n0_ := Aside0.mk (bstep_ hb); have n1_ := Aside0.mk (hbox); have n2_ := Aside0.mk ((by rw [hg]; exact bsize_ : w.heap.size ≤ gb288)); have n3_ := Aside0.mk ((by rw [hg]; exact bsize_ : w.heap.size ≤ gb288)); clear HB; have HB := n0_; have BK288 := n1_; have GW288 := n2_; have GE288 := n3_; clear n0_ n1_ n2_ n3_; clear hb hbox hg; obtain ⟨hcz6_0, hcz6_1, hcz6_2, hcz6_3, hcz6_4, hcz6_5, hcz6_6, hcz6_7, hfz6_0, hfz6_1, hfz6_2, hfz6_3, hfz6_4, hfz6_5, hfz6_6, hfz6_7⟩ := blk_all8 BK288.out) | ((with_reducible refine gate_callee (f := 46) rfl ?_); refine goesA_ (some 15) Tryz.func46 #[.string a0_6] ?_; (with_reducible refine (thwartref04_Parts.calls k a0_6 t289 t290 _ A3.out).mono ?_); rintro e w7 ⟨v291, rfl, ho0, hb⟩; refine ⟨_, rfl, ?_⟩; have n0_ := Aside0.mk (Kd.R_lower ho0 bsize_); have n1_ := Aside0.mk (blkB_ BK288.out hb); have n2_ := Aside0.mk (bstep_ hb); clear BK288; clear HB; have HO292 := n0_; have BK288 := n1_; have HB := n2_; clear n0_ n1_ n2_; (try clear hb); (try clear hb2); (try clear hk); (try clear hi); (try clear ho0)))
   go_ret
   exact ⟨by first | rfl | (simp [errW_none, errW_some] <;> rfl) | (simp [*, errW_none, errW_some] <;> rfl) | (simp only [bytes_ne, bytes_eq] <;> rfl), by repeat (first | (with_reducible first | exact HB.out | apply below_alloc | apply pw_below_drewN | apply below_drew1 | refine below_set ?_ GE288.out) | exact HB.out)⟩
  ·rw [if_neg c4] at H
   have c4b0 : (t290 == 0) = false := beq_eq_false_iff_ne.mpr c4
   have c4b1 : (t290 != 0) = true := bne_iff_ne.mpr c4
   obtain rfl := Option.some.inj H
   go_enter Tryz.func48, Tryz.ntmps48
   go_wp2_with (first | ((with_reducible refine gate_dst (N := 1) rfl ?_); refine boxA_ 1 45 #[.string a0_0, .int .i64 a0_1, .int .i64 a0_2, .int .i64 a0_3, .int .i64 a0_4, .int .i64 a0_5, .string a0_6, .slice A0_7 l0_7.length c0_7] ?_; intro gb288 hg w8 hbox hb; have n0_ := Aside0.mk (bstep_ hb); have n1_ := Aside0.mk (hbox); have n2_ := Aside0.mk ((by rw [hg]; exact bsize_ : w.heap.size ≤ gb288)); have n3_ := Aside0.mk ((by rw [hg]; exact bsize_ : w.heap.size ≤ gb288)); clear HB; have HB := n0_; have BK288 := n1_; have GW288 := n2_; have GE288 := n3_; clear n0_ n1_ n2_ n3_; clear hb hbox hg; obtain ⟨hcz9_0, hcz9_1, hcz9_2, hcz9_3, hcz9_4, hcz9_5, hcz9_6, hcz9_7, hfz9_0, hfz9_1, hfz9_2, hfz9_3, hfz9_4, hfz9_5, hfz9_6, hfz9_7⟩ := blk_all8 BK288.out) | ((with_reducible refine gate_callee (f := 46) rfl ?_); refine goesA_ (some 15) Tryz.func46 #[.string a0_6] ?_; (with_reducible refine (thwartref04_Parts.calls k a0_6 t289 t290 _ A3.out).mono ?_); rintro e w10 ⟨v291, rfl, ho0, hb⟩; refine ⟨_, rfl, ?_⟩; have n0_ := Aside0.mk (Kd.R_lower ho0 bsize_); have n1_ := Aside0.mk (blkB_ BK288.out hb); have n2_ := Aside0.mk (bstep_ hb); clear BK288; clear HB; have HO292 := n0_; have BK288 := n1_; have HB := n2_; clear n0_ n1_ n2_; (try clear hb); (try clear hb2); (try clear hk); (try clear hi); (try clear ho0)))
   go_ret
   exact ⟨by first | rfl | (simp [errW_none, errW_some] <;> rfl) | (simp [*, errW_none, errW_some] <;> rfl) | (simp only [bytes_ne, bytes_eq] <;> rfl), by repeat (first | (with_reducible first | exact HB.out | apply below_alloc | apply pw_below_drewN | apply below_drew1 | refine below_set ?_ GE288.out) | exact HB.out)⟩
 ·rw [if_neg c2] at H
  have c2b0 : (a0_1 == 2) = false := beq_eq_false_iff_ne.mpr c2
  have c2b1 : (a0_1 != 2) = true := bne_iff_ne.mpr c2
  by_cases c11 : a0_1 = 3
  ·rw [if_pos c11] at H
   have c11b0 : (a0_1 == 3) = true := beq_iff_eq.mpr c11
   have c11b1 : (a0_1 != 3) = false := bne_eq_false_iff_eq.mpr c11
   clear c11
   have HC12 := Aside0.mk H
   clear H
   go_enter Tryz.func48, Tryz.ntmps48
   go_upto_region 9 with (first | ((with_reducible refine gate_dst (N := 1) rfl ?_); refine boxA_ 1 45 #[.string a0_0, .int .i64 a0_1, .int .i64 a0_2, .int .i64 a0_3, .int .i64 a0_4, .int .i64 a0_5, .string a0_6, .slice A0_7 l0_7.length c0_7] ?_; intro gb288 hg w13 hbox hb; have n0_ := Aside0.mk (bstep_ hb); have n1_ := Aside0.mk (hbox); have n2_ := Aside0.mk ((by rw [hg]; exact bsize_ : w.heap.size ≤ gb288)); have n3_ := Aside0.mk ((by rw [hg]; exact bsize_ : w.heap.size ≤ gb288)); clear HB; have HB := n0_; have BK288 := n1_; have GW288 := n2_; have GE288 := n3_; clear n0_ n1_ n2_ n3_; clear hb hbox hg; obtain ⟨hcz14_0, hcz14_1, hcz14_2, hcz14_3, hcz14_4, hcz14_5, hcz14_6, hcz14_7, hfz14_0, hfz14_1, hfz14_2, hfz14_3, hfz14_4, hfz14_5, hfz14_6, hfz14_7⟩ := blk_all8 BK288.out))
   (try simp only [Act.put, List.setIfInBounds_toArray, List.set_cons_zero, List.set_cons_succ])
   go_cut [29] (fun v29 wc => ∃ (kq : Nat) (x29_11 : Bool), v29 = .bool x29_11 ∧ Aside0 (thwartref08_link.j0 kq x29_11 a0_0 a0_1 a0_2 a0_3 a0_4 a0_5 a0_6 l0_7 = some r) ∧ Aside0 (kq ≤ k) ∧ Aside0 (wc.heap[gb288]? = some (.cells #[.string a0_0, .int .i64 a0_1, .int .i64 a0_2, .int .i64 a0_3, .int .i64 a0_4, .int .i64 a0_5, .string a0_6, (.slice A0_7 l0_7.length c0_7)] 45 (0, 0))) ∧ Aside0 (Below w.heap.size w wc))
   case first =>
    have H := HC12.out
    clear HC12
    by_cases c15 : a0_6.toList = ([] : List UInt8)
    ·rw [if_pos c15] at H
     have c15b0 : (a0_6.toList == ([] : List UInt8)) = true := beq_iff_eq.mpr c15
     have c15b1 : (a0_6.toList != ([] : List UInt8)) = false := bne_eq_false_iff_eq.mpr c15
     clear c15
     (first | rw [c15b0] | (simp only [i64_w, i32_w]; rw [c15b0]) | skip)
     have H' := Aside0.mk H
     clear H
     obtain ⟨hcz16_0, hcz16_1, hcz16_2, hcz16_3, hcz16_4, hcz16_5, hcz16_6, hcz16_7, hfz16_0, hfz16_1, hfz16_2, hfz16_3, hfz16_4, hfz16_5, hfz16_6, hfz16_7⟩ := blk_all8 BK288.out
     go_wp2
     go_meet
     case rel => exact ⟨_, (true), (by first | rfl | (simp; done) | (simp [*]; done) | (simp only [bytes_ne, bytes_eq] <;> rfl)), H', ⟨by first | omega | exact Nat.le_refl _⟩, ⟨by (with_reducible repeat (first | refine blk_drewN ?_ _ | refine blk_drew ?_ | refine blk_alloc ?_ _)); exact BK288.out⟩, ⟨by repeat (first | (with_reducible first | exact HB.out | apply below_alloc | apply pw_below_drewN | apply below_drew1 | refine below_set ?_ GE288.out) | exact HB.out)⟩⟩
    ·rw [if_neg c15] at H
     have c15b0 : (a0_6.toList == ([] : List UInt8)) = false := beq_eq_false_iff_ne.mpr c15
     have c15b1 : (a0_6.toList != ([] : List UInt8)) = true := bne_iff_ne.mpr c15
     (first | rw [c15b0] | (simp only [i64_w, i32_w]; rw [c15b0]) | skip)
     replace H := Option.bind_eq_some_iff.mp H
     obtain ⟨t293, A170, H⟩ := H
     try dsimp only at H
     have A17 := Aside0.mk A170
     clear A170
     have H' := Aside0.mk H
     clear H
     obtain ⟨hcz18_0, hcz18_1, hcz18_2, hcz18_3, hcz18_4, hcz18_5, hcz18_6, hcz18_7, hfz18_0, hfz18_1, hfz18_2, hfz18_3, hfz18_4, hfz18_5, hfz18_6, hfz18_7⟩ := blk_all8 BK288.out
     go_wp2_with (first | (go_at_call 67; (with_reducible refine (ref08_has.calls k a0_6 t293 _ A17.out).mono ?_); rintro e w19 ⟨rfl, hb⟩; have n0_ := Aside0.mk (blkB_ BK288.out hb); have n1_ := Aside0.mk (bstep_ hb); clear BK288; clear HB; have BK288 := n0_; have HB := n1_; clear n0_ n1_; (try clear hb); (try clear hb2); (try clear hk); (try clear hi)))
     go_meet
     case rel => exact ⟨_, (t293), (by first | rfl | (simp; done) | (simp [*]; done) | (simp only [bytes_ne, bytes_eq] <;> rfl)), H', ⟨by first | omega | exact Nat.le_refl _⟩, ⟨by (with_reducible repeat (first | refine blk_drewN ?_ _ | refine blk_drew ?_ | refine blk_alloc ?_ _)); exact BK288.out⟩, ⟨by repeat (first | (with_reducible first | exact HB.out | apply below_alloc | apply pw_below_drewN | apply below_drew1 | refine below_set ?_ GE288.out) | exact HB.out)⟩⟩
   case rest =>
    clear HC12
    try clear c1
    try clear c2
    try clear c2b0
    try clear c2b1
    try clear p2
    try clear c4
    try clear c4b0
    try clear c4b1
    try clear c11
    try clear c11b0
    try clear c11b1
    try clear c15
    try clear c15b0
    try clear c15b1
    try clear hcz14_0
    try clear hcz14_1
    try clear hcz14_2
    try clear hcz14_3
    try clear hcz14_4
    try clear hcz14_5
    try clear hcz14_6
    try clear hcz14_7
    try clear hcz16_0
    try clear hcz16_1
    try clear hcz16_2
    try clear hcz16_3
    try clear hcz16_4
    try clear hcz16_5
    try clear hcz16_6
    try clear hcz16_7
    try clear hcz18_0
    try clear hcz18_1
    try clear hcz18_2
    try clear hcz18_3
    try clear hcz18_4
    try clear hcz18_5
    try clear hcz18_6
    try clear hcz18_7
    try clear hcz6_0
    try clear hcz6_1
    try clear hcz6_2
    try clear hcz6_3
    try clear hcz6_4
    try clear hcz6_5
    try clear hcz6_6
    try clear hcz6_7
    try clear hcz9_0
    try clear hcz9_1
    try clear hcz9_2
    try clear hcz9_3
    try clear hcz9_4
    try clear hcz9_5
    try clear hcz9_6
    try clear hcz9_7
    try clear hfz14_0
    try clear hfz14_1
    try clear hfz14_2
    try clear hfz14_3
    try clear hfz14_4
    try clear hfz14_5
    try clear hfz14_6
    try clear hfz14_7
    try clear hfz16_0
    try clear hfz16_1
    try clear hfz16_2
    try clear hfz16_3
    try clear hfz16_4
    try clear hfz16_5
    try clear hfz16_6
    try clear hfz16_7
    try clear hfz18_0
    try clear hfz18_1
    try clear hfz18_2
    try clear hfz18_3
    try clear hfz18_4
    try clear hfz18_5
    try clear hfz18_6
    try clear hfz18_7
    try clear hfz6_0
    try clear hfz6_1
    try clear hfz6_2
    try clear hfz6_3
    try clear hfz6_4
    try clear hfz6_5
    try clear hfz6_6
    try clear hfz6_7
    try clear hfz9_0
    try clear hfz9_1
    try clear hfz9_2
    try clear hfz9_3
    try clear hfz9_4
    try clear hfz9_5
    try clear hfz9_6
    try clear hfz9_7
    obtain ⟨kq, x29_11, rfl, HA, HJ11, BK288, HB⟩ := hcut
    cases kq with
    | zero => exact absurd HA.out (by simp [thwartref08_link.j0])
    | succ kj11 =>
     have H := HA.out
     clear HA
     simp only [thwartref08_link.j0] at H
     by_cases c20 : x29_11 = true
     ·subst c20
      have H1 := H; rw [if_pos rfl] at H1
      clear H
      have H := H1
      clear H1
      obtain rfl := Option.some.inj H
      go_wp2
      go_ret
      exact ⟨by first | rfl | (simp [errW_none, errW_some] <;> rfl) | (simp [*, errW_none, errW_some] <;> rfl) | (simp only [bytes_ne, bytes_eq] <;> rfl), by repeat (first | (with_reducible first | exact HB.out | apply below_alloc | apply pw_below_drewN | apply below_drew1 | refine below_set ?_ GE288.out) | exact HB.out)⟩
     ·replace c20 := Bool.eq_false_iff.mpr c20
      subst c20
      have H1 := H; rw [if_neg (show ¬ (false = true) by decide)] at H1
      clear H
      have H := H1
      clear H1
      by_cases c21 : (a0_6.size : Int) > 300
      ·rw [if_pos c21] at H
       have c21b0 : decide (300 < (a0_6.size : Int)) = true := decide_eq_true c21
       have c21b1 : decide (300 < a0_6.size) = true := decide_eq_true (by omega)
       clear c21
       obtain rfl := Option.some.inj H
       obtain ⟨hcz22_0, hcz22_1, hcz22_2, hcz22_3, hcz22_4, hcz22_5, hcz22_6, hcz22_7, hfz22_0, hfz22_1, hfz22_2, hfz22_3, hfz22_4, hfz22_5, hfz22_6, hfz22_7⟩ := blk_all8 BK288.out
       go_wp2
       go_ret
       exact ⟨by first | rfl | (simp [errW_none, errW_some] <;> rfl) | (simp [*, errW_none, errW_some] <;> rfl) | (simp only [bytes_ne, bytes_eq] <;> rfl), by repeat (first | (with_reducible first | exact HB.out | apply below_alloc | apply pw_below_drewN | apply below_drew1 | refine below_set ?_ GE288.out) | exact HB.out)⟩
      ·rw [if_neg c21] at H
       have c21b0 : decide (300 < (a0_6.size : Int)) = false := decide_eq_false c21
       have c21b1 : decide (300 < a0_6.size) = false := decide_eq_false (by omega)
       clear c21
       obtain rfl := Option.some.inj H
       obtain ⟨hcz23_0, hcz23_1, hcz23_2, hcz23_3, hcz23_4, hcz23_5, hcz23_6, hcz23_7, hfz23_0, hfz23_1, hfz23_2, hfz23_3, hfz23_4, hfz23_5, hfz23_6, hfz23_7⟩ := blk_all8 BK288.out
       go_wp2
       go_ret
       exact ⟨by first | rfl | (simp [errW_none, errW_some] <;> rfl) | (simp [*, errW_none, errW_some] <;> rfl) | (simp only [bytes_ne, bytes_eq] <;> rfl), by repeat (first | (with_reducible first | exact HB.out | apply below_alloc | apply pw_below_drewN | apply below_drew1 | refine below_set ?_ GE288.out) | exact HB.out)⟩
  ·rw [if_neg c11] at H
   have c11b0 : (a0_1 == 3) = false := beq_eq_false_iff_ne.mpr c11
   have c11b1 : (a0_1 != 3) = true := bne_iff_ne.mpr c11
   by_cases c24 : a0_6.toList = ([] : List UInt8)
   ·rw [if_pos c24] at H
    have c24b0 : (a0_6.toList == ([] : List UInt8)) = true := beq_iff_eq.mpr c24
    have c24b1 : (a0_6.toList != ([] : List UInt8)) = false := bne_eq_false_iff_eq.mpr c24
    clear c24
    obtain rfl := Option.some.inj H
    go_enter Tryz.func48, Tryz.ntmps48
    go_wp2_with (first | ((with_reducible refine gate_dst (N := 1) rfl ?_); refine boxA_ 1 45 #[.string a0_0, .int .i64 a0_1, .int .i64 a0_2, .int .i64 a0_3, .int .i64 a0_4, .int .i64 a0_5, .string a0_6, .slice A0_7 l0_7.length c0_7] ?_; intro gb288 hg w25 hbox hb; have n0_ := Aside0.mk (bstep_ hb); have n1_ := Aside0.mk (hbox); have n2_ := Aside0.mk ((by rw [hg]; exact bsize_ : w.heap.size ≤ gb288)); have n3_ := Aside0.mk ((by rw [hg]; exact bsize_ : w.heap.size ≤ gb288)); clear HB; have HB := n0_; have BK288 := n1_; have GW288 := n2_; have GE288 := n3_; clear n0_ n1_ n2_ n3_; clear hb hbox hg; obtain ⟨hcz26_0, hcz26_1, hcz26_2, hcz26_3, hcz26_4, hcz26_5, hcz26_6, hcz26_7, hfz26_0, hfz26_1, hfz26_2, hfz26_3, hfz26_4, hfz26_5, hfz26_6, hfz26_7⟩ := blk_all8 BK288.out))
    go_ret
    exact ⟨by first | rfl | (simp [errW_none, errW_some] <;> rfl) | (simp [*, errW_none, errW_some] <;> rfl) | (simp only [bytes_ne, bytes_eq] <;> rfl), by repeat (first | (with_reducible first | exact HB.out | apply below_alloc | apply pw_below_drewN | apply below_drew1 | refine below_set ?_ GE288.out) | exact HB.out)⟩
   ·rw [if_neg c24] at H
    have c24b0 : (a0_6.toList == ([] : List UInt8)) = false := beq_eq_false_iff_ne.mpr c24
    have c24b1 : (a0_6.toList != ([] : List UInt8)) = true := bne_iff_ne.mpr c24
    obtain rfl := Option.some.inj H
    go_enter Tryz.func48, Tryz.ntmps48
    go_wp2_with (first | ((with_reducible refine gate_dst (N := 1) rfl ?_); refine boxA_ 1 45 #[.string a0_0, .int .i64 a0_1, .int .i64 a0_2, .int .i64 a0_3, .int .i64 a0_4, .int .i64 a0_5, .string a0_6, .slice A0_7 l0_7.length c0_7] ?_; intro gb288 hg w27 hbox hb; have n0_ := Aside0.mk (bstep_ hb); have n1_ := Aside0.mk (hbox); have n2_ := Aside0.mk ((by rw [hg]; exact bsize_ : w.heap.size ≤ gb288)); have n3_ := Aside0.mk ((by rw [hg]; exact bsize_ : w.heap.size ≤ gb288)); clear HB; have HB := n0_; have BK288 := n1_; have GW288 := n2_; have GE288 := n3_; clear n0_ n1_ n2_ n3_; clear hb hbox hg; obtain ⟨hcz28_0, hcz28_1, hcz28_2, hcz28_3, hcz28_4, hcz28_5, hcz28_6, hcz28_7, hfz28_0, hfz28_1, hfz28_2, hfz28_3, hfz28_4, hfz28_5, hfz28_6, hfz28_7⟩ := blk_all8 BK288.out))
    go_ret
    exact ⟨by first | rfl | (simp [errW_none, errW_some] <;> rfl) | (simp [*, errW_none, errW_some] <;> rfl) | (simp only [bytes_ne, bytes_eq] <;> rfl), by repeat (first | (with_reducible first | exact HB.out | apply below_alloc | apply pw_below_drewN | apply below_drew1 | refine below_set ?_ GE288.out) | exact HB.out)⟩


/-! ### thwartref08_May: function 27 -/
mutual
def thwartref08_May.j0 : Nat → Bool → ByteArray → Int → Int → Int → Int → Int → ByteArray → List Int → Option (Int)
 | 0, _, _, _, _, _, _, _, _, _ => none
 | k + 1, x21, x295000, x295001, x295002, x295003, x295004, x295005, x295006, x295007 => if x21 = true then (some 11) else ((thwartref08_Numbers.f x295002 x295003 x295004 x295005).bind fun t299 => (if t299 = true then (if x295001 = 1 then (thwartref08_May.j1 k (decide ((x295007.length : Int) > 4096)) x295000 x295001 x295002 x295003 x295004 x295005 x295006 x295007) else (thwartref08_May.j1 k false x295000 x295001 x295002 x295003 x295004 x295005 x295006 x295007)) else (some 10)))
def thwartref08_May.j1 : Nat → Bool → ByteArray → Int → Int → Int → Int → Int → ByteArray → List Int → Option (Int)
 | 0, _, _, _, _, _, _, _, _, _ => none
 | k + 1, x34, x295000, x295001, x295002, x295003, x295004, x295005, x295006, x295007 => if x34 = true then (some 10) else ((thwartref08_link.f k x295000 x295001 x295002 x295003 x295004 x295005 x295006 x295007).bind fun t300 => (if t300 = 0 then (if x295001 = 1 then (some 0) else (if (x295007.length : Int) > 0 then (some 3) else (some 0))) else (some t300)))
end
def thwartref08_May.f (k : Nat) (a0_0 : ByteArray) (a0_1 : Int) (a0_2 : Int) (a0_3 : Int) (a0_4 : Int) (a0_5 : Int) (a0_6 : ByteArray) (l0_7 : List Int) : Option (Int) := (thwartref04_Parts.f k a0_0).bind fun bt295 => (if bt295.2 = 0 then (if a0_1 < 1 then (thwartref08_May.j0 k true a0_0 a0_1 a0_2 a0_3 a0_4 a0_5 a0_6 l0_7) else (thwartref08_May.j0 k (decide (a0_1 > 4)) a0_0 a0_1 a0_2 a0_3 a0_4 a0_5 a0_6 l0_7)) else (some 8))
theorem thwartref08_May.mono_l : ∀ k, (∀ y0 y1 y2 y3 y4 y5 y6 y7 y8, LeO (thwartref08_May.j0 k y0 y1 y2 y3 y4 y5 y6 y7 y8) (thwartref08_May.j0 (k + 1) y0 y1 y2 y3 y4 y5 y6 y7 y8)) ∧ (∀ y0 y1 y2 y3 y4 y5 y6 y7 y8, LeO (thwartref08_May.j1 k y0 y1 y2 y3 y4 y5 y6 y7 y8) (thwartref08_May.j1 (k + 1) y0 y1 y2 y3 y4 y5 y6 y7 y8))
 | 0 => ⟨fun _ _ _ _ _ _ _ _ _ r h => by simp [thwartref08_May.j0] at h, fun _ _ _ _ _ _ _ _ _ r h => by simp [thwartref08_May.j1] at h⟩
 | k + 1 => by
  obtain ⟨ih0, ih1⟩ := thwartref08_May.mono_l k
  refine ⟨?_, ?_⟩
  ·intro y0 y1 y2 y3 y4 y5 y6 y7 y8
   unfold thwartref08_May.j0
   repeat' first
   | (with_reducible exact ih0 _ _ _ _ _ _ _ _ _)
   | (with_reducible exact ih1 _ _ _ _ _ _ _ _ _)
   | (with_reducible exact thwartref04_Parts.mono _ _)
   | (with_reducible exact thwartref08_link.mono _ _ _ _ _ _ _ _ _)
   | (with_reducible exact LeO.refl _)
   | (with_reducible exact LeO.none _)
   | (with_reducible refine LeO.ite ?_ ?_)
   | (with_reducible refine LeO.bind ?_ (fun _ => ?_))
   | exact ih0 _ _ _ _ _ _ _ _ _
   | exact ih1 _ _ _ _ _ _ _ _ _
   | exact thwartref04_Parts.mono _ _
   | exact thwartref08_link.mono _ _ _ _ _ _ _ _ _
   | exact LeO.none _
   | refine LeO.ite ?_ ?_
   | refine LeO.bind ?_ (fun _ => ?_)
  ·intro y0 y1 y2 y3 y4 y5 y6 y7 y8
   unfold thwartref08_May.j1
   repeat' first
   | (with_reducible exact ih0 _ _ _ _ _ _ _ _ _)
   | (with_reducible exact ih1 _ _ _ _ _ _ _ _ _)
   | (with_reducible exact thwartref04_Parts.mono _ _)
   | (with_reducible exact thwartref08_link.mono _ _ _ _ _ _ _ _ _)
   | (with_reducible exact LeO.refl _)
   | (with_reducible exact LeO.none _)
   | (with_reducible refine LeO.ite ?_ ?_)
   | (with_reducible refine LeO.bind ?_ (fun _ => ?_))
   | exact ih0 _ _ _ _ _ _ _ _ _
   | exact ih1 _ _ _ _ _ _ _ _ _
   | exact thwartref04_Parts.mono _ _
   | exact thwartref08_link.mono _ _ _ _ _ _ _ _ _
   | exact LeO.none _
   | refine LeO.ite ?_ ?_
   | refine LeO.bind ?_ (fun _ => ?_)
theorem thwartref08_May.mono : ∀ a0 a1 a2 a3 a4 a5 a6 a7 k, LeO (thwartref08_May.f k a0 a1 a2 a3 a4 a5 a6 a7) (thwartref08_May.f (k + 1) a0 a1 a2 a3 a4 a5 a6 a7) := by
 intro a0 a1 a2 a3 a4 a5 a6 a7 k
 obtain ⟨ih0, ih1⟩ := thwartref08_May.mono_l k
 unfold thwartref08_May.f
 repeat' first
   | (with_reducible exact ih0 _ _ _ _ _ _ _ _ _)
   | (with_reducible exact ih1 _ _ _ _ _ _ _ _ _)
   | (with_reducible exact thwartref04_Parts.mono _ _)
   | (with_reducible exact thwartref08_link.mono _ _ _ _ _ _ _ _ _)
   | (with_reducible exact LeO.refl _)
   | (with_reducible exact LeO.none _)
   | (with_reducible refine LeO.ite ?_ ?_)
   | (with_reducible refine LeO.bind ?_ (fun _ => ?_))
   | exact ih0 _ _ _ _ _ _ _ _ _
   | exact ih1 _ _ _ _ _ _ _ _ _
   | exact thwartref04_Parts.mono _ _
   | exact thwartref08_link.mono _ _ _ _ _ _ _ _ _
   | exact LeO.none _
   | refine LeO.ite ?_ ?_
   | refine LeO.bind ?_ (fun _ => ?_)
set_option maxHeartbeats 8000000 in
set_option maxRecDepth 100000 in
theorem thwartref08_May.calls (k : Nat) (a0_0 : ByteArray) (a0_1 : Int) (a0_2 : Int) (a0_3 : Int) (a0_4 : Int) (a0_5 : Int) (a0_6 : ByteArray) (A0_7 : Option Addr) (c0_7 : Nat) (l0_7 : List Int) (r : Int) (w : World) (hr0_7 : Kd.C (Kd.int .u8) w A0_7 l0_7.length l0_7) (hc0_7 : l0_7.length ≤ c0_7) (h : thwartref08_May.f k a0_0 a0_1 a0_2 a0_3 a0_4 a0_5 a0_6 l0_7 = some r) :
  Calls Tryz.prog 27 #[.agg #[.string a0_0, .int .i64 a0_1, .int .i64 a0_2, .int .i64 a0_3, .int .i64 a0_4, .int .i64 a0_5, .string a0_6, .slice A0_7 l0_7.length c0_7]] w fun e w' => e = .returned (.int .i64 r) ∧ Below w.heap.size w w' := by
 have hu45 := Tryz.underlying45
 have hu27 := Tryz.underlying27
 have HR0_7 := Aside0.mk hr0_7
 have HC0_7 := Aside0.mk hc0_7
 clear hr0_7 hc0_7
 have HB := Aside0.mk (Below.refl w.heap.size w)
 have H : ((thwartref04_Parts.f k a0_0).bind fun bt295 => (if bt295.2 = 0 then (if a0_1 < 1 then (thwartref08_May.j0 k true a0_0 a0_1 a0_2 a0_3 a0_4 a0_5 a0_6 l0_7) else (thwartref08_May.j0 k (decide (a0_1 > 4)) a0_0 a0_1 a0_2 a0_3 a0_4 a0_5 a0_6 l0_7)) else (some 8))) = some r := h
 clear h
 replace H := Option.bind_eq_some_iff.mp H
 obtain ⟨⟨t295, t296⟩, A20, H⟩ := H
 try dsimp only at H
 have A2 := Aside0.mk A20
 clear A20
 by_cases c3 : t296 = 0
 ·rw [if_pos c3] at H
  have c3b0 : (t296 == 0) = true := beq_iff_eq.mpr c3
  have c3b1 : (t296 != 0) = false := bne_eq_false_iff_eq.mpr c3
  clear c3
  have HC4 := Aside0.mk H
  clear H
  go_enter Tryz.func27, Tryz.ntmps27
  go_upto_region 4 with (first | ((with_reducible refine gate_dst (N := 1) rfl ?_); (try (refine gate_guard (by rfl) ?_; dsimp only)); refine boxA_ 1 45 #[.string a0_0, .int .i64 a0_1, .int .i64 a0_2, .int .i64 a0_3, .int .i64 a0_4, .int .i64 a0_5, .string a0_6, .slice A0_7 l0_7.length c0_7] ?_; intro gb294 hg w5 hbox hb; have n0_ := Aside0.mk (bstep_ hb); have n1_ := Aside0.mk (hbox); have n2_ := Aside0.mk ((by rw [hg]; exact bsize_ : w.heap.size ≤ gb294)); have n3_ := Aside0.mk ((by rw [hg]; exact bsize_ : w.heap.size ≤ gb294)); clear HB; have HB := n0_; have BK294 := n1_; have GW294 := n2_; have GE294 := n3_; clear n0_ n1_ n2_ n3_; clear hb hbox hg; obtain ⟨hcz6_0, hcz6_1, hcz6_2, hcz6_3, hcz6_4, hcz6_5, hcz6_6, hcz6_7, hfz6_0, hfz6_1, hfz6_2, hfz6_3, hfz6_4, hfz6_5, hfz6_6, hfz6_7⟩ := blk_all8 BK294.out) | ((with_reducible refine gate_callee (f := 46) rfl ?_); refine goesA_ (some 9) Tryz.func46 #[.string a0_0] ?_; (with_reducible refine (thwartref04_Parts.calls k a0_0 t295 t296 _ A2.out).mono ?_); rintro e w7 ⟨v297, rfl, ho0, hb⟩; refine ⟨_, rfl, ?_⟩; have n0_ := Aside0.mk (Kd.R_lower ho0 bsize_); have n1_ := Aside0.mk (blkB_ BK294.out hb); have n2_ := Aside0.mk (bstep_ hb); clear BK294; clear HB; have HO298 := n0_; have BK294 := n1_; have HB := n2_; clear n0_ n1_ n2_; (try clear hb); (try clear hb2); (try clear hk); (try clear hi); (try clear ho0)))
  (try simp only [Act.put, List.setIfInBounds_toArray, List.set_cons_zero, List.set_cons_succ])
  go_cut [21] (fun v21 wc => ∃ (kq : Nat) (x21_3 : Bool), v21 = .bool x21_3 ∧ Aside0 (thwartref08_May.j0 kq x21_3 a0_0 a0_1 a0_2 a0_3 a0_4 a0_5 a0_6 l0_7 = some r) ∧ Aside0 (kq ≤ k) ∧ Aside0 (wc.heap[gb294]? = some (.cells #[.string a0_0, .int .i64 a0_1, .int .i64 a0_2, .int .i64 a0_3, .int .i64 a0_4, .int .i64 a0_5, .string a0_6, (.slice A0_7 l0_7.length c0_7)] 45 (0, 0))) ∧ Aside0 (Below w.heap.size w wc))
  case first =>
   have H := HC4.out
   clear HC4
   by_cases c8 : a0_1 < 1
   ·rw [if_pos c8] at H
    have c8b0 : decide (a0_1 < 1) = true := decide_eq_true c8
    clear c8
    (first | rw [c8b0] | (simp only [i64_w, i32_w]; rw [c8b0]) | skip)
    have H' := Aside0.mk H
    clear H
    obtain ⟨hcz9_0, hcz9_1, hcz9_2, hcz9_3, hcz9_4, hcz9_5, hcz9_6, hcz9_7, hfz9_0, hfz9_1, hfz9_2, hfz9_3, hfz9_4, hfz9_5, hfz9_6, hfz9_7⟩ := blk_all8 BK294.out
    go_wp2
    go_meet
    case rel => exact ⟨_, (true), (by first | rfl | (simp; done) | (simp [*]; done)), H', ⟨by first | omega | exact Nat.le_refl _⟩, ⟨by (with_reducible repeat (first | refine blk_drewN ?_ _ | refine blk_drew ?_ | refine blk_alloc ?_ _)); exact BK294.out⟩, ⟨by repeat (first | (with_reducible first | exact HB.out | apply below_alloc | apply pw_below_drewN | apply below_drew1 | refine below_set ?_ GE294.out) | exact HB.out)⟩⟩
   ·rw [if_neg c8] at H
    have c8b0 : decide (a0_1 < 1) = false := decide_eq_false c8
    clear c8
    (first | rw [c8b0] | (simp only [i64_w, i32_w]; rw [c8b0]) | skip)
    have H' := Aside0.mk H
    clear H
    obtain ⟨hcz10_0, hcz10_1, hcz10_2, hcz10_3, hcz10_4, hcz10_5, hcz10_6, hcz10_7, hfz10_0, hfz10_1, hfz10_2, hfz10_3, hfz10_4, hfz10_5, hfz10_6, hfz10_7⟩ := blk_all8 BK294.out
    go_wp2
    go_meet
    case rel => exact ⟨_, (decide (a0_1 > 4)), (by first | rfl | (simp; done) | (simp [*]; done)), H', ⟨by first | omega | exact Nat.le_refl _⟩, ⟨by (with_reducible repeat (first | refine blk_drewN ?_ _ | refine blk_drew ?_ | refine blk_alloc ?_ _)); exact BK294.out⟩, ⟨by repeat (first | (with_reducible first | exact HB.out | apply below_alloc | apply pw_below_drewN | apply below_drew1 | refine below_set ?_ GE294.out) | exact HB.out)⟩⟩
  case rest =>
   clear HC4
   try clear c2
   try clear p2
   try clear c3
   try clear c3b0
   try clear c3b1
   try clear c4
   try clear c8
   try clear c8b0
   try clear hcz10_0
   try clear hcz10_1
   try clear hcz10_2
   try clear hcz10_3
   try clear hcz10_4
   try clear hcz10_5
   try clear hcz10_6
   try clear hcz10_7
   try clear hcz6_0
   try clear hcz6_1
   try clear hcz6_2
   try clear hcz6_3
   try clear hcz6_4
   try clear hcz6_5
   try clear hcz6_6
   try clear hcz6_7
   try clear hcz9_0
   try clear hcz9_1
   try clear hcz9_2
   try clear hcz9_3
   try clear hcz9_4
   try clear hcz9_5
   try clear hcz9_6
   try clear hcz9_7
   try clear hfz10_0
   try clear hfz10_1
   try clear hfz10_2
   try clear hfz10_3
   try clear hfz10_4
   try clear hfz10_5
   try clear hfz10_6
   try clear hfz10_7
   try clear hfz6_0
   try clear hfz6_1
   try clear hfz6_2
   try clear hfz6_3
   try clear hfz6_4
   try clear hfz6_5
   try clear hfz6_6
   try clear hfz6_7
   try clear hfz9_0
   try clear hfz9_1
   try clear hfz9_2
   try clear hfz9_3
   try clear hfz9_4
   try clear hfz9_5
   try clear hfz9_6
   try clear hfz9_7
   obtain ⟨kq, x21_3, rfl, HA, HJ3, BK294, HB⟩ := hcut
   cases kq with
   | zero => exact absurd HA.out (by simp [thwartref08_May.j0])
   | succ kj3 =>
    have H := HA.out
    clear HA
    simp only [thwartref08_May.j0] at H
    by_cases c11 : x21_3 = true
    ·subst c11
     have H1 := H; rw [if_pos rfl] at H1
     clear H
     have H := H1
     clear H1
     obtain rfl := Option.some.inj H
     go_wp2
     go_ret
     exact finA_
    ·replace c11 := Bool.eq_false_iff.mpr c11
     subst c11
     have H1 := H; rw [if_neg (show ¬ (false = true) by decide)] at H1
     clear H
     have H := H1
     clear H1
     replace H := Option.bind_eq_some_iff.mp H
     obtain ⟨t299, A120, H⟩ := H
     try dsimp only at H
     have A12 := Aside0.mk A120
     clear A120
     by_cases c13 : t299 = true
     ·subst c13
      have H1 := H; rw [if_pos rfl] at H1
      clear H
      have H := H1
      clear H1
      have HC14 := Aside0.mk H
      clear H
      obtain ⟨hcz15_0, hcz15_1, hcz15_2, hcz15_3, hcz15_4, hcz15_5, hcz15_6, hcz15_7, hfz15_0, hfz15_1, hfz15_2, hfz15_3, hfz15_4, hfz15_5, hfz15_6, hfz15_7⟩ := blk_all8 BK294.out
      go_upto_region 8 with (first | ((with_reducible refine gate_callee (f := 47) rfl ?_); refine goesA_ (some 24) Tryz.func47 #[.agg #[.int .i64 a0_2, .int .i64 a0_3, .int .i64 a0_4, .int .i64 a0_5]] ?_; (with_reducible refine (thwartref08_Numbers.calls a0_2 a0_3 a0_4 a0_5 true _ A12.out).mono ?_); rintro e w16 ⟨rfl, hb⟩; refine ⟨_, rfl, ?_⟩; have n0_ := Aside0.mk (blkB_ BK294.out hb); have n1_ := Aside0.mk (bstep_ hb); clear BK294; clear HB; have BK294 := n0_; have HB := n1_; clear n0_ n1_; (try clear hb); (try clear hb2); (try clear hk); (try clear hi)))
      (try simp only [Act.put, List.setIfInBounds_toArray, List.set_cons_zero, List.set_cons_succ])
      go_cut [34] (fun v34 wc => ∃ (kq : Nat) (x34_13 : Bool), v34 = .bool x34_13 ∧ Aside0 (thwartref08_May.j1 kq x34_13 a0_0 a0_1 a0_2 a0_3 a0_4 a0_5 a0_6 l0_7 = some r) ∧ Aside0 (kq ≤ kj3) ∧ Aside0 (wc.heap[gb294]? = some (.cells #[.string a0_0, .int .i64 a0_1, .int .i64 a0_2, .int .i64 a0_3, .int .i64 a0_4, .int .i64 a0_5, .string a0_6, (.slice A0_7 l0_7.length c0_7)] 45 (0, 0))) ∧ Aside0 (Below w.heap.size w wc))
      case first =>
       have H := HC14.out
       clear HC14
       by_cases c17 : a0_1 = 1
       ·rw [if_pos c17] at H
        have c17b0 : (a0_1 == 1) = true := beq_iff_eq.mpr c17
        have c17b1 : (a0_1 != 1) = false := bne_eq_false_iff_eq.mpr c17
        clear c17
        (first | rw [c17b0] | (simp only [i64_w, i32_w]; rw [c17b0]) | skip)
        have H' := Aside0.mk H
        clear H
        obtain ⟨hcz18_0, hcz18_1, hcz18_2, hcz18_3, hcz18_4, hcz18_5, hcz18_6, hcz18_7, hfz18_0, hfz18_1, hfz18_2, hfz18_3, hfz18_4, hfz18_5, hfz18_6, hfz18_7⟩ := blk_all8 BK294.out
        go_wp2
        go_meet
        case rel => exact ⟨_, (decide ((l0_7.length : Int) > 4096)), (by first | rfl | (simp; done) | (simp [*]; done)), H', ⟨by have := HJ3.out; first | omega | exact Nat.le_refl _⟩, ⟨by (with_reducible repeat (first | refine blk_drewN ?_ _ | refine blk_drew ?_ | refine blk_alloc ?_ _)); exact BK294.out⟩, ⟨by repeat (first | (with_reducible first | exact HB.out | apply below_alloc | apply pw_below_drewN | apply below_drew1 | refine below_set ?_ GE294.out) | exact HB.out)⟩⟩
       ·rw [if_neg c17] at H
        have c17b0 : (a0_1 == 1) = false := beq_eq_false_iff_ne.mpr c17
        have c17b1 : (a0_1 != 1) = true := bne_iff_ne.mpr c17
        (first | rw [c17b0] | (simp only [i64_w, i32_w]; rw [c17b0]) | skip)
        have H' := Aside0.mk H
        clear H
        obtain ⟨hcz19_0, hcz19_1, hcz19_2, hcz19_3, hcz19_4, hcz19_5, hcz19_6, hcz19_7, hfz19_0, hfz19_1, hfz19_2, hfz19_3, hfz19_4, hfz19_5, hfz19_6, hfz19_7⟩ := blk_all8 BK294.out
        go_wp2
        go_meet
        case rel => exact ⟨_, (false), (by first | rfl | (simp; done) | (simp [*]; done)), H', ⟨by have := HJ3.out; first | omega | exact Nat.le_refl _⟩, ⟨by (with_reducible repeat (first | refine blk_drewN ?_ _ | refine blk_drew ?_ | refine blk_alloc ?_ _)); exact BK294.out⟩, ⟨by repeat (first | (with_reducible first | exact HB.out | apply below_alloc | apply pw_below_drewN | apply below_drew1 | refine below_set ?_ GE294.out) | exact HB.out)⟩⟩
      case rest =>
       clear HC14
       try clear c1
       try clear c2
       try clear p2
       try clear c3
       try clear c3b0
       try clear c3b1
       try clear c4
       try clear c8
       try clear c8b0
       try clear c11
       try clear c13
       try clear c17
       try clear c17b0
       try clear c17b1
       try clear hcz10_0
       try clear hcz10_1
       try clear hcz10_2
       try clear hcz10_3
       try clear hcz10_4
       try clear hcz10_5
       try clear hcz10_6
       try clear hcz10_7
       try clear hcz15_0
       try clear hcz15_1
       try clear hcz15_2
       try clear hcz15_3
       try clear hcz15_4
       try clear hcz15_5
       try clear hcz15_6
       try clear hcz15_7
       try clear hcz18_0
       try clear hcz18_1
       try clear hcz18_2
       try clear hcz18_3
       try clear hcz18_4
       try clear hcz18_5
       try clear hcz18_6
       try clear hcz18_7
       try clear hcz19_0
       try clear hcz19_1
       try clear hcz19_2
       try clear hcz19_3
       try clear hcz19_4
       try clear hcz19_5
       try clear hcz19_6
       try clear hcz19_7
       try clear hcz6_0
       try clear hcz6_1
       try clear hcz6_2
       try clear hcz6_3
       try clear hcz6_4
       try clear hcz6_5
       try clear hcz6_6
       try clear hcz6_7
       try clear hcz9_0
       try clear hcz9_1
       try clear hcz9_2
       try clear hcz9_3
       try clear hcz9_4
       try clear hcz9_5
       try clear hcz9_6
       try clear hcz9_7
       try clear hfz10_0
       try clear hfz10_1
       try clear hfz10_2
       try clear hfz10_3
       try clear hfz10_4
       try clear hfz10_5
       try clear hfz10_6
       try clear hfz10_7
       try clear hfz15_0
       try clear hfz15_1
       try clear hfz15_2
       try clear hfz15_3
       try clear hfz15_4
       try clear hfz15_5
       try clear hfz15_6
       try clear hfz15_7
       try clear hfz18_0
       try clear hfz18_1
       try clear hfz18_2
       try clear hfz18_3
       try clear hfz18_4
       try clear hfz18_5
       try clear hfz18_6
       try clear hfz18_7
       try clear hfz19_0
       try clear hfz19_1
       try clear hfz19_2
       try clear hfz19_3
       try clear hfz19_4
       try clear hfz19_5
       try clear hfz19_6
       try clear hfz19_7
       try clear hfz6_0
       try clear hfz6_1
       try clear hfz6_2
       try clear hfz6_3
       try clear hfz6_4
       try clear hfz6_5
       try clear hfz6_6
       try clear hfz6_7
       try clear hfz9_0
       try clear hfz9_1
       try clear hfz9_2
       try clear hfz9_3
       try clear hfz9_4
       try clear hfz9_5
       try clear hfz9_6
       try clear hfz9_7
       try clear p2
       obtain ⟨kq, x34_13, rfl, HA, HJ13, BK294, HB⟩ := hcut
       cases kq with
       | zero => exact absurd HA.out (by simp [thwartref08_May.j1])
       | succ kj13 =>
        have H := HA.out
        clear HA
        simp only [thwartref08_May.j1] at H
        by_cases c20 : x34_13 = true
        ·subst c20
         have H1 := H; rw [if_pos rfl] at H1
         clear H
         have H := H1
         clear H1
         obtain rfl := Option.some.inj H
         go_wp2
         go_ret
         exact finA_
        ·replace c20 := Bool.eq_false_iff.mpr c20
         subst c20
         have H1 := H; rw [if_neg (show ¬ (false = true) by decide)] at H1
         clear H
         have H := H1
         clear H1
         replace H := Option.bind_eq_some_iff.mp H
         obtain ⟨t300, A210, H⟩ := H
         try dsimp only at H
         have A21 := Aside0.mk A210
         clear A210
         by_cases c22 : t300 = 0
         ·rw [if_pos c22] at H
          have c22b0 : (t300 == 0) = true := beq_iff_eq.mpr c22
          have c22b1 : (t300 != 0) = false := bne_eq_false_iff_eq.mpr c22
          clear c22
          by_cases c23 : a0_1 = 1
          ·rw [if_pos c23] at H
           have c23b0 : (a0_1 == 1) = true := beq_iff_eq.mpr c23
           have c23b1 : (a0_1 != 1) = false := bne_eq_false_iff_eq.mpr c23
           clear c23
           obtain rfl := Option.some.inj H
           obtain ⟨hcz24_0, hcz24_1, hcz24_2, hcz24_3, hcz24_4, hcz24_5, hcz24_6, hcz24_7, hfz24_0, hfz24_1, hfz24_2, hfz24_3, hfz24_4, hfz24_5, hfz24_6, hfz24_7⟩ := blk_all8 BK294.out
           go_wp2_with (first | ((with_reducible refine gate_callee (f := 48) rfl ?_); refine goesA_ (some 36) Tryz.func48 #[.agg #[.string a0_0, .int .i64 a0_1, .int .i64 a0_2, .int .i64 a0_3, .int .i64 a0_4, .int .i64 a0_5, .string a0_6, .slice A0_7 l0_7.length c0_7]] ?_; (with_reducible refine (thwartref08_link.calls kj13 a0_0 a0_1 a0_2 a0_3 a0_4 a0_5 a0_6 _ _ l0_7 t300 _ ?side1 ?side2 A21.out).mono ?_); (case side1 => repeat (first | exact (Kd.C_below HR0_7.out HB.out) | (with_reducible refine Kd.C_alloc ?_ _) | (with_reducible refine Kd.C_drewN ?_ _) | (with_reducible refine Kd.C_drew ?_))); (case side2 => exact HC0_7.out); rintro e w25 ⟨rfl, hb⟩; refine ⟨_, rfl, ?_⟩; have n0_ := Aside0.mk (blkB_ BK294.out hb); have n1_ := Aside0.mk (bstep_ hb); clear BK294; clear HB; have BK294 := n0_; have HB := n1_; clear n0_ n1_; (try clear hb); (try clear hb2); (try clear hk); (try clear hi); obtain ⟨hcz26_0, hcz26_1, hcz26_2, hcz26_3, hcz26_4, hcz26_5, hcz26_6, hcz26_7, hfz26_0, hfz26_1, hfz26_2, hfz26_3, hfz26_4, hfz26_5, hfz26_6, hfz26_7⟩ := blk_all8 BK294.out))
           go_ret
           exact finA_
          ·rw [if_neg c23] at H
           have c23b0 : (a0_1 == 1) = false := beq_eq_false_iff_ne.mpr c23
           have c23b1 : (a0_1 != 1) = true := bne_iff_ne.mpr c23
           by_cases c27 : (l0_7.length : Int) > 0
           ·rw [if_pos c27] at H
            have c27b0 : decide (0 < (l0_7.length : Int)) = true := decide_eq_true c27
            have c27b1 : decide (0 < l0_7.length) = true := decide_eq_true (by omega)
            clear c27
            obtain rfl := Option.some.inj H
            obtain ⟨hcz28_0, hcz28_1, hcz28_2, hcz28_3, hcz28_4, hcz28_5, hcz28_6, hcz28_7, hfz28_0, hfz28_1, hfz28_2, hfz28_3, hfz28_4, hfz28_5, hfz28_6, hfz28_7⟩ := blk_all8 BK294.out
            go_wp2_with (first | ((with_reducible refine gate_callee (f := 48) rfl ?_); refine goesA_ (some 36) Tryz.func48 #[.agg #[.string a0_0, .int .i64 a0_1, .int .i64 a0_2, .int .i64 a0_3, .int .i64 a0_4, .int .i64 a0_5, .string a0_6, .slice A0_7 l0_7.length c0_7]] ?_; (with_reducible refine (thwartref08_link.calls kj13 a0_0 a0_1 a0_2 a0_3 a0_4 a0_5 a0_6 _ _ l0_7 t300 _ ?side1 ?side2 A21.out).mono ?_); (case side1 => repeat (first | exact (Kd.C_below HR0_7.out HB.out) | (with_reducible refine Kd.C_alloc ?_ _) | (with_reducible refine Kd.C_drewN ?_ _) | (with_reducible refine Kd.C_drew ?_))); (case side2 => exact HC0_7.out); rintro e w29 ⟨rfl, hb⟩; refine ⟨_, rfl, ?_⟩; have n0_ := Aside0.mk (blkB_ BK294.out hb); have n1_ := Aside0.mk (bstep_ hb); clear BK294; clear HB; have BK294 := n0_; have HB := n1_; clear n0_ n1_; (try clear hb); (try clear hb2); (try clear hk); (try clear hi); obtain ⟨hcz30_0, hcz30_1, hcz30_2, hcz30_3, hcz30_4, hcz30_5, hcz30_6, hcz30_7, hfz30_0, hfz30_1, hfz30_2, hfz30_3, hfz30_4, hfz30_5, hfz30_6, hfz30_7⟩ := blk_all8 BK294.out))
            go_ret
            exact finA_
           ·rw [if_neg c27] at H
            have c27b0 : decide (0 < (l0_7.length : Int)) = false := decide_eq_false c27
            have c27b1 : decide (0 < l0_7.length) = false := decide_eq_false (by omega)
            clear c27
            obtain rfl := Option.some.inj H
            obtain ⟨hcz31_0, hcz31_1, hcz31_2, hcz31_3, hcz31_4, hcz31_5, hcz31_6, hcz31_7, hfz31_0, hfz31_1, hfz31_2, hfz31_3, hfz31_4, hfz31_5, hfz31_6, hfz31_7⟩ := blk_all8 BK294.out
            go_wp2_with (first | ((with_reducible refine gate_callee (f := 48) rfl ?_); refine goesA_ (some 36) Tryz.func48 #[.agg #[.string a0_0, .int .i64 a0_1, .int .i64 a0_2, .int .i64 a0_3, .int .i64 a0_4, .int .i64 a0_5, .string a0_6, .slice A0_7 l0_7.length c0_7]] ?_; (with_reducible refine (thwartref08_link.calls kj13 a0_0 a0_1 a0_2 a0_3 a0_4 a0_5 a0_6 _ _ l0_7 t300 _ ?side1 ?side2 A21.out).mono ?_); (case side1 => repeat (first | exact (Kd.C_below HR0_7.out HB.out) | (with_reducible refine Kd.C_alloc ?_ _) | (with_reducible refine Kd.C_drewN ?_ _) | (with_reducible refine Kd.C_drew ?_))); (case side2 => exact HC0_7.out); rintro e w32 ⟨rfl, hb⟩; refine ⟨_, rfl, ?_⟩; have n0_ := Aside0.mk (blkB_ BK294.out hb); have n1_ := Aside0.mk (bstep_ hb); clear BK294; clear HB; have BK294 := n0_; have HB := n1_; clear n0_ n1_; (try clear hb); (try clear hb2); (try clear hk); (try clear hi); obtain ⟨hcz33_0, hcz33_1, hcz33_2, hcz33_3, hcz33_4, hcz33_5, hcz33_6, hcz33_7, hfz33_0, hfz33_1, hfz33_2, hfz33_3, hfz33_4, hfz33_5, hfz33_6, hfz33_7⟩ := blk_all8 BK294.out))
            go_ret
            exact finA_
         ·rw [if_neg c22] at H
          have c22b0 : (t300 == 0) = false := beq_eq_false_iff_ne.mpr c22
          have c22b1 : (t300 != 0) = true := bne_iff_ne.mpr c22
          obtain rfl := Option.some.inj H
          obtain ⟨hcz34_0, hcz34_1, hcz34_2, hcz34_3, hcz34_4, hcz34_5, hcz34_6, hcz34_7, hfz34_0, hfz34_1, hfz34_2, hfz34_3, hfz34_4, hfz34_5, hfz34_6, hfz34_7⟩ := blk_all8 BK294.out
          go_wp2_with (first | ((with_reducible refine gate_callee (f := 48) rfl ?_); refine goesA_ (some 36) Tryz.func48 #[.agg #[.string a0_0, .int .i64 a0_1, .int .i64 a0_2, .int .i64 a0_3, .int .i64 a0_4, .int .i64 a0_5, .string a0_6, .slice A0_7 l0_7.length c0_7]] ?_; (with_reducible refine (thwartref08_link.calls kj13 a0_0 a0_1 a0_2 a0_3 a0_4 a0_5 a0_6 _ _ l0_7 t300 _ ?side1 ?side2 A21.out).mono ?_); (case side1 => repeat (first | exact (Kd.C_below HR0_7.out HB.out) | (with_reducible refine Kd.C_alloc ?_ _) | (with_reducible refine Kd.C_drewN ?_ _) | (with_reducible refine Kd.C_drew ?_))); (case side2 => exact HC0_7.out); rintro e w35 ⟨rfl, hb⟩; refine ⟨_, rfl, ?_⟩; have n0_ := Aside0.mk (blkB_ BK294.out hb); have n1_ := Aside0.mk (bstep_ hb); clear BK294; clear HB; have BK294 := n0_; have HB := n1_; clear n0_ n1_; (try clear hb); (try clear hb2); (try clear hk); (try clear hi)))
          go_ret
          exact finA_
     ·replace c13 := Bool.eq_false_iff.mpr c13
      subst c13
      have H1 := H; rw [if_neg (show ¬ (false = true) by decide)] at H1
      clear H
      have H := H1
      clear H1
      obtain rfl := Option.some.inj H
      obtain ⟨hcz36_0, hcz36_1, hcz36_2, hcz36_3, hcz36_4, hcz36_5, hcz36_6, hcz36_7, hfz36_0, hfz36_1, hfz36_2, hfz36_3, hfz36_4, hfz36_5, hfz36_6, hfz36_7⟩ := blk_all8 BK294.out
      go_wp2_with (first | ((with_reducible refine gate_callee (f := 47) rfl ?_); refine goesA_ (some 24) Tryz.func47 #[.agg #[.int .i64 a0_2, .int .i64 a0_3, .int .i64 a0_4, .int .i64 a0_5]] ?_; (with_reducible refine (thwartref08_Numbers.calls a0_2 a0_3 a0_4 a0_5 false _ A12.out).mono ?_); rintro e w37 ⟨rfl, hb⟩; refine ⟨_, rfl, ?_⟩; have n0_ := Aside0.mk (blkB_ BK294.out hb); have n1_ := Aside0.mk (bstep_ hb); clear BK294; clear HB; have BK294 := n0_; have HB := n1_; clear n0_ n1_; (try clear hb); (try clear hb2); (try clear hk); (try clear hi)))
      go_ret
      exact finA_
 ·rw [if_neg c3] at H
  have c3b0 : (t296 == 0) = false := beq_eq_false_iff_ne.mpr c3
  have c3b1 : (t296 != 0) = true := bne_iff_ne.mpr c3
  obtain rfl := Option.some.inj H
  go_enter Tryz.func27, Tryz.ntmps27
  go_wp2_with (first | ((with_reducible refine gate_dst (N := 1) rfl ?_); (try (refine gate_guard (by rfl) ?_; dsimp only)); refine boxA_ 1 45 #[.string a0_0, .int .i64 a0_1, .int .i64 a0_2, .int .i64 a0_3, .int .i64 a0_4, .int .i64 a0_5, .string a0_6, .slice A0_7 l0_7.length c0_7] ?_; intro gb294 hg w38 hbox hb; have n0_ := Aside0.mk (bstep_ hb); have n1_ := Aside0.mk (hbox); have n2_ := Aside0.mk ((by rw [hg]; exact bsize_ : w.heap.size ≤ gb294)); have n3_ := Aside0.mk ((by rw [hg]; exact bsize_ : w.heap.size ≤ gb294)); clear HB; have HB := n0_; have BK294 := n1_; have GW294 := n2_; have GE294 := n3_; clear n0_ n1_ n2_ n3_; clear hb hbox hg; obtain ⟨hcz39_0, hcz39_1, hcz39_2, hcz39_3, hcz39_4, hcz39_5, hcz39_6, hcz39_7, hfz39_0, hfz39_1, hfz39_2, hfz39_3, hfz39_4, hfz39_5, hfz39_6, hfz39_7⟩ := blk_all8 BK294.out) | ((with_reducible refine gate_callee (f := 46) rfl ?_); refine goesA_ (some 9) Tryz.func46 #[.string a0_0] ?_; (with_reducible refine (thwartref04_Parts.calls k a0_0 t295 t296 _ A2.out).mono ?_); rintro e w40 ⟨v297, rfl, ho0, hb⟩; refine ⟨_, rfl, ?_⟩; have n0_ := Aside0.mk (Kd.R_lower ho0 bsize_); have n1_ := Aside0.mk (blkB_ BK294.out hb); have n2_ := Aside0.mk (bstep_ hb); clear BK294; clear HB; have HO298 := n0_; have BK294 := n1_; have HB := n2_; clear n0_ n1_ n2_; (try clear hb); (try clear hb2); (try clear hk); (try clear hi); (try clear ho0)))
  go_ret
  exact finA_


/-! ### thwartref08_Type: function 8 -/
def thwartref08_Type.f (a0 : Int) : Option (Int) := if a0 < 1 then (some 0) else (if a0 > 4 then (some 0) else ((some (([48, 49, 50, 53] : List Int) : List Int)).bind fun y102 => (if 0 ≤ (wrap64 (a0 - 1)) then (if (wrap64 (a0 - 1)) < (y102.length : Int) then (some (rd y102 (wrap64 (a0 - 1)))) else (none)) else (none))))
set_option maxHeartbeats 8000000 in
set_option maxRecDepth 100000 in
theorem thwartref08_Type.calls (a0 : Int) (r : Int) (w : World) (h : thwartref08_Type.f a0 = some r) :
  Calls Tryz.prog 8 #[.int .i64 a0] w fun e w' => e = .returned (.int .u8 r) ∧ Below w.heap.size w w' := by
 have HB := Aside0.mk (Below.refl w.heap.size w)
 have H : (if a0 < 1 then (some 0) else (if a0 > 4 then (some 0) else ((some (([48, 49, 50, 53] : List Int) : List Int)).bind fun y102 => (if 0 ≤ (wrap64 (a0 - 1)) then (if (wrap64 (a0 - 1)) < (y102.length : Int) then (some (rd y102 (wrap64 (a0 - 1)))) else (none)) else (none))))) = some r := h
 clear h
 by_cases c2 : a0 < 1
 ·rw [if_pos c2] at H
  have c2b0 : decide (a0 < 1) = true := decide_eq_true c2
  clear c2
  obtain rfl := Option.some.inj H
  go_enter Tryz.func8, Tryz.ntmps8
  go_wp2
  go_ret
  exact finA_
 ·rw [if_neg c2] at H
  have c2b0 : decide (a0 < 1) = false := decide_eq_false c2
  clear c2
  by_cases c3 : a0 > 4
  ·rw [if_pos c3] at H
   have c3b0 : decide (4 < a0) = true := decide_eq_true c3
   clear c3
   obtain rfl := Option.some.inj H
   go_enter Tryz.func8, Tryz.ntmps8
   go_wp2
   go_ret
   exact finA_
  ·rw [if_neg c3] at H
   have c3b0 : decide (4 < a0) = false := decide_eq_false c3
   clear c3
   obtain ⟨y102, hy102⟩ : ∃ y_ : List Int, y_ = (([48, 49, 50, 53] : List Int)) := ⟨_, rfl⟩
   replace H : (if 0 ≤ (wrap64 (a0 - 1)) then (if (wrap64 (a0 - 1)) < (y102.length : Int) then (some (rd y102 (wrap64 (a0 - 1)))) else (none)) else (none)) = some r := by first | (rw [hy102]; with_reducible exact H) | (have H2_ := (Option.bind_some _ _).symm.trans H; rw [hy102]; with_reducible exact H2_) | (have H2_ := (Option.bind_some _ _).symm.trans H; with_reducible exact H2_) | with_reducible exact H | (rw [hy102]; exact H) | exact H
   have Ny102 := Aside0.mk hy102
   clear hy102
   obtain ⟨ji4, hji4⟩ : ∃ j_ : Int, (wrap64 (a0 - 1)) = j_ := ⟨_, rfl⟩
   replace H : (if 0 ≤ (ji4) then (if (ji4) < (y102.length : Int) then (some (rd y102 (ji4))) else (none)) else (none)) = some r := by first | (rw [hji4] at H; exact H) | (simp only [hji4] at H ⊢; exact H)
   have hji4w : (IntKind.i64.wrap (a0 - 1)) = ji4 := (i64_w _).trans hji4
   by_cases c5 : 0 ≤ (ji4)
   ·rw [if_pos c5] at H
    have c5b0 : decide (0 ≤ (ji4)) = true := decide_eq_true c5
    clear c5
    by_cases c6 : (ji4) < (y102.length : Int)
    ·rw [if_pos c6] at H
     have c6b0 : decide ((ji4) < (y102.length : Int)) = true := decide_eq_true c6
     clear c6
     obtain rfl := Option.some.inj H
     go_enter Tryz.func8, Tryz.ntmps8
     go_wp2_with (first | ((with_reducible refine gate_dst (N := 9) rfl ?_); refine Kd.R_lit (Kd.int .u8) _ 5 ?hg (N := 9) ?hd (xs := ([48, 49, 50, 53] : List Int)) (inner := [.int .u8 48, .int .u8 49, .int .u8 50, .int .u8 53]) (ok := fun _ => True) (okp := fun _ => True) ?hr ?hp (fun _ hk => hk) trivial (Below.refl _ _) (Nat.le_refl _) (by simp) ?_; (case hd => rfl); (case hg => rfl); (case hr => first | (go_simp; done) | (go_simp; rfl)); (case hp => exact (Reps.one (show Kd.M (Kd.int .u8) _ _ _ 48 [.int .u8 48] from rfl) (Reps.one (show Kd.M (Kd.int .u8) _ _ _ 49 [.int .u8 49] from rfl) (Reps.one (show Kd.M (Kd.int .u8) _ _ _ 50 [.int .u8 50] from rfl) (Reps.one (show Kd.M (Kd.int .u8) _ _ _ 53 [.int .u8 53] from rfl) (Reps.none _ _)))))); intro v103 w7 ho8 hb hg_ hnew_; clear hg_ hnew_; (first | rw [← Ny102.out] at ho8 | (simp only [Int.reduceToNat] at ho8; rw [← Ny102.out] at ho8)); have n0_ := Aside0.mk (Kd.R_lower ho8 bsize_); have n1_ := Aside0.mk (bstep_ hb); clear HB; have HO104 := n0_; have HB := n1_; clear n0_ n1_; clear hb ho8; obtain ⟨Ao9, co9, eo9⟩ := Kd.R_slice HO104.out; subst eo9; have p105 : 0 ≤ ((ji4) : Int) := of_decide_eq_true (by first | (with_reducible assumption) | assumption); have q105 : (ji4) < (y102.length : Int) := of_decide_eq_true (by first | (with_reducible assumption) | assumption); obtain ⟨ad105, e105, hx105_0⟩ := Kd.at_int (Kd.R_reads' HO104.out).2.2 (ji4) p105 q105; cases e105; replace p105 := eq_true p105; replace q105 := eq_true q105))
     go_ret
     exact ⟨by first | rfl | (simp [errW_none, errW_some] <;> rfl) | (simp only [← hji4]; first | rfl | (simp [errW_none, errW_some] <;> rfl)) | (simp [*, errW_none, errW_some] <;> rfl), by repeat (first | (with_reducible first | exact HB.out | apply below_alloc | apply pw_below_drewN | apply below_drew1) | exact HB.out)⟩
    ·rw [if_neg c6] at H
     exact absurd H (by simp)
   ·rw [if_neg c5] at H
    exact absurd H (by simp)


/-! ### thwartref08_Kind: function 9 -/
def thwartref08_Kind.l0 : Nat → Int → Int → Option (Int)
 | 0, _, _ => none
 | k + 1, x0, x3 => if x3 ≤ 4 then ((thwartref08_Type.f x3).bind fun t106 => (if t106 = x0 then (some x3) else (thwartref08_Kind.l0 k x0 (wrap64 (x3 + 1))))) else (some 0)
def thwartref08_Kind.f (k : Nat) (a0 : Int) : Option (Int) := thwartref08_Kind.l0 k a0 1
theorem thwartref08_Kind.mono_l : ∀ k, (∀ y0 y1, LeO (thwartref08_Kind.l0 k y0 y1) (thwartref08_Kind.l0 (k + 1) y0 y1))
 | 0 => fun _ _ r h => by simp [thwartref08_Kind.l0] at h
 | k + 1 => by
  have ih0 := thwartref08_Kind.mono_l k
  ·intro y0 y1
   unfold thwartref08_Kind.l0
   repeat' first
   | (with_reducible exact ih0 _ _)
   | (with_reducible exact LeO.refl _)
   | (with_reducible exact LeO.none _)
   | (with_reducible refine LeO.ite ?_ ?_)
   | (with_reducible refine LeO.bind ?_ (fun _ => ?_))
   | exact ih0 _ _
   | exact LeO.none _
   | refine LeO.ite ?_ ?_
   | refine LeO.bind ?_ (fun _ => ?_)
theorem thwartref08_Kind.mono : ∀ a0 k, LeO (thwartref08_Kind.f k a0) (thwartref08_Kind.f (k + 1) a0) := by
 intro a0 k
 have ih0 := thwartref08_Kind.mono_l k
 unfold thwartref08_Kind.f
 repeat' first
   | (with_reducible exact ih0 _ _)
   | (with_reducible exact LeO.refl _)
   | (with_reducible exact LeO.none _)
   | (with_reducible refine LeO.ite ?_ ?_)
   | (with_reducible refine LeO.bind ?_ (fun _ => ?_))
   | exact ih0 _ _
   | exact LeO.none _
   | refine LeO.ite ?_ ?_
   | refine LeO.bind ?_ (fun _ => ?_)
set_option maxHeartbeats 8000000 in
set_option maxRecDepth 100000 in
theorem thwartref08_Kind.calls (k : Nat) (a0 : Int) (r : Int) (w : World) (h : thwartref08_Kind.f k a0 = some r) :
  Calls Tryz.prog 9 #[.int .u8 a0] w fun e w' => e = .returned (.int .i64 r) ∧ Below w.heap.size w w' := by
 have HB := Aside0.mk (Below.refl w.heap.size w)
 have H : (thwartref08_Kind.l0 k a0 1) = some r := h
 clear h
 have H' := Aside0.mk H
 clear H
 go_enter Tryz.func9, Tryz.ntmps9
 go_wp2
 go_loopg [3] k (fun kq v3 w' => ∃ (x3_1 : Int), v3 = .int .i64 x3_1 ∧ Aside0 (thwartref08_Kind.l0 kq a0 x3_1 = some r) ∧ Aside0 (kq ≤ k) ∧ Aside0 (Below w.heap.size w w'))
 case atStart => exact ⟨(1), (by first | rfl | (simp; done) | (simp [*]; done)), H', ⟨Nat.le_refl _⟩, ⟨by repeat (first | (with_reducible first | exact HB.out | apply below_alloc | apply pw_below_drewN | apply below_drew1) | exact HB.out)⟩⟩
 case round =>
  clear H'
  obtain ⟨x3_1, rfl, HA, HK1, HB⟩ := hrel
  cases gk with
  | zero => exact absurd HA.out (by simp [thwartref08_Kind.l0])
  | succ k1 =>
   have H := HA.out
   clear HA
   simp only [thwartref08_Kind.l0] at H
   by_cases c2 : x3_1 ≤ 4
   ·rw [if_pos c2] at H
    have c2b0 : decide (x3_1 ≤ 4) = true := decide_eq_true c2
    clear c2
    replace H := Option.bind_eq_some_iff.mp H
    obtain ⟨t106, A30, H⟩ := H
    try dsimp only at H
    have A3 := Aside0.mk A30
    clear A30
    by_cases c4 : t106 = a0
    ·rw [if_pos c4] at H
     have c4b0 : (t106 == a0) = true := beq_iff_eq.mpr c4
     have c4b1 : (t106 != a0) = false := bne_eq_false_iff_eq.mpr c4
     clear c4
     obtain rfl := Option.some.inj H
     go_wp2_with (first | ((with_reducible refine gate_callee (f := 8) rfl ?_); refine goesA_ (some 9) Tryz.func8 #[.int .i64 x3_1] ?_; (with_reducible refine (thwartref08_Type.calls x3_1 t106 _ A3.out).mono ?_); rintro e w5 ⟨rfl, hb⟩; refine ⟨_, rfl, ?_⟩; have n0_ := Aside0.mk (bstep_ hb); clear HB; have HB := n0_; clear n0_; (try clear hb); (try clear hb2); (try clear hk); (try clear hi)))
     go_ret
     exact finA_
    ·rw [if_neg c4] at H
     have c4b0 : (t106 == a0) = false := beq_eq_false_iff_ne.mpr c4
     have c4b1 : (t106 != a0) = true := bne_iff_ne.mpr c4
     have H' := Aside0.mk H
     clear H
     go_wp2_with (first | ((with_reducible refine gate_callee (f := 8) rfl ?_); refine goesA_ (some 9) Tryz.func8 #[.int .i64 x3_1] ?_; (with_reducible refine (thwartref08_Type.calls x3_1 t106 _ A3.out).mono ?_); rintro e w6 ⟨rfl, hb⟩; refine ⟨_, rfl, ?_⟩; have n0_ := Aside0.mk (bstep_ hb); clear HB; have HB := n0_; clear n0_; (try clear hb); (try clear hb2); (try clear hk); (try clear hi)))
     go_roundg k1
     case measure => have := HK1.out; omega
     case rel => exact ⟨(wrap64 (x3_1 + 1)), (by first | rfl | (simp; done) | (simp [*]; done)), H', ⟨by have := HK1.out; omega⟩, ⟨by repeat (first | (with_reducible first | exact HB.out | apply below_alloc | apply pw_below_drewN | apply below_drew1) | exact HB.out)⟩⟩
   ·rw [if_neg c2] at H
    have c2b0 : decide (x3_1 ≤ 4) = false := decide_eq_false c2
    clear c2
    obtain rfl := Option.some.inj H
    go_wp2
    go_ret
    exact finA_

end Go.Proofs.YtjidenkhgeoaiaaGreatDoor.P
