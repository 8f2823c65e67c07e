/- Contract, by hand, of hsum.Put, in the printer's form. -/
import Derived.Test.YtpjanlpjjemenaaDoorHBytes
import Derived.Shelf.Bytes.SlClone
import Derived.Test.YtpjanlpjjemenaaDoorF26
import Derived.Test.YtpjanlpjjemenaaDoorF66
import Derived.WalkMore
import Derived.Laws.CopyOwn
import Derived.Deep.RegionHeld3
namespace Go.Proofs.YtpjanlpjjemenaaDoor.Hand
open Go.RowKit Go.Proofs.YtpjanlpjjemenaaDoor.P Go.Proofs.YtpjanlpjjemenaaDoorW.PrintWords Go.Proofs.YtpjanlpjjemenaaDoorW.PrintLast Go.Proofs.YtpjanlpjjemenaaDoorW.PrintMore
set_option linter.unusedVariables false
set_option linter.unusedSimpArgs false

theorem info_u8' : (Tryd.prog.info? 5).map (fun i => (i.zero, i.size, i.bytes)) = some (some (.int .u8 0), (Kd.int .u8).sz, 1) := by kernel_rfl
theorem lit2 (W : World) : Kd.C (Kd.int .u8) (W.alloc (.cells #[.int .u8 0, .int .u8 32] 5)) (some ⟨W.heap.size, 0, none⟩) 2 [0, 32] := by
  refine Kd.C_of_reads (enc := Value.int .u8) (d := 0) (h1 := fun _ => rfl) ⟨rfl, by omega, fun _ => ⟨_, rfl, fun j hj => ?_⟩⟩
  rw [add_flat, cell_fresh]
  match j, hj with
  | 0, _ => rfl
  | 1, _ => rfl

theorem heap_two (w : World) (o : Obj) (g : Nat) (h : g < w.heap.size) : (w.alloc o).drew.heap[g]? = w.heap[g]? := by
  show (w.heap.push o)[g]? = w.heap[g]?
  rw [Array.getElem?_push_lt h, Array.getElem?_eq_getElem h]
theorem lit2' (W : World) : Kd.C (Kd.int .u8) (W.alloc (.cells #[.int .u8 0, .int .u8 32] 5)).drew (some ⟨W.heap.size, 0, none⟩) 2 [0, 32] := Kd.C_drew (lit2 W)
theorem splice_take (L : List Value) (l0 d : List Int) (hl : l0.length = 512) (h8 : d.length = 8) (hL : L.take 512 = l0.map (Value.int .u8)) : (splice L 148 (d.map (Value.int .u8))).take 512 = (l0.take 148 ++ d ++ l0.drop 156).map (Value.int .u8) := by
  obtain ⟨T, rfl⟩ : ∃ T, L = l0.map (Value.int .u8) ++ T := ⟨L.drop 512, by rw [← hL, List.take_append_drop]⟩
  have hx : (l0.map (Value.int .u8)).length = 512 := by rw [List.length_map, hl]
  have hc : (d.map (Value.int .u8)).length = 8 := by rw [List.length_map, h8]
  unfold splice
  rw [hc, List.take_append_of_le_length (i := 148) (by omega), List.drop_append_of_le_length (by omega), List.map_append, List.map_append, List.map_take, List.map_drop]
  rw [show List.take 148 (l0.map (Value.int .u8)) ++ (d.map (Value.int .u8) ++ (List.drop (148 + 8) (l0.map (Value.int .u8)) ++ T)) = (List.take 148 (l0.map (Value.int .u8)) ++ d.map (Value.int .u8) ++ List.drop 156 (l0.map (Value.int .u8))) ++ T by simp only [List.append_assoc]]
  exact List.take_left' (by simp only [List.length_append, List.length_take, List.length_drop, hx, hc]; rfl)
theorem map_at (l : List Int) (j : Nat) (v : Value) (h : (l.map (Value.int .u8))[j]? = some v) : Value.int .u8 (l.getD j 0) = v := by
  rw [List.getElem?_map] at h
  cases hx : l[j]? with
  | none => rw [hx] at h; cases h
  | some x => rw [hx] at h; rw [List.getD_eq_getElem?_getD, hx]; simpa using h

def hsum_Put.f (l : List Int) : Option (List Int × Int) :=
  (hsum_Sum.f 1000 l).bind fun p => if p.2 = 0 then (numf_Octal.f 100 p.1 6).bind fun q => if q.2 = 0 then (if q.1.length = 6 ∧ l.length = 512 then some (l.take 148 ++ (q.1 ++ [0, 32]) ++ l.drop 156, 0) else none) else some ([], q.2) else some ([], p.2)

set_option maxHeartbeats 2000000 in
set_option maxRecDepth 100000 in
theorem hsum_Put.calls (A0 : Option Addr) (c0 : Nat) (l0 : List Int) (r1 : List Int) (r2 : Int) (w : World) (hr0 : Kd.C (Kd.int .u8) w A0 l0.length l0) (hc0 : l0.length ≤ c0) (h : hsum_Put.f l0 = some (r1, r2)) :
    Calls Tryd.prog 28 #[.slice A0 l0.length c0] w fun e w' => ∃ v0_ : Value, e = .returned (.tuple #[v0_, .int .i64 r2]) ∧ Kd.R (Kd.int .u8) 5 w' w.heap.size (fun _ => True) v0_ r1 ∧ Below w.heap.size w w' := by
  obtain ⟨⟨n, e1⟩, hS, h⟩ := Option.bind_eq_some_iff.1 h
  have HS := Aside0.mk hS
  have HR0 := Aside0.mk hr0
  have HC0 := Aside0.mk hc0
  have HB := Aside0.mk (Below.refl w.heap.size w)
  clear hS hr0 hc0
  by_cases c1 : e1 = 0
  rotate_left
  · rw [if_neg c1] at h
    simp only [Option.some.injEq, Prod.mk.injEq] at h
    obtain ⟨rfl, rfl⟩ := h
    have b1 : (e1 != 0) = true := bne_iff_ne.2 c1
    clear c1
    go_enter Tryd.func28, Tryd.ntmps28
    go_wp2_with (go_at_call 26; (with_reducible refine (hsum_Sum.calls 1000 A0 c0 l0 n e1 _ HR0.out HC0.out HS.out).mono ?_); rintro e w' ⟨rfl, hd⟩)
    go_ret2
    exact ⟨_, rfl, Kd.R_nil _ _ _ _ _, hd.below⟩
  rw [if_pos c1] at h
  subst c1
  obtain ⟨⟨d, e2⟩, hO, h⟩ := Option.bind_eq_some_iff.1 h
  have HO := Aside0.mk hO
  clear hO
  by_cases c2 : e2 = 0
  rotate_left
  · rw [if_neg c2] at h
    simp only [Option.some.injEq, Prod.mk.injEq] at h
    obtain ⟨rfl, rfl⟩ := h
    have b2 : (e2 != 0) = true := bne_iff_ne.2 c2
    clear c2
    go_enter Tryd.func28, Tryd.ntmps28
    go_wp2_with (first
      | (go_at_call 26; (with_reducible refine (hsum_Sum.calls 1000 A0 c0 l0 n 0 _ HR0.out HC0.out HS.out).mono ?_); rintro e w1 ⟨rfl, hd⟩; have HD := Aside0.mk hd; clear hd)
      | (go_at_call 66; (with_reducible refine (numf_Octal.calls 100 n 6 d e2 _ HO.out).mono ?_); rintro e w2 ⟨v6, rfl, hr6, hb⟩; have HB2 := Aside0.mk hb; clear hb hr6))
    go_ret2
    exact ⟨_, rfl, Kd.R_nil _ _ _ _ _, below_step HD.out.below HB2.out⟩
  rw [if_pos c2] at h
  subst c2
  split at h
  rotate_left
  · cases h
  rename_i hlen
  simp only [Option.some.injEq, Prod.mk.injEq] at h
  obtain ⟨hr1, rfl⟩ := h
  obtain ⟨hd6, h512⟩ := hlen
  obtain ⟨b, off, rfl, hz⟩ := C_at HR0.out 0 (by omega)
  clear hz
  have HFIN : ∀ (w2 : World), Below w.heap.size w w2 → Calls Tryd.prog 67 #[.slice (some ⟨b, off, none⟩) l0.length c0] w2 fun e w' => ∃ v', e = .returned v' ∧ w'.ownsRow w2.heap.size 5 1 v' l0.length (l0.map (Value.int .u8)) ∧ v' ≠ .slice none 0 0 ∧ Below w2.heap.size w2 w' := fun w2 hb => by
    obtain ⟨_, hle, hcl⟩ := Kd.reads_of_C (enc := Value.int .u8) (d := 0) (h1 := fun _ => rfl) (Kd.C_below HR0.out hb)
    obtain ⟨ad, e, hcl⟩ := hcl (by omega)
    cases e
    exact Tryd.bytes_Clone_at ⟨b, off, none⟩ l0.length c0 l0 w2 rfl (by omega) hcl
  have HF := Aside0.mk HFIN
  have H6 := Aside0.mk (show d.length = 6 from hd6)
  have H5 := Aside0.mk h512
  have HR1 := Aside0.mk hr1
  have h148 : (148 : Int) ≤ (l0.length : Int) := by omega
  clear HFIN h hr1 hd6 h512
  go_enter Tryd.func28, Tryd.ntmps28
  go_wp2_with (first
      | (go_at_call 26; (with_reducible refine (hsum_Sum.calls 1000 _ c0 l0 n 0 _ HR0.out HC0.out HS.out).mono ?_); rintro e w1 ⟨rfl, hd⟩; have HD := Aside0.mk hd.below; clear hd)
      | (go_at_call 66; (with_reducible refine (numf_Octal.calls 100 n 6 d 0 _ HO.out).mono ?_); rintro e w2 ⟨v6, rfl, hr6, hb⟩; have HB2 := Aside0.mk (below_step HD.out hb); have HR6 := Aside0.mk hr6; clear hb hr6)
      | (go_at_call 67; (with_reducible refine (HF.out w2 HB2.out).mono ?_); rintro e w3 ⟨v7, rfl, hown, hnn, hb⟩; have HB3 := Aside0.mk hb; have HOW := Aside0.mk hown; clear hb hown
         obtain ⟨A6, c6, e6⟩ := Kd.R_slice HR6.out
         subst e6
         rcases HOW.out.2 with ⟨hx, _⟩ | ⟨g, cap, cur, hx, hge, hgh, hnc, hcm, hcs, htk⟩
         · exact absurd hx hnn
         subst hx
         have HG := Aside0.mk hgh
         have HGE := Aside0.mk hge
         have hcapl : (l0.length : Int) ≤ (cap : Int) := by omega
         clear hge hgh hnn HOW))
  have hlow : w.heap.size ≤ w1.heap.size := below_size HD.out
  have hne : some g ≠ (Value.slice A6 d.length c6).ownBlock := fun e => by
    have := Kd.R_lt HR6.out g e.symm
    have := HGE.out
    omega
  have HNE := Aside0.mk hne
  have HR7 := Aside0.mk (Kd.R_lower (Kd.R_below HR6.out HB3.out) hlow)
  have HB4 := Aside0.mk (below_step HB2.out HB3.out)
  have HSZ := Aside0.mk hcs
  have HTK := Aside0.mk htk
  have HNC := Aside0.mk hnc
  have HCM := Aside0.mk hcm
  have HRL := Aside0.mk (below_size HB2.out)
  clear hne hcs htk hnc hcm HR6 HB3 hlow HD HF HR0 h HB2
  have hDL := H6.out
  have hLL := H5.out
  have HR8 : Kd.R (Kd.int .u8) 5 w3 w.heap.size (fun _ => True) (.slice A6 6 c6) d := by have := HR7.out; rw [hDL] at this; exact this
  have HR9 := Aside0.mk HR8
  have HNE6 : Aside0 (some g ≠ (Value.slice A6 6 c6).ownBlock) := ⟨by have := HNE.out; rw [hDL] at this; exact this⟩
  have h30 : g < w3.heap.size := by
    rcases Nat.lt_or_ge g w3.heap.size with h | h
    · exact h
    · have := HG.out; rw [Array.getElem?_eq_none h] at this; cases this
  have H30 := Aside0.mk h30
  clear HR8 HR7 HNE h30
  go_region_law (first
    | (refine Kd.R_append_rows_step (Kd.int .u8) (w0 := w) w.heap.size (by rfl) (.tmp 28) (.tmp 29) 22 5 (.int .u8 0) 1 rfl Tryd.underlying22 info_u8' rfl (by decide) (by omega) (.slice A6 6 c6) d [0, 32] _ _ _ (fun _ => True) (fun _ => False) (by rfl) (by rfl) (Kd.R_drew (Kd.R_alloc HR9.out _)) (lit2' _) (fun _ _ h => h) (fun _ h => h.elim) (fun _ _ => trivial) (below_drew1 (HB4.out.alloc (below_size HB4.out) _)) (Nat.le_trans (below_size HB4.out) (by simp [World.drew])) (by rw [hDL]; omega) ?_
       intro v8 w5 ho hb hg hat
       obtain ⟨A8, c8, e8⟩ := Kd.R_slice ho
       have hl8 : (d ++ [0, 32]).length = 8 := by rw [List.length_append, hDL]; rfl
       rw [hl8] at e8
       subst e8
       have HO8 := Aside0.mk ho
       have HB5 := Aside0.mk hb
       have HG5 := Aside0.mk (show w5.heap[g]? = some (.cells cur.toList.toArray 5 (0, 0)) by
         rw [hg.block g (by have := H30.out; simp [World.drew]; omega) HNE6.out]
         have h1 := HG.out
         have h2 := H30.out
         rw [show cur.toList.toArray = cur from by simp]
         rw [← h1]
         exact heap_two w3 _ g h2)
       have HSP := Aside0.mk (show ∃ ad, A8 = some ad ∧ ∀ j v, ((d ++ [0, 32]).map (Value.int .u8))[j]? = some v → w5.cell? (ad.add j) = some v by
         have hr := (Kd.R_reads' HO8.out).2.2
         rw [hl8] at hr
         obtain ⟨_, _, h3⟩ := Kd.reads_of_C (enc := Value.int .u8) (d := 0) (h1 := fun _ => rfl) hr
         obtain ⟨ad, e, hc⟩ := h3 (by omega)
         refine ⟨ad, e, fun j v hj => ?_⟩
         have hjl : j < 8 := by
           rcases Nat.lt_or_ge j 8 with h | h
           · exact h
           · rw [List.getElem?_eq_none (by rw [List.length_map, hl8]; exact h)] at hj; cases hj
         rw [hc j hjl, map_at _ j v hj])
       clear ho hb hg hat hl8)
    | (have hl8 : (d ++ [0, 32]).length = 8 := by rw [List.length_append, hDL]; rfl
       refine step_copy_splice rfl (.tmp 27) (.tmp 30) 22 22 (by rfl) 5 Tryd.underlying22 (by kernel_rfl) (if cap = 148 then some ⟨g, 0, none⟩ else some ⟨g, 148, none⟩) A8 364 (cap - 148) 8 c8 (by rfl) (by rfl) g 148 cur.toList 5 HG5.out ((d ++ [0, 32]).map (Value.int .u8)) (by rw [List.length_map, hl8]; rfl) (fun _ => ⟨by rw [if_neg (by omega)], HSP.out⟩) (by have := HSZ.out; rw [List.length_map, hl8, Array.length_toList]; omega) (by intro v hv; obtain ⟨x, _, rfl⟩ := List.mem_map.1 hv; rfl) w.heap.size w HB5.out (by have := HGE.out; have := HRL.out; omega) ?_
       intro w6 hh hb6))
  go_wp2
  go_ret2
  refine ⟨_, rfl, Kd.R_of_own ?_ (fun _ _ => trivial), hb6⟩
  have hl8 : (d ++ [0, 32]).length = 8 := by rw [List.length_append, hDL]; rfl
  have hr1 : r1.length = 512 := by rw [← HR1.out]; simp only [List.length_append, List.length_take, List.length_drop, hl8, hLL]; rfl
  rw [hr1]
  have hsz := HSZ.out
  have hcap := hcapl
  refine ⟨by rw [encs_length, hr1], .inr ⟨g, cap, _, rfl, by have := HGE.out; have := HRL.out; omega, hh, by omega, HCM.out, ?_, ?_⟩⟩
  · rw [List.size_toArray, length_splice _ _ _ (by rw [List.length_map, hl8, Array.length_toList]; omega), Array.length_toList]; exact hsz
  · have h1 := HTK.out
    rw [hLL] at h1
    have := splice_take cur.toList l0 (d ++ [0, 32]) hLL hl8 h1
    show List.take 512 (splice cur.toList 148 ((d ++ [0, 32]).map (Value.int .u8))) = r1.map (Value.int .u8)
    rw [this, HR1.out]
end Go.Proofs.YtpjanlpjjemenaaDoor.Hand
