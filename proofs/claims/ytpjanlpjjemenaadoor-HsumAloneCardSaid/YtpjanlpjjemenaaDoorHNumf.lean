/- Contracts, by hand, of bytes.Trim at a cutset of two ASCII bytes, and of numf.Get, in the printer's form. -/
import Derived.Test.YtpjanlpjjemenaaDoorHBytes
import Derived.Shelf.Bytes.SlTrim
import Derived.Test.YtpjanlpjjemenaaDoorF92
import Derived.Test.YtpjanlpjjemenaaDoorF95
import Derived.WalkMore
import Derived.ScopeJumps
namespace Go.Proofs.YtpjanlpjjemenaaDoor.Hand
open Go.RowKit Go.Proofs.YtpjanlpjjemenaaDoor.P Go.Proofs.YtpjanlpjjemenaaDoorW.PrintWords Go.Proofs.YtpjanlpjjemenaaDoorW.PrintLast Go.Proofs.YtpjanlpjjemenaaDoorW.PrintMore
set_option linter.unusedVariables false
set_option linter.unusedSimpArgs false

theorem hv_set : ∀ w, (zeroValue 91).run Tryd.prog w = .ok (.agg (Array.replicate 256 (.bool false))) w := by
  intro w; kernel_rfl
theorem hi_set : (Tryd.prog.info? 91).map (·.size) = some 256 := by kernel_rfl

theorem bytesAt_tail {w : World} {b off : Nat} {c : Nat} {x : UInt8} {l : List UInt8} (hlc : (x :: l).length ≤ c) (h : Lib.BytesAt w (some ⟨b, off, none⟩) (x :: l).length (x :: l)) : Lib.BytesAt w (if c = 1 then some ⟨b, off, none⟩ else some ⟨b, off + 1, none⟩) l.length l := by
  intro h0
  have hlen : (x :: l).length = l.length + 1 := rfl
  obtain ⟨b2, o2, e, hc⟩ := h (by omega)
  cases e
  rw [if_neg (by omega)]
  refine ⟨b, off + 1, rfl, fun i hi => ?_⟩
  have := hc (i + 1) (by omega)
  rw [show off + (i + 1) = off + 1 + i by omega] at this
  exact this
theorem contains_at (g : Nat) (x : UInt8) (v : Bool) (w : World) (hc : w.cell? ⟨g, x.toNat, none⟩ = some (.bool v)) :
    Calls Tryd.prog 109 #[.pointer (some ⟨g, 0, none⟩), .int .u8 x.toNat] w fun e w' => e = .returned (.bool v) ∧ w' = w := Any.bytes_asciiSet_contains Tryd.laysV16 g x v w hc
theorem makeSet_at (chars : ByteArray) (w : World) (hs : chars.size < 4294967281) (hascii : ∀ (j : Nat) b, chars.data.toList[j]? = some b → b.toNat < 128) :
    Calls Tryd.prog 85 #[.string chars] w fun e w' => e = .returned (.tuple #[.agg (Lib.setCells chars.data.toList), .bool true]) ∧ w' = w.alloc (.cells (Lib.setCells chars.data.toList) 91) := Any.bytes_makeASCIISet Tryd.laysV11 hv_set hi_set chars w hs hascii
theorem trimRight_at (p : Option Addr) (n c : Nat) (bs : List UInt8) (b : Nat) (cs : List UInt8) (w : World) (hb : bs.length = n) (hnc : n ≤ c) (hbig : n ≤ 9223372036854775807) (h1 : Lib.BytesAt w p n bs) (hset : ∀ x : UInt8, w.cell? ⟨b, x.toNat, none⟩ = some (.bool (cs.contains x))) :
    Calls Tryd.prog 120 #[.slice p n c, .pointer (some ⟨b, 0, none⟩)] w fun e w' => e = .returned (.slice p (Lib.trimRightS bs cs).length c) ∧ w' = w := Any.bytes_trimRightASCII Tryd.laysV13 p n c bs b cs w hb hnc hbig h1 hset
set_option maxHeartbeats 1000000 in
set_option maxRecDepth 100000 in
theorem bytes_trimLeftASCII_any (A0 : Option Addr) (c0 : Nat) (l0 : List UInt8) (g : Nat) (cs : List UInt8) (w : World) (h1 : Lib.BytesAt w A0 l0.length l0) (hc0 : l0.length ≤ c0) (hset : ∀ x : UInt8, w.cell? ⟨g, x.toNat, none⟩ = some (.bool (cs.contains x))) :
    Calls Tryd.prog 86 #[.slice A0 l0.length c0, .pointer (some ⟨g, 0, none⟩)] w fun e w' => (∃ A c, e = .returned (.slice A (Lib.trimLeftS l0 cs).length c)) ∧ w' = w := by
  have HR := Aside0.mk h1
  have HC := Aside0.mk hc0
  have HS := Aside0.mk hset
  clear h1 hc0 hset
  go_enter Tryd.func86, Tryd.ntmps86
  go_wp2
  go_loop [0] (fun v => ∃ A c l, v = .slice A l.length c ∧ Aside0 (l.length ≤ c) ∧ Aside0 (Lib.BytesAt w A l.length l) ∧ Aside0 (Lib.trimLeftS l cs = Lib.trimLeftS l0 cs)) (fun v => lenOf v)
  case atStart => exact ⟨A0, c0, l0, rfl, HC, HR, ⟨rfl⟩⟩
  case round =>
    obtain ⟨A, c, l, rfl, hc, hr, hs⟩ := hrel
    match l with
    | [] =>
      go_wp2
      go_ret
      exact ⟨⟨none, 0, by rw [← hs.out]; rfl⟩, rfl⟩
    | x :: l =>
      obtain ⟨b, off, rfl, hcell⟩ := hr.out (by simp only [List.length_cons]; omega)
      have hcell0 := hcell 0 (by simp only [List.length_cons]; omega)
      clear hcell
      rw [show (x :: l).getD 0 0 = x from rfl, Nat.add_zero] at hcell0
      have b1 : decide ((0 : Int) < (((x :: l).length : Nat) : Int)) = true := decide_eq_true (by simp only [List.length_cons]; omega)
      have hcx := Aside0.mk (HS.out x)
      cases hin : cs.contains x with
      | false =>
        rw [hin] at hcx
        have hs3 := Aside0.mk (show Lib.trimLeftS l0 cs = x :: l by rw [← hs.out]; unfold Lib.trimLeftS; rw [List.dropWhile_cons, hin]; rfl)
        clear hs hin
        go_wp2_with (go_at_call 109; (with_reducible refine (contains_at g x false _ hcx.out).mono ?_); rintro e w' ⟨rfl, rfl⟩)
        go_ret
        exact ⟨⟨_, c, by rw [hs3.out]; rfl⟩, rfl⟩
      | true =>
        rw [hin] at hcx
        have hs3 := Aside0.mk (show Lib.trimLeftS l cs = Lib.trimLeftS l0 cs by rw [← hs.out]; unfold Lib.trimLeftS; rw [List.dropWhile_cons, hin]; rfl)
        clear hs hin
        have hr2 := Aside0.mk (bytesAt_tail (c := c) hc.out hr.out)
        have hl3 := Aside0.mk (show l.length ≤ c - 1 by have := hc.out; simp only [List.length_cons] at this; omega)
        go_wp2_with (go_at_call 109; (with_reducible refine (contains_at g x true _ hcx.out).mono ?_); rintro e w' ⟨rfl, rfl⟩)
        go_round
        case rel => exact ⟨_, _, l, rfl, hl3, hr2, hs3⟩
        case measure => simp [lenOf]

set_option maxHeartbeats 4000000 in
set_option maxRecDepth 1000000 in
theorem bytes_Trim_set (A0 : Option Addr) (n c0 : Nat) (l0 : List UInt8) (cutset : ByteArray) (w : World) (hb : l0.length = n) (h1 : Lib.BytesAt w A0 n l0) (hc0 : n ≤ c0) (hbig : n ≤ 9223372036854775807) (h2 : 2 ≤ cutset.size) (hcs : cutset.size < 4294967281) (hascii : ∀ (j : Nat) b, cutset.data.toList[j]? = some b → b.toNat < 128) :
    Calls Tryd.prog 94 #[.slice A0 n c0, .string cutset] w fun e w' => (∃ A c, e = .returned (.slice A (Lib.trimS l0 cutset.data.toList).length c)) ∧ Below w.heap.size w w' := by
  rcases Nat.eq_zero_or_pos n with h0 | h0
  · subst h0
    obtain rfl : l0 = [] := List.eq_nil_of_length_eq_zero hb
    go_enter Tryd.func94, Tryd.ntmps94
    go_wp2
    go_ret
    exact ⟨⟨none, 0, rfl⟩, Below.refl _ _⟩
  have hM := makeSet_at cutset w hcs hascii
  clear hascii
  have hemp : cutset.toList.isEmpty = false := by
    rw [Lib.toList_data]
    cases h : cutset.data.toList with
    | nil => have := Lib.size_eq cutset; rw [h, List.length_nil] at this; omega
    | cons _ _ => rfl
  have hn0 : ((n : Int) == 0) = false := beq_eq_false_iff_ne.2 (by omega)
  have hn1 : ((cutset.size : Int) == 1) = false := beq_eq_false_iff_ne.2 (by omega)
  have hsc : (storeCells ⟨w.heap.size + 1, 0, none⟩ (Lib.setCells cutset.data.toList).toList 0).run Tryd.prog ((w.alloc (.cells (Lib.setCells cutset.data.toList) 91)).alloc (.cells Tryd.zeroCells91 91)) = .ok () ((w.alloc (.cells (Lib.setCells cutset.data.toList) 91)).alloc (.cells (Lib.setCells cutset.data.toList) 91)) := by
    have := run_storeCells_new (P := Tryd.prog) (w.alloc (.cells (Lib.setCells cutset.data.toList) 91)) 91 Tryd.zeroCells91 (Lib.setCells cutset.data.toList) (by rw [Lib.setCells_size]; exact hi_set) (by rw [Lib.setCells_size]; kernel_rfl) (Lib.setCells_one _)
    simpa using this
  have hsz := Lib.setCells_size cutset.data.toList
  have hcellAt : ∀ x : UInt8, ((w.alloc (.cells (Lib.setCells cutset.data.toList) 91)).alloc (.cells (Lib.setCells cutset.data.toList) 91)).cell? ⟨w.heap.size + 1, x.toNat, none⟩ = some (.bool (cutset.data.toList.contains x)) := fun x => by
    rw [World.cell?_alloc_at _ _ _ _ (by simp), Lib.setCells_at]
  have hB2 : Below w.heap.size w ((w.alloc (.cells (Lib.setCells cutset.data.toList) 91)).alloc (.cells (Lib.setCells cutset.data.toList) 91)) := ((Below.refl _ _).alloc (Nat.le_refl _) _).alloc (by simp) _
  have h1' := h1.below hB2
  clear h1 hB2
  have hkn : (Lib.trimRightS l0 cutset.data.toList).length ≤ n := by rw [← hb]; exact Lib.trimRightS_len_le _ _
  have hTR := trimRight_at A0 n c0 l0 (w.heap.size + 1) cutset.data.toList _ hb hc0 hbig h1' hcellAt
  have hTL := bytes_trimLeftASCII_any A0 c0 (l0.take (Lib.trimRightS l0 cutset.data.toList).length) (w.heap.size + 1) cutset.data.toList _ (by rw [show (l0.take (Lib.trimRightS l0 cutset.data.toList).length).length = (Lib.trimRightS l0 cutset.data.toList).length by rw [List.length_take]; omega]; exact h1'.take hkn) (by rw [List.length_take]; omega) hcellAt
  rw [← Lib.trimRightS_eq_take] at hTL
  have HTL := Aside0.mk hTL
  have HTR := Aside0.mk hTR
  clear hcellAt h1' hTL hTR
  go_enter Tryd.func94, Tryd.ntmps94
  go_wp2_with (go_at_call 85; refine hM.mono ?_; rintro e w' ⟨rfl, hw⟩; rw [hw])
  clear hM hsc
  generalize hk : (Lib.trimRightS l0 cutset.data.toList).length = k at *
  have HK := Aside0.mk hk
  clear hk
  go_wp2_with (first
    | (go_at_call 120; refine HTR.out.mono ?_; rintro e w' ⟨rfl, hw⟩; rw [hw])
    | (go_at_call 86; refine HTL.out.mono ?_; rintro e w' ⟨⟨A2, c2, rfl⟩, hw⟩; rw [hw]))
  go_ret
  exact ⟨⟨A2, c2, rfl⟩, ((Below.refl _ _).alloc (Nat.le_refl _) _).alloc (by simp) _⟩

/-- How many leading bytes are octal digits. -/
def octs : List Int → Nat
  | [] => 0
  | x :: l => if 48 ≤ x ∧ x ≤ 55 then octs l + 1 else 0
theorem octs_le (l : List Int) : octs l ≤ l.length := by
  induction l with
  | nil => exact Nat.le_refl _
  | cons x l ih => unfold octs; split <;> simp only [List.length_cons] <;> omega
theorem octs_at (l : List Int) (k : Nat) (h : k < l.length) (hd : ∀ j (hj : j < l.length), j < k → 48 ≤ l[j] ∧ l[j] ≤ 55) : (48 ≤ l[k] ∧ l[k] ≤ 55 → k < octs l) ∧ (¬ (48 ≤ l[k] ∧ l[k] ≤ 55) → octs l = k) := by
  induction l generalizing k with
  | nil => simp at h
  | cons x l ih =>
    cases k with
    | zero =>
      constructor
      · intro h1; have h2 : 48 ≤ x ∧ x ≤ 55 := h1; unfold octs; rw [if_pos h2]; omega
      · intro h1; have h2 : ¬ (48 ≤ x ∧ x ≤ 55) := h1; unfold octs; rw [if_neg h2]
    | succ k =>
      have h0 := hd 0 (by simp) (by omega)
      have h1 := ih k (by simpa using h) (fun j hj hjk => by have := hd (j + 1) (by simpa using hj) (by omega); simpa using this)
      have e : octs (x :: l) = octs l + 1 := by
        show (if 48 ≤ x ∧ x ≤ 55 then octs l + 1 else 0) = _
        rw [if_pos (by simpa using h0)]
      rw [e]
      exact ⟨fun h2 => by have := h1.1 (by simpa using h2); omega, fun h2 => by have := h1.2 (by simpa using h2); omega⟩
theorem octs_all (l : List Int) (hd : ∀ j (hj : j < l.length), 48 ≤ l[j] ∧ l[j] ≤ 55) : octs l = l.length := by
  induction l with
  | nil => rfl
  | cons x l ih =>
    have h0 := hd 0 (by simp)
    show (if 48 ≤ x ∧ x ≤ 55 then octs l + 1 else 0) = _
    rw [if_pos (by simpa using h0), ih (fun j hj => by have := hd (j + 1) (by simpa using hj); simpa using this)]; rfl

set_option maxHeartbeats 4000000 in
set_option maxRecDepth 100000 in
theorem numf_digits_any (A0 : Option Addr) (n c0 : Nat) (l0 : List Int) (w : World) (hn : l0.length = n) (hr0 : Kd.C (Kd.int .u8) w A0 l0.length l0) (hc0 : l0.length ≤ c0) :
    Calls Tryd.prog 93 #[.slice A0 n c0] w fun e w' => e = .returned (.slice A0 (octs l0) c0) ∧ w' = w := by
  subst hn
  have hm := Kd.C_max hr0
  obtain ⟨inf, hi, hz0, hz1, hz2⟩ := info_parts info_u8
  have HR := Aside0.mk hr0
  have HC := Aside0.mk hc0
  clear hr0 hc0
  go_enter Tryd.func93, Tryd.ntmps93
  go_wp2
  go_loop [3] (fun v => ∃ k : Nat, k ≤ l0.length ∧ v = .int .i64 k ∧ Aside0 (∀ j (hj : j < l0.length), j < k → 48 ≤ l0[j] ∧ l0[j] ≤ 55)) (fun v => l0.length - (intOf v).toNat)
  case atStart => exact ⟨0, Nat.zero_le _, rfl, ⟨fun j hj h => absurd h (by omega)⟩⟩
  case round =>
    obtain ⟨k, hk, rfl, hd⟩ := hrel
    have hfin : ∀ m, m ≤ l0.length → (Instr.slice 22 (.slice A0 l0.length c0) none (some (.int .i64 (m : Nat))) none).run Tryd.prog w = .ok (.slice A0 m c0) w := by
      intro m hm2
      have := (print_take_of (P := Tryd.prog) (Value.int .u8) (0 : Int) 22 5 .i64 Tryd.underlying22 hi hz1 A0 c0 l0 (m : Int) (by omega) (by omega) HC.out).1 w
      rw [this]; congr 2; rw [List.length_take, Int.toNat_natCast]; omega
    by_cases hlt : k < l0.length
    · obtain ⟨b, off, hA, hcell2⟩ := C_at HR.out k hlt
      have hoc := octs_at l0 k hlt hd.out
      have hd3 : 48 ≤ l0[k] → l0[k] ≤ 55 → Aside0 (∀ j (hj : j < l0.length), j < k + 1 → 48 ≤ l0[j] ∧ l0[j] ≤ 55) := fun h1 h2 => ⟨fun j hj hjk => by
        rcases Nat.lt_or_ge j k with h | h
        · exact hd.out j hj h
        · obtain rfl : j = k := by omega
          exact ⟨h1, h2⟩⟩
      generalize l0[k] = x at *
      subst hA
      have hfin1 := hfin k (by omega)
      clear hfin
      by_cases h1 : 48 ≤ x
      · by_cases h2 : x ≤ 55
        · have hd2 := hd3 h1 h2
          have d1 : decide (48 ≤ x) = true := decide_eq_true h1
          have d2 : decide (x ≤ 55) = true := decide_eq_true h2
          clear hoc hd3
          go_wp2
          go_round
          case rel => exact ⟨k + 1, by omega, by go_num, hd2⟩
          case measure => simp [intOf]; omega
        · have hf := Aside0.mk (hoc.2 (fun h => h2 h.2))
          have d1 : decide (48 ≤ x) = true := decide_eq_true h1
          have d2 : decide (x ≤ 55) = false := decide_eq_false h2
          clear hoc hd3
          go_wp2
          go_ret
          exact ⟨by rw [hf.out]; rfl, rfl⟩
      · have hf := Aside0.mk (hoc.2 (fun h => h1 h.1))
        have d1 : decide (48 ≤ x) = false := decide_eq_false h1
        clear hoc hd3
        go_wp2
        go_ret
        exact ⟨by rw [hf.out]; rfl, rfl⟩
    · have hkk : k = l0.length := by omega
      have hf := Aside0.mk (show octs l0 = k by rw [hkk]; exact octs_all l0 (fun j hj => hd.out j hj (by omega)))
      have hfin1 := hfin k (by omega)
      clear hfin hkk
      go_wp2
      go_ret
      exact ⟨by rw [hf.out]; rfl, rfl⟩

/-- The number of octal digits, one by one, as the text reckons it. -/
def octVal : Int → List Int → Int
  | n, [] => n
  | n, c :: l => octVal (Go.bits .or .i64 (wrap64 (n * 8)) (c - 48)) l
/-- numf.Get. -/
def numf_Get.f (l0 : List Int) : Option (Int × Int) :=
  if l0.length = 8 ∨ l0.length = 12 then
    if ∀ x ∈ l0, 0 ≤ x ∧ x < 256 then
      if rd l0 0 = 128 ∨ rd l0 0 = 255 then numf_unbase.f 20 (rd l0 0) (l0.drop 1)
      else if octs (skip 32 l0) = 0 then some (0, 3)
      else if 0 < (Lib.trimS (Lib.bytesOf ((skip 32 l0).drop (octs (skip 32 l0)))) [32, 0]).length then some (0, 3)
      else some (octVal 0 ((skip 32 l0).take (octs (skip 32 l0))), 0)
    else none
  else some (0, 1)
theorem octVal_snoc (c : Int) (l : List Int) : ∀ n, octVal n (l ++ [c]) = Go.bits .or .i64 (wrap64 (octVal n l * 8)) (c - 48) := by
  induction l with
  | nil => intro n; rfl
  | cons x l ih => intro n; exact ih _
theorem mem_skip (c : Int) (l : List Int) (x : Int) (h : x ∈ skip c l) : x ∈ l := by
  induction l with
  | nil => exact h
  | cons y l ih =>
    unfold skip at h
    split at h
    · exact List.mem_cons_of_mem _ (ih h)
    · exact h
theorem octs_mem (l : List Int) : ∀ x ∈ l.take (octs l), 48 ≤ x ∧ x ≤ 55 := by
  induction l with
  | nil => intro x h; simp at h
  | cons y l ih =>
    intro x h
    unfold octs at h
    split at h
    · rename_i hy
      rw [List.take_succ_cons] at h
      rcases List.mem_cons.1 h with rfl | h
      · exact hy
      · exact ih x h
    · simp at h
theorem bytesAt_of {w : World} {A : Option Addr} {n : Nat} {xs : List Int} (h : Kd.C (Kd.int .u8) w A n xs) (hr : ∀ x ∈ xs, 0 ≤ x ∧ x < 256) : Lib.BytesAt w A n (Lib.bytesOf xs) := by
  intro h0
  have hn := Kd.C_len h
  obtain ⟨b, off, hA, _⟩ := C_at h 0 (by omega)
  refine ⟨b, off, hA, fun i hi => ?_⟩
  obtain ⟨b2, off2, hA2, hc⟩ := C_at h i (by omega)
  rw [hA] at hA2
  cases hA2
  rw [hc]
  congr 2
  have hm := hr xs[i] (List.getElem_mem _)
  unfold Lib.bytesOf
  rw [List.getD_eq_getElem?_getD, List.getElem?_map, List.getElem?_eq_getElem (by omega)]
  simp only [Option.map_some, Option.getD_some, UInt8.toNat_ofNat']
  omega
theorem tail_bytes {w : World} {A A3 : Option Addr} {rr : List Int} {m : Nat} (_h : Kd.C (Kd.int .u8) w A rr.length rr) (h : ReadsOf (Value.int .u8) 0 w A3 (rr.drop m).length (rr.drop m)) (hr : ∀ x ∈ rr, 0 ≤ x ∧ x < 256) : Lib.BytesAt w A3 (rr.length - m) (Lib.bytesOf (rr.drop m)) := by
  have := bytesAt_of (Kd.C_of_reads (enc := Value.int .u8) (h1 := fun _ => rfl) h) (fun x hx => hr x (List.mem_of_mem_drop hx))
  rwa [List.length_drop] at this
theorem ascii2 : ∀ (j : Nat) b, (⟨#[32, 0]⟩ : ByteArray).data.toList[j]? = some b → b.toNat < 128 := by
  intro j b h
  match j with
  | 0 => simp at h; subst h; decide
  | 1 => simp at h; subst h; decide
  | j + 2 => simp at h
set_option maxHeartbeats 4000000 in
set_option maxRecDepth 100000 in
theorem numf_Get.calls (A0 : Option Addr) (c0 : Nat) (l0 : List Int) (r1 r2 : Int) (w : World) (hr0 : Kd.C (Kd.int .u8) w A0 l0.length l0) (hc0 : l0.length ≤ c0) (h : numf_Get.f l0 = some (r1, r2)) :
    Calls Tryd.prog 69 #[.slice A0 l0.length c0] w fun e w' => e = .returned (.tuple #[.int .i64 r1, .int .i64 r2]) ∧ Below w.heap.size w w' := by
  unfold numf_Get.f at h
  by_cases c1 : l0.length = 8 ∨ l0.length = 12
  case neg =>
    rw [if_neg c1] at h
    simp only [Option.some.injEq, Prod.mk.injEq] at h
    obtain ⟨rfl, rfl⟩ := h
    have hw : numf_isWidth.f (l0.length : Int) = some false := by
      unfold numf_isWidth.f; rw [if_neg (by omega)]; congr 1; rw [beq_eq_false_iff_ne]; omega
    have HW := Aside0.mk hw
    clear hw c1
    go_enter Tryd.func69, Tryd.ntmps69
    go_wp2
    go_step3
    go_wp2_with (go_at_call 92; (with_reducible refine (numf_isWidth.calls _ false _ HW.out).mono ?_); rintro e w' ⟨rfl, ⟨nd, rfl⟩⟩)
    rw [Exit.noGoto_ret]
    go_ret2
    exact ⟨rfl, by repeat (first | exact Below.refl _ _ | apply pw_below_drewN)⟩
  rw [if_pos c1] at h
  by_cases c2 : ∀ x ∈ l0, 0 ≤ x ∧ x < 256
  case neg => rw [if_neg c2] at h; cases h
  rw [if_pos c2] at h
  have hw : numf_isWidth.f (l0.length : Int) = some true := by
    unfold numf_isWidth.f
    rcases c1 with c1 | c1
    · rw [if_pos (by omega)]
    · rw [if_neg (by omega)]; congr 1; rw [beq_iff_eq]; omega
  have HW := Aside0.mk hw
  have hlen : 8 ≤ l0.length ∧ l0.length ≤ 12 := by omega
  clear hw c1
  obtain ⟨b, off, hA, hcell⟩ := C_at hr0 0 (by omega)
  have hr : l0[0]'(by omega) = rd l0 0 := by simp [rd, List.getD_eq_getElem?_getD]; rw [List.getElem?_eq_getElem (by omega)]; rfl
  rw [hr, Nat.add_zero] at hcell
  clear hr
  have HR := Aside0.mk hr0
  have HC := Aside0.mk hc0
  have HG := Aside0.mk c2
  clear hr0 hc0 c2
  by_cases c3 : rd l0 0 = 128 ∨ rd l0 0 = 255
  · rw [if_pos c3] at h
    obtain ⟨inf, hi, hz0, hz1, hz2⟩ := info_parts info_u8
    obtain ⟨A3, hs3, ht3, hl3⟩ := print_drop_of (P := Tryd.prog) (Value.int .u8) (0 : Int) 22 5 .i64 Tryd.underlying22 hi hz1 A0 c0 l0 1 (by omega) (by omega) HC.out
    have H3 : Aside0 (Kd.C (Kd.int .u8) w A3 (l0.drop 1).length (l0.drop 1)) := Aside0.mk (Kd.C_of_reads (enc := Value.int .u8) (h1 := fun _ => rfl) (ht3 w (Kd.reads_of_C (enc := Value.int .u8) (d := (0 : Int)) (h1 := fun _ => rfl) HR.out)))
    have L3 : Aside0 ((l0.drop 1).length ≤ c0 - 1) := ⟨hl3⟩
    have HH := Aside0.mk h
    rw [show ((1 : Int)).toNat = 1 from rfl] at hs3
    have hunb := fun w => numf_unbase.calls 20 (rd l0 0) A3 (c0 - 1) (l0.drop 1) r1 r2 w
    have HU := Aside0.mk hunb
    clear hi hz0 hz1 hz2 ht3 hl3 h hunb
    subst hA
    have d1 : (rd l0 0 == 128) = true ∨ ((rd l0 0 == 128) = false ∧ (rd l0 0 == 255) = true) := by
      rcases c3 with e | e
      · exact .inl (beq_iff_eq.2 e)
      · exact .inr ⟨beq_eq_false_iff_ne.2 (by omega), beq_iff_eq.2 e⟩
    clear c3
    rcases d1 with d1 | ⟨d1, d2⟩
    all_goals
      go_enter Tryd.func69, Tryd.ntmps69
      go_wp2
      refine wp_scope_jumps 0 (fun a' w' => (∃ u1 u2 u3 u4 u5 u6 u7 u8 u9 u10 u11 u12 u13 u14 u15 u16 u17 u18 u19 u20 u21 u22 u23 u24 u25 u26 u27 u28 u29 u30 u31 u32 u33 u34 u35 u36 u37 u38 u39 u40 u41 u42 u43 u44 u45 u46 u47 u48 u49 u50 u51 u52 u53 u54 u55 u56 u57 u58 u59 u60 : Value, a' = { tmps := #[.slice (some ⟨b, off, none⟩) l0.length c0, u1, u2, u3, u4, u5, u6, u7, u8, u9, u10, u11, u12, u13, u14, u15, u16, u17, u18, u19, u20, u21, u22, u23, u24, u25, u26, u27, u28, u29, u30, u31, u32, u33, u34, u35, u36, u37, u38, u39, u40, u41, u42, u43, u44, u45, u46, u47, u48, u49, u50, u51, u52, u53, u54, u55, u56, u57, u58, u59, u60], defers := [] }) ∧ ∃ n, w' = w.drewN n) (fun _ _ => 0) rfl ?_ ?_
      · go_wp2_with (go_at_call 92; (with_reducible refine (numf_isWidth.calls _ true _ HW.out).mono ?_); rintro e w' ⟨rfl, ⟨nd, rfl⟩⟩)
        go_step3
        go_wp2
        refine ⟨rfl, ?_, nd, rfl⟩
        repeat apply Exists.intro
        rfl
      · rintro a' w' ⟨⟨u1, u2, u3, u4, u5, u6, u7, u8, u9, u10, u11, u12, u13, u14, u15, u16, u17, u18, u19, u20, u21, u22, u23, u24, u25, u26, u27, u28, u29, u30, u31, u32, u33, u34, u35, u36, u37, u38, u39, u40, u41, u42, u43, u44, u45, u46, u47, u48, u49, u50, u51, u52, u53, u54, u55, u56, u57, u58, u59, u60, rfl⟩, nd, rfl⟩
        have HB1 : Aside0 (Below w.heap.size w (w.drewN nd)) := ⟨pw_below_drewN (Below.refl _ _) _⟩
        have H31 : Aside0 (Kd.C (Kd.int .u8) (w.drewN nd) A3 (l0.drop 1).length (l0.drop 1)) := ⟨Kd.C_drewN H3.out nd⟩
        have hcell1 : (w.drewN nd).cell? ⟨b, off, none⟩ = some (.int .u8 (rd l0 0)) := by simpa using hcell
        generalize w.drewN nd = w1 at HB1 H31 hcell1 ⊢
        clear hcell H3 HR
        have hpos : (0 : Int) < (l0.length : Int) := by omega
        have hq := fun n => Calls.quiet_of ((HU.out (w1.drewN n) (Kd.C_drewN H31.out n) L3.out HH.out).mono fun _ _ h => ⟨h.1, h.2.out⟩)
        have HQ := Aside0.mk hq
        rw [show (l0.drop 1).length = l0.length - 1 from List.length_drop] at HQ
        clear hq
        go_wp2
        go_quiet ((go_at_call 95; exact HQ.out _))
        go_wp2
        rw [show ∀ (Q : Exit → Act → World → Prop) (J : Act → World → Prop) (a : Act) (w : World), Exit.jump 0 J Q .ret a w = Q .ret a w from fun _ _ _ _ => rfl]
        go_ret2
        exact ⟨rfl, pw_below_drewN HB1.out _⟩
  · rw [if_neg c3] at h
    have d1 : (rd l0 0 == 128) = false := beq_eq_false_iff_ne.2 (fun e => c3 (.inl e))
    have d2 : (rd l0 0 == 255) = false := beq_eq_false_iff_ne.2 (fun e => c3 (.inr e))
    clear c3
    subst hA
    by_cases c4 : octs (skip 32 l0) = 0
    · rw [if_pos c4] at h
      simp only [Option.some.injEq, Prod.mk.injEq] at h
      obtain ⟨rfl, rfl⟩ := h
      have H4 := Aside0.mk c4
      clear c4
      go_enter Tryd.func69, Tryd.ntmps69
      go_wp2
      go_step3
      go_wp2_with (first
        | (go_at_call 92; (with_reducible refine (numf_isWidth.calls _ true _ HW.out).mono ?_); rintro e w' ⟨rfl, ⟨nd, rfl⟩⟩)
        | (go_at_call 63; (with_reducible refine (bytes_TrimLeft_one' _ _ c0 l0 32 _ (by decide) rfl ?side1 HC.out).mono ?_); (case side1 => repeat (first | exact HR.out | (with_reducible refine Kd.C_drewN ?_ _))); rintro e w2 ⟨⟨A2, c2, rfl, h1, h2⟩, rfl⟩; rw [show (((32 : UInt8).toNat : Nat) : Int) = 32 from rfl] at h1 h2 ⊢; have H1 := Aside0.mk h1; have H2 := Aside0.mk h2; clear h1 h2)
        | (go_at_call 93; (with_reducible refine (numf_digits_any A2 _ c2 (skip 32 l0) _ rfl H2.out H1.out).mono ?_); rintro e w3 ⟨rfl, rfl⟩; rw [H4.out]))
      rw [Exit.noGoto_ret]
      go_ret2
      exact ⟨rfl, by repeat (first | exact Below.refl _ _ | apply pw_below_drewN)⟩
    · rw [if_neg c4] at h
      have hle := octs_le (skip 32 l0)
      have hsl := skip_len 32 l0
      have hrg : ∀ x ∈ skip 32 l0, 0 ≤ x ∧ x < 256 := fun x hx => HG.out x (mem_skip 32 l0 x hx)
      have hom := octs_mem (skip 32 l0)
      obtain ⟨rr, hrr⟩ : ∃ rr, rr = skip 32 l0 := ⟨_, rfl⟩
      rw [← hrr] at h c4 hle hsl hrg hom
      have HRR := Aside0.mk hrr
      clear hrr
      obtain ⟨m, hm⟩ : ∃ m, m = octs rr := ⟨_, rfl⟩
      rw [← hm] at h c4 hle hom
      have HM := Aside0.mk hm
      clear hm
      have d3 : ((m : Int) == 0) = false := beq_eq_false_iff_ne.2 (by omega)
      have HOM := Aside0.mk hom
      have HRG := Aside0.mk hrg
      clear hom hrg
      obtain ⟨inf, hi, hz0, hz1, hz2⟩ := info_parts info_u8
      have hdrop := fun A2 c2 (hc2 : rr.length ≤ c2) => print_drop_of (P := Tryd.prog) (Value.int .u8) (0 : Int) 22 5 .i64 Tryd.underlying22 hi hz1 A2 c2 rr (m : Int) (by omega) (by omega) hc2
      have HD := Aside0.mk hdrop
      clear hdrop hi hz0 hz1 hz2
      by_cases c5 : 0 < (Lib.trimS (Lib.bytesOf (rr.drop m)) [32, 0]).length
      · rw [if_pos c5] at h
        simp only [Option.some.injEq, Prod.mk.injEq] at h
        obtain ⟨rfl, rfl⟩ := h
        have d5 : decide ((0 : Int) < (((Lib.trimS (Lib.bytesOf (rr.drop m)) [32, 0]).length : Nat) : Int)) = true := decide_eq_true (by omega)
        have d6 : decide (0 < (Lib.trimS (Lib.bytesOf (rr.drop m)) [32, 0]).length) = true := decide_eq_true (by omega)
        clear c5
        go_enter Tryd.func69, Tryd.ntmps69
        go_wp2
        go_step3
        go_wp2_with (first
          | (go_at_call 92; (with_reducible refine (numf_isWidth.calls _ true _ HW.out).mono ?_); rintro e w' ⟨rfl, ⟨nd, rfl⟩⟩)
          | (go_at_call 63; (with_reducible refine (bytes_TrimLeft_one' _ _ c0 l0 32 _ (by decide) rfl ?side1 HC.out).mono ?_); (case side1 => repeat (first | exact HR.out | (with_reducible refine Kd.C_drewN ?_ _))); rintro e w2 ⟨⟨A2, c2, rfl, h1, h2⟩, hw2⟩; rw [show (((32 : UInt8).toNat : Nat) : Int) = 32 from rfl, ← HRR.out] at h1 h2; rw [show (((32 : UInt8).toNat : Nat) : Int) = 32 from rfl, ← HRR.out]; subst hw2; have H1 := Aside0.mk h1; have H2 := Aside0.mk h2; clear h1 h2; obtain ⟨A3, hs3, ht3, hl3⟩ := HD.out A2 c2 H1.out; rw [Int.toNat_natCast] at hs3 ht3 hl3; have HL3 := Aside0.mk hl3; have HB3 := Aside0.mk (tail_bytes H2.out (ht3 _ (Kd.reads_of_C (enc := Value.int .u8) (d := (0 : Int)) (h1 := fun _ => rfl) H2.out)) HRG.out); clear ht3 hl3)
          | (go_at_call 93; (with_reducible refine (numf_digits_any A2 _ c2 rr _ rfl H2.out H1.out).mono ?_); rintro e w3 ⟨rfl, hw3⟩; subst hw3; rw [← HM.out])
          | (go_at_call 94; (with_reducible refine (bytes_Trim_set A3 _ (c2 - m) (Lib.bytesOf (rr.drop m)) ⟨#[32, 0]⟩ _ (by rw [Lib.bytesOf_length, List.length_drop]) HB3.out (by have := H1.out; omega) (by omega) (by decide) (by decide) ascii2).mono ?_); rintro e w4 ⟨⟨A4, c4, rfl⟩, hb4⟩; rw [show (⟨#[32, 0]⟩ : ByteArray).data.toList = [32, 0] from rfl]; have HB4 := Aside0.mk hb4; clear hb4))
        rw [Exit.noGoto_ret]
        go_ret2
        exact ⟨rfl, below_step (pw_below_drewN (Below.refl _ _) _) HB4.out⟩
      · rw [if_neg c5] at h
        simp only [Option.some.injEq, Prod.mk.injEq] at h
        obtain ⟨hv, rfl⟩ := h
        have HV := Aside0.mk hv
        have d5 : decide ((0 : Int) < (((Lib.trimS (Lib.bytesOf (rr.drop m)) [32, 0]).length : Nat) : Int)) = false := decide_eq_false (by omega)
        have d6 : decide (0 < (Lib.trimS (Lib.bytesOf (rr.drop m)) [32, 0]).length) = false := decide_eq_false (by omega)
        clear hv c5
        go_enter Tryd.func69, Tryd.ntmps69
        go_wp2
        go_step3
        go_wp2_with (first
          | (go_at_call 92; (with_reducible refine (numf_isWidth.calls _ true _ HW.out).mono ?_); rintro e w' ⟨rfl, ⟨nd, rfl⟩⟩)
          | (go_at_call 63; (with_reducible refine (bytes_TrimLeft_one' _ _ c0 l0 32 _ (by decide) rfl ?side1 HC.out).mono ?_); (case side1 => repeat (first | exact HR.out | (with_reducible refine Kd.C_drewN ?_ _))); rintro e w2 ⟨⟨A2, c2, rfl, h1, h2⟩, hw2⟩; rw [show (((32 : UInt8).toNat : Nat) : Int) = 32 from rfl, ← HRR.out] at h1 h2; rw [show (((32 : UInt8).toNat : Nat) : Int) = 32 from rfl, ← HRR.out]; subst hw2; have H1 := Aside0.mk h1; have H2 := Aside0.mk h2; clear h1 h2; obtain ⟨A3, hs3, ht3, hl3⟩ := HD.out A2 c2 H1.out; rw [Int.toNat_natCast] at hs3 ht3 hl3; have HL3 := Aside0.mk hl3; have HB3 := Aside0.mk (tail_bytes H2.out (ht3 _ (Kd.reads_of_C (enc := Value.int .u8) (d := (0 : Int)) (h1 := fun _ => rfl) H2.out)) HRG.out); clear ht3 hl3)
          | (go_at_call 93; (with_reducible refine (numf_digits_any A2 _ c2 rr _ rfl H2.out H1.out).mono ?_); rintro e w3 ⟨rfl, hw3⟩; subst hw3; rw [← HM.out])
          | (go_at_call 94; (with_reducible refine (bytes_Trim_set A3 _ (c2 - m) (Lib.bytesOf (rr.drop m)) ⟨#[32, 0]⟩ _ (by rw [Lib.bytesOf_length, List.length_drop]) HB3.out (by have := H1.out; omega) (by omega) (by decide) (by decide) ascii2).mono ?_); rintro e w4 ⟨⟨A4, c4, rfl⟩, hb4⟩; rw [show (⟨#[32, 0]⟩ : ByteArray).data.toList = [32, 0] from rfl]; have HB4 := Aside0.mk hb4; clear hb4))
        have H5 := Aside0.mk (Kd.C_below H2.out HB4.out)
        go_loop [4, 41] (fun n i => ∃ k : Nat, k ≤ m ∧ i = .int .i64 k ∧ n = .int .i64 (octVal 0 (rr.take k))) (fun _ i => m - (intOf i).toNat)
        case atStart => exact ⟨0, Nat.zero_le _, rfl, by rw [List.take_zero]; rfl⟩
        case round =>
          obtain ⟨k, hk, rfl, rfl⟩ := hrel
          by_cases hlt : k < m
          · obtain ⟨b2, off2, hA2, hcell2⟩ := C_at H5.out k (by omega)
            have hx := HOM.out rr[k] (by rw [List.mem_take_iff_getElem]; exact ⟨k, by omega, rfl⟩)
            have hsn := Aside0.mk (show octVal 0 (rr.take (k + 1)) = Go.bits .or .i64 (wrap64 (octVal 0 (rr.take k) * 8)) (rr[k] - 48) by rw [List.take_succ_eq_append_getElem (by omega), octVal_snoc])
            generalize rr[k] = x at *
            generalize octVal 0 (rr.take k) = acc at *
            subst hA2
            go_wp2
            go_round
            case rel => exact ⟨k + 1, by omega, by go_num, by rw [hsn.out]⟩
            case measure => simp [intOf]; omega
          · have hkk : k = m := by omega
            have HV2 := Aside0.mk (show octVal 0 (rr.take k) = r1 by rw [hkk]; exact HV.out)
            clear hkk
            go_wp2
            try rw [Exit.noGoto_ret]
            go_ret2
            exact ⟨by rw [HV2.out]; rfl, below_step (pw_below_drewN (Below.refl _ _) _) HB4.out⟩
end Go.Proofs.YtpjanlpjjemenaaDoor.Hand
