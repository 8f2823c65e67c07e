/- Contract, by hand, of strings.ContainsAny at two ASCII bytes or more, at any text. -/
import Derived.Test.YthjljkdiglpbaaaDoorHStr
import Derived.Laws.RangeAny
import Derived.Shelf.Strings.IndexAny
import Derived.Shelf.Strings.IndexAnyAll
import Derived.Lib.RuneCountTail
import Derived.Lib.QuoteLoop
import Derived.Lib.IndexAny
import Derived.Lib.TrimU
import Derived.WalkMore
import Derived.ScopeJumps
namespace Go.Proofs.YthjljkdiglpbaaaDoor.Hand
open Go.RowKit Go.Proofs.YthjljkdiglpbaaaDoorW.PrintWords Go.Proofs.YthjljkdiglpbaaaDoorW.PrintLast Go.Proofs.YthjljkdiglpbaaaDoorW.PrintMore
set_option linter.unusedVariables false
set_option linter.unusedSimpArgs false

theorem encode_tail (r : Int) (h : 128 ≤ r) : 2 ≤ (Utf8.encode r).size ∧ (Utf8.encode r).size ≤ 4 ∧ ∃ b : UInt8, (Utf8.encode r)[(Utf8.encode r).size - 1]? = some b ∧ 128 ≤ b.toNat := by
  have hb : ∀ x : Nat, 128 ≤ (UInt8.ofNat (128 + x % 64)).toNat := fun x => by
    rw [UInt8.toNat_ofNat']
    omega
  have hc : 128 ≤ (if Utf8.valid r then r.toNat else Utf8.runeError) := by
    unfold Utf8.runeError; split <;> omega
  unfold Utf8.encode
  simp only
  generalize (if Utf8.valid r then r.toNat else Utf8.runeError) = c at hc ⊢
  rw [if_neg (by omega)]
  split
  · exact ⟨show 2 ≤ 2 by omega, show 2 ≤ 4 by omega, _, rfl, hb c⟩
  · split
    · exact ⟨show 2 ≤ 3 by omega, show 3 ≤ 4 by omega, _, rfl, hb c⟩
    · exact ⟨show 2 ≤ 4 by omega, show 4 ≤ 4 by omega, _, rfl, hb c⟩

/-- What a rune behind ASCII is made of: bytes of 128 and more. -/
theorem decode_skip (s : ByteArray) (pos : Nat) (h : pos < s.size) (ha : 128 ≤ (s[pos]'h).toNat) (k : Nat) (hk : k < (Utf8.decode s pos).2) : pos + k < s.size ∧ 128 ≤ (s.get! (pos + k)).toNat := by
  have hn : ¬ (s[pos]'h).toNat < 128 := by omega
  have h0 : 128 ≤ (s.get! (pos + 0)).toNat := by rw [get_at s pos h]; exact ha
  have one : ∀ m : Nat, m < 1 → k = m → pos + k < s.size ∧ 128 ≤ (s.get! (pos + k)).toNat := by
    intro m hm e
    obtain rfl : k = 0 := by omega
    exact ⟨by omega, h0⟩
  have hcont : ∀ j : Nat, (decide (pos + j < s.size) && (s.get! (pos + j)).toNat / 64 == 2) = true → pos + j < s.size ∧ 128 ≤ (s.get! (pos + j)).toNat := by
    intro j hj
    rw [Bool.and_eq_true] at hj
    have h1 := of_decide_eq_true hj.1
    have h2 : (s.get! (pos + j)).toNat / 64 = 2 := by simpa using hj.2
    exact ⟨h1, by omega⟩
  simp only [Utf8.decode, get_at s pos h, hn, if_false] at hk
  split at hk
  · rename_i c
    rw [Bool.and_eq_true] at c
    have c1 := hcont 1 c.2
    split at hk
    · simp only at hk
      have : k = 0 ∨ k = 1 := by omega
      rcases this with rfl | rfl
      · exact ⟨by omega, h0⟩
      · exact c1
    · exact one k (by simpa using hk) rfl
  · split at hk
    · rename_i c
      rw [Bool.and_eq_true, Bool.and_eq_true] at c
      have c1 := hcont 1 c.1.2
      have c2 := hcont 2 c.2
      split at hk
      · simp only at hk
        have : k = 0 ∨ k = 1 ∨ k = 2 := by omega
        rcases this with rfl | rfl | rfl
        · exact ⟨by omega, h0⟩
        · exact c1
        · exact c2
      · exact one k (by simpa using hk) rfl
    · split at hk
      · rename_i c
        rw [Bool.and_eq_true, Bool.and_eq_true, Bool.and_eq_true] at c
        have c1 := hcont 1 c.1.1.2
        have c2 := hcont 2 c.1.2
        have c3 := hcont 3 c.2
        split at hk
        · simp only at hk
          have : k = 0 ∨ k = 1 ∨ k = 2 ∨ k = 3 := by omega
          rcases this with rfl | rfl | rfl | rfl
          · exact ⟨by omega, h0⟩
          · exact c1
          · exact c2
          · exact c3
        · exact one k (by simpa using hk) rfl
      · exact one k (by simpa using hk) rfl

set_option maxHeartbeats 4000000 in
set_option maxRecDepth 1000000 in
theorem strings_IndexRune_high (t : ByteArray) (r : Int) (w : World) (h0 : 128 ≤ r) (h1 : r ≠ 65533) (h2 : Lib.validRune r = true) (hs : t.size < 4294967281) (hascii : ∀ (j : Nat) b, t.data.toList[j]? = some b → b.toNat < 128) :
    Calls Tryd.prog 85 #[.string t, .int .i32 r] w fun e w' => e = .returned (.int .i64 (-1)) ∧ Drawn0 w w' := by
  obtain ⟨e2, e4, b, eb, eb2⟩ := encode_tail r h0
  obtain ⟨rs, hrs⟩ : ∃ rs, Utf8.encode r = rs := ⟨_, rfl⟩
  rw [hrs] at e2 e4 eb
  obtain ⟨m, hm⟩ : ∃ m, rs.size = m + 1 := ⟨rs.size - 1, by omega⟩
  have hmr : m < rs.size := by omega
  have hmri : (m : Int) < (rs.size : Int) := by omega
  rw [show rs.size - 1 = m by omega, getElem?_pos rs _ hmr] at eb
  have hw1 : IntKind.i64.wrap ((rs.size : Int) - 1) = (m : Int) := by
    have := IntWalk.i64_in ((rs.size : Int) - 1) (by omega)
    omega
  obtain ⟨y, hy⟩ : ∃ y : UInt8, rs[m]'hmr = y := ⟨_, rfl⟩
  have hy8 : 128 ≤ y.toNat := by
    rw [hy] at eb
    cases eb
    exact eb2
  have HS := Aside0.mk hm
  clear hm e2 e4
  have HA := Aside0.mk hascii
  clear hascii eb eb2
  have b0 : decide ((0 : Int) ≤ r) = true := decide_eq_true (by omega)
  have b1 : decide (r < 128) = false := decide_eq_false (by omega)
  have b2 : (r == 65533) = false := beq_eq_false_iff_ne.2 h1
  go_enter Tryd.func85, Tryd.ntmps85
  go_wp2_with (go_at_call 108; refine (Tryd.utf8_ValidRune r w).mono ?_; rintro e w' ⟨rfl, rfl⟩; rw [h2])
  go_step3
  go_wp2
  go_loopg [9] 1 (fun g v wx => v = .int .i64 (m : Int) ∧ wx = w')
  case atStart => exact ⟨rfl, rfl⟩
  case round =>
    obtain ⟨rfl, rfl⟩ := hrel
    by_cases c1 : m < t.size
    · have c2 : (m : Int) < (t.size : Int) := by omega
      obtain ⟨x, hx⟩ : ∃ x : UInt8, t[m]'c1 = x := ⟨_, rfl⟩
      have hx8 : x.toNat < 128 := HA.out m x (by rw [← hx]; exact Lib.data_getElem? t m c1)
      have hne : ((x.toNat : Int) != (y.toNat : Int)) = true := bne_iff_ne.2 (by omega)
      have hno : Lib.indexByte (t.extract (m + 1) t.size).data.toList y = -1 := by
        have h1 := Lib.indexByte_ge (t.extract (m + 1) t.size).data.toList y
        have h2 : ¬ 0 ≤ Lib.indexByte (t.extract (m + 1) t.size).data.toList y := fun h => by
          have h3 := Lib.contains_iff_indexByte (t.extract (m + 1) t.size).data.toList y
          rw [decide_eq_true h] at h3
          have h4 : y ∈ (t.extract (m + 1) t.size).data.toList := by simpa using h3
          rw [Lib.extract_data] at h4
          have h5 := List.mem_of_mem_drop (List.mem_of_mem_take h4)
          obtain ⟨j, hj, e⟩ := List.getElem_of_mem h5
          have := HA.out j y (by rw [List.getElem?_eq_getElem hj, e])
          omega
        omega
      have hI : ∀ (W : World) n, Calls Tryd.prog 107 #[.string (t.extract (m + 1) t.size), .int .u8 (y.toNat : Int)] (W.drewN n) (fun e w' => e = .returned (.int .i64 (-1)) ∧ ∃ k, w' = (W.drewN n).drewN k) := fun W n => (Tryd.strings_IndexByte (t.extract (m + 1) t.size) (y.toNat : Int) (W.drewN n)).mono fun e w' h => ⟨by rw [h.1, show ((y.toNat : Int)).toNat.toUInt8 = y by simp, hno], 0, h.2⟩
      have HQ := Aside0.mk hI
      clear hI
      clear hno
      have hw2 : IntKind.i64.wrap ((m : Int) + 1) = (m : Int) + 1 := IntWalk.i64_in ((m : Int) + 1) (by omega)
      have q0 : (0 : Int) ≤ (m : Int) + 1 := by omega
      have q1 : (m : Int) + 1 ≤ (t.size : Int) := by omega
      have q2 : ((m : Int) + 1).toNat = m + 1 := by omega
      go_wp2
      go_step3
      go_wp2
      go_quiet (fail)
      have hwq : Aside0 (Drawn0 wr (wr.drewN nq)) := ⟨⟨nq, rfl⟩⟩
      generalize wr.drewN nq = wq at hwq ⊢
      go_wp2
      go_quiet ((go_at_call 107; exact Calls.quiet_of (HQ.out _ _)))
      go_wp2
      repeat rw [Exit.noGoto_ret]
      simp only [Exit.inBlock, Exit.then, Exit.noGoto]
      go_ret
      exact ⟨rfl, Drawn0.step hwq.out _⟩
    · have c2 : ¬ (m : Int) < (t.size : Int) := by omega
      go_wp2
      go_ret
      exact ⟨rfl, Drawn0.refl _⟩

set_option maxHeartbeats 4000000 in
set_option maxRecDepth 1000000 in
theorem strings_IndexRune_err (t : ByteArray) (w : World) (hascii : ∀ (j : Nat) b, t.data.toList[j]? = some b → b.toNat < 128) :
    Calls Tryd.prog 85 #[.string t, .int .i32 65533] w fun e w' => e = .returned (.int .i64 (-1)) ∧ Below w.heap.size w w' := by
  have HA := Aside0.mk hascii
  clear hascii
  go_enter Tryd.func85, Tryd.ntmps85
  go_wp2
  go_loopg [5, 6] t.size (fun g _ _ wx => ∃ i : Nat, i + g = t.size ∧ wx = w.iter t i)
  case atStart => exact ⟨0, by omega, rfl⟩
  case round =>
    obtain ⟨i, hig, rfl⟩ := hrel
    cases gk with
    | zero =>
      obtain rfl : i = t.size := by omega
      have hnx := run_next_end (P := Tryd.prog) w t t.size
      go_wp2
      go_ret
      exact ⟨rfl, (Below.refl _ _).alloc (Nat.le_refl _) _⟩
    | succ g =>
      have hi : i < t.size := by omega
      obtain ⟨x, hx⟩ : ∃ x : UInt8, t[i]'hi = x := ⟨_, rfl⟩
      have hx8 : x.toNat < 128 := HA.out i x (by rw [← hx]; exact Lib.data_getElem? t i hi)
      have hnx := fun ty => run_next_ascii (P := Tryd.prog) w t i ty hi (by rw [hx]; exact hx8)
      rw [hx] at hnx
      have hne : ((x.toNat : Int) == 65533) = false := beq_eq_false_iff_ne.2 (by omega)
      go_wp2
      go_roundg g
      case measure => omega
      case rel => exact ⟨i + 1, by omega, rfl⟩

/-- At ASCII text: a rune behind ASCII is none of it. -/
theorem strings_IndexRune_any (t : ByteArray) (r : Int) (w : World) (h0 : 0 ≤ r) (h2 : Lib.validRune r = true) (hs : t.size < 4294967281) (hascii : ∀ (j : Nat) b, t.data.toList[j]? = some b → b.toNat < 128) :
    Calls Tryd.prog 85 #[.string t, .int .i32 r] w fun e w' => e = .returned (.int .i64 (if r < 128 then Lib.indexByte t.data.toList r.toNat.toUInt8 else -1)) ∧ Below w.heap.size w w' := by
  by_cases h1 : r < 128
  · rw [if_pos h1]
    exact (Tryd.strings_IndexRune_ascii t r w h0 h1).mono fun e w' h => ⟨h.1, by rw [h.2]; exact Below.refl _ _⟩
  · rw [if_neg h1]
    by_cases h3 : r = 65533
    · subst h3
      exact strings_IndexRune_err t w hascii
    · exact (strings_IndexRune_high t r w (by omega) h3 h2 hs hascii).mono fun e w' h => ⟨h.1, h.2.below⟩

/-- An iterator over a text, in a block of its own. -/
def setIter (w : World) (g : Nat) (s : ByteArray) (p : Nat) : World := { w with heap := w.heap.setIfInBounds g (.stringIter s p) }
theorem run_next_at (P : Program) (W : World) (g : Nat) (s : ByteArray) (pos : Nat) (ty : TypeId) (hg : W.heap[g]? = some (.stringIter s pos)) (h : pos < s.size) :
    (Instr.next (.pointer (some ⟨g, 0, none⟩)) true ty).run P W = .ok (.tuple #[.bool true, .int .i64 pos, .int .i32 (Utf8.decode s pos).1]) (setIter W g s (pos + (Utf8.decode s pos).2)) := by
  simp only [Instr.next, getObj, setObj, Sem.run_bind, Sem.run, hg, Result.andThen, h, if_true, setIter]
  simp [goInt]
theorem run_next_stop (P : Program) (W : World) (g : Nat) (s : ByteArray) (pos : Nat) (ty : TypeId) (hg : W.heap[g]? = some (.stringIter s pos)) (h : ¬ pos < s.size) :
    (Instr.next (.pointer (some ⟨g, 0, none⟩)) true ty).run P W = .ok (.tuple #[.bool false]) W := by
  simp [Instr.next, getObj, Sem.run, hg, h]
theorem setIter_at (W : World) (g : Nat) (s : ByteArray) (p : Nat) (h : g < W.heap.size) : (setIter W g s p).heap[g]? = some (.stringIter s p) := by
  simp [setIter, h]
theorem setIter_size (W : World) (g : Nat) (s : ByteArray) (p : Nat) : (setIter W g s p).heap.size = W.heap.size := by
  simp [setIter]
theorem setIter_below {w W : World} (g : Nat) (s : ByteArray) (p : Nat) (h : Below w.heap.size w W) (hg : w.heap.size ≤ g) : Below w.heap.size w (setIter W g s p) :=
  h.trans ⟨rfl, rfl, rfl, by rw [setIter_size]; exact Nat.le_refl _, fun k hk => by simp only [setIter]; rw [Array.getElem?_setIfInBounds, if_neg (by omega)]⟩
theorem decode_width (s : ByteArray) (pos : Nat) (h : pos < s.size) : 1 ≤ (Utf8.decode s pos).2 := Lib.width_pos s pos
theorem rune_ok (s : ByteArray) (pos : Nat) : Lib.validRune ((Utf8.decode s pos).1 : Int) = true := by
  have := Lib.rune_valid (s.extract pos s.size)
  rw [Lib.tail_decode] at this
  simpa using this

/-- No byte of the text ahead of the place is one of the set. -/
theorem noAny_skip {s chars : ByteArray} {i : Nat} (h : Lib.NoAny s.data.toList chars.data.toList i) (hi : i < s.size) (hx : 128 ≤ (s[i]'hi).toNat) (hascii : ∀ (j : Nat) b, chars.data.toList[j]? = some b → b.toNat < 128) : Lib.NoAny s.data.toList chars.data.toList (i + (Utf8.decode s i).2) := by
  intro j b hj hb
  by_cases hji : j < i
  · exact h j b hji hb
  · have := decode_skip s i hi hx (j - i) (by omega)
    rw [show i + (j - i) = j by omega] at this
    have hb2 : s.get! j = b := by
      have h1 := Lib.data_getElem? s j this.1
      rw [hb] at h1
      have h2 : s.get! j = s[j]'this.1 := by simp [ByteArray.get!, getElem!_pos, this.1]; rfl
      rw [h2]; exact (Option.some.inj h1).symm
    rw [hb2] at this
    cases hc : chars.data.toList.contains b
    · rfl
    · have hm : b ∈ chars.data.toList := by simpa using hc
      obtain ⟨k, hk, e⟩ := List.getElem_of_mem hm
      have := hascii k b (by rw [List.getElem?_eq_getElem hk, e])
      omega

set_option maxHeartbeats 8000000 in
set_option maxRecDepth 1000000 in
theorem strings_IndexAny_few (s chars : ByteArray) (w : World) (h2 : 2 ≤ chars.size) (h8 : s.size ≤ 8) (hcs : chars.size < 4294967281) (hascii : ∀ (j : Nat) b, chars.data.toList[j]? = some b → b.toNat < 128) :
    Calls Tryd.prog 63 #[.string s, .string chars] w fun e w' => e = .returned (.int .i64 (Lib.indexAny s.data.toList chars.data.toList)) ∧ Below w.heap.size w w' := by
  have HA := Aside0.mk hascii
  clear hascii
  have hemp : chars.toList.isEmpty = false := by
    rw [Lib.toList_data]
    cases h : chars.data.toList with
    | nil => have := Lib.size_eq chars; rw [h, List.length_nil] at this; omega
    | cons _ _ => rfl
  have hn1 : ((chars.size : Int) == 1) = false := beq_eq_false_iff_ne.2 (by omega)
  have h8z : decide ((8 : Int) < (s.size : Int)) = false := decide_eq_false (by omega)
  have HU := Aside0.mk (Any.strings_shouldUseASCIISet { Tryd.lays153 with } (s.size : Int) w)
  go_enter Tryd.func63, Tryd.ntmps63
  go_wp2_with (go_at_call 86; (refine HU.out.mono ?_); rintro e w' ⟨rfl, hw⟩; rw [hw, h8z])
  clear HU
  go_loopg [9, 10] s.size (fun g _ _ wx => ∃ i : Nat, i + g = s.size ∧ Aside0 (wx.heap[w.heap.size]? = some (.stringIter s i)) ∧ Aside0 (Below w.heap.size w wx) ∧ Aside0 (Lib.NoAny s.data.toList chars.data.toList i))
  case atStart => exact ⟨0, by omega, ⟨World.iter_heap _ _ _⟩, ⟨(Below.refl _ _).alloc (Nat.le_refl _) _⟩, ⟨Lib.NoAny.zero _ _⟩⟩
  case round =>
    obtain ⟨i, hig, hit, hbl, hno⟩ := hrel
    cases gk with
    | zero =>
      obtain rfl : i = s.size := by omega
      have hnx := fun ty => run_next_stop Tryd.prog wr w.heap.size s s.size ty hit.out (Nat.lt_irrefl _)
      go_wp2
      go_ret
      exact ⟨by rw [Lib.indexAny_none (by rw [← Lib.size_eq]; exact hno.out)]; rfl, hbl.out⟩
    | succ g =>
      have hi : i < s.size := by omega
      have hlt : w.heap.size < wr.heap.size := by
        rcases Nat.lt_or_ge w.heap.size wr.heap.size with h | h
        · exact h
        · have := hit.out; rw [Array.getElem?_eq_none h] at this; cases this
      have hnx := fun ty => run_next_at Tryd.prog wr w.heap.size s i ty hit.out hi
      have hwd := decode_width s i hi
      have hro := rune_ok s i
      have HR := Aside0.mk (fun W => strings_IndexRune_any chars ((Utf8.decode s i).1 : Int) W (by omega) hro hcs HA.out)
      have hit2 := Aside0.mk (setIter_at wr w.heap.size s (i + (Utf8.decode s i).2) hlt)
      have hsz2 := Aside0.mk (show w.heap.size < (setIter wr w.heap.size s (i + (Utf8.decode s i).2)).heap.size by rw [setIter_size]; exact hlt)
      have hb2 := Aside0.mk (setIter_below w.heap.size s (i + (Utf8.decode s i).2) hbl.out (Nat.le_refl _))
      obtain ⟨x, hx⟩ : ∃ x : UInt8, s[i]'hi = x := ⟨_, rfl⟩
      have Hx := Aside0.mk (show s.data.toList[i]? = some x by rw [← hx]; exact Lib.data_getElem? s i hi)
      have hcase : (x.toNat < 128 ∧ Utf8.decode s i = (x.toNat, 1)) ∨ (128 ≤ x.toNat ∧ 128 ≤ (Utf8.decode s i).1) := by
        rcases Nat.lt_or_ge x.toNat 128 with h | h
        · exact .inl ⟨h, by rw [decode_ascii s i hi (by rw [hx]; exact h), hx]⟩
        · exact .inr ⟨h, (decode_high s i hi (by rw [hx]; exact h)).1⟩
      have Hskip := Aside0.mk (fun h => noAny_skip hno.out hi (by rw [hx]; exact h) HA.out)
      have hsz1 : i + (Utf8.decode s i).2 ≤ s.size := by
        rcases hcase with ⟨_, e⟩ | ⟨h, _⟩
        · rw [e]; exact hi
        · have := decode_skip s i hi (by rw [hx]; exact h) ((Utf8.decode s i).2 - 1) (by omega)
          omega
      have HZ := Aside0.mk hsz1
      have HW := Aside0.mk hwd
      have HC := Aside0.mk hcase
      clear hcase hx hwd hro hsz1
      generalize Utf8.decode s i = dc at *
      obtain ⟨r, wd⟩ := dc
      obtain ⟨v, hv⟩ : ∃ v : Int, (if (r : Int) < 128 then Lib.indexByte chars.data.toList ((r : Int)).toNat.toUInt8 else -1) = v := ⟨_, rfl⟩
      have HV := Aside0.mk hv
      have HRV := Aside0.mk (fun W => (HR.out W).mono fun e w' h => (⟨by rw [h.1, hv], h.2⟩ : e = .returned (.int .i64 v) ∧ Below W.heap.size W w'))
      clear hv HR
      by_cases h0 : 0 ≤ v
      · have d0 : decide ((0 : Int) ≤ v) = true := decide_eq_true h0
        go_wp2_with (go_at_call 85; (refine (HRV.out _).mono ?_); rintro e w2 ⟨rfl, hb⟩; have HB2 := Aside0.mk hb; clear hb)
        go_ret
        have hc := HC.out
        have hv := HV.out
        rcases hc with ⟨h128, hr⟩ | ⟨_, hr⟩
        · simp only [Prod.mk.injEq] at hr
          rw [if_pos (by omega), hr.1, show ((x.toNat : Int)).toNat.toUInt8 = x by simp] at hv
          have hin : chars.data.toList.contains x = true := by rw [Lib.contains_iff_indexByte, hv, decide_eq_true h0]
          exact ⟨by rw [Lib.indexAny_hit hno.out Hx.out hin]; rfl, below_step hb2.out HB2.out⟩
        · have hr2 : 128 ≤ r := hr
          rw [if_neg (by omega)] at hv
          omega
      · have d0 : decide ((0 : Int) ≤ v) = false := decide_eq_false h0
        have HN2 : Aside0 (Lib.NoAny s.data.toList chars.data.toList (i + wd)) := ⟨by
          have hc := HC.out
          have hv := HV.out
          rcases hc with ⟨h128, hr⟩ | ⟨h128, hr⟩
          · simp only [Prod.mk.injEq] at hr
            rw [if_pos (by omega), hr.1, show ((x.toNat : Int)).toNat.toUInt8 = x by simp] at hv
            have hin : chars.data.toList.contains x = false := by rw [Lib.contains_iff_indexByte, hv, decide_eq_false h0]
            rw [hr.2]
            exact hno.out.succ Hx.out hin
          · exact Hskip.out h128⟩
        have hz : i + wd ≤ s.size := HZ.out
        have hw1 : 1 ≤ wd := HW.out
        go_wp2_with (go_at_call 85; (refine (HRV.out _).mono ?_); rintro e w2 ⟨rfl, hb⟩; have HB2 := Aside0.mk hb; clear hb)
        go_roundg (s.size - (i + wd))
        case measure => omega
        case rel => exact ⟨i + wd, by omega, ⟨by rw [HB2.out.block _ hsz2.out]; exact hit2.out⟩, ⟨below_step hb2.out HB2.out⟩, HN2⟩

theorem hv_sset : ∀ w, (zeroValue 135).run Tryd.prog w = .ok (.agg (Array.replicate 256 (.bool false))) w := by
  intro w; kernel_rfl
/-- strings.ContainsAny, the set being two ASCII bytes or more. -/
def strings_ContainsAny.f (s chars : ByteArray) : Option Bool :=
  if 2 ≤ chars.size ∧ chars.size < 4294967281 ∧ s.size < 4294967281 ∧ (chars.data.toList.all fun b => decide (b.toNat < 128)) = true then some (Lib.containsAny s.data.toList chars.data.toList) else none
set_option maxHeartbeats 4000000 in
set_option maxRecDepth 1000000 in
theorem strings_ContainsAny.calls (a0 a1 : ByteArray) (r : Bool) (w : World) (h : strings_ContainsAny.f a0 a1 = some r) :
    Calls Tryd.prog 38 #[.string a0, .string a1] w fun e w' => e = .returned (.bool r) ∧ Below w.heap.size w w' := by
  unfold strings_ContainsAny.f at h
  split at h
  case isFalse => cases h
  rename_i hc
  obtain ⟨h2, hcs, hs, hall⟩ := hc
  have hascii : ∀ (j : Nat) b, a1.data.toList[j]? = some b → b.toNat < 128 := fun j b hb => by
    have := List.all_eq_true.1 hall b (List.mem_of_getElem? hb)
    simpa using this
  have hI : ∀ W : World, Calls Tryd.prog 63 #[.string a0, .string a1] W fun e w' => e = .returned (.int .i64 (Lib.indexAny a0.data.toList a1.data.toList)) ∧ Below W.heap.size W w' := fun W => by
    by_cases h8 : a0.size ≤ 8
    · exact strings_IndexAny_few a0 a1 W h2 h8 hcs hascii
    · exact (Tryd.strings_IndexAny_long hv_sset a0 a1 W h2 (by omega) hs hcs hascii).mono fun e w' h => ⟨h.1, by rw [h.2]; exact ((Below.refl _ _).alloc (Nat.le_refl _) _).alloc (by simp) _⟩
  have HI := Aside0.mk hI
  have hr : decide (0 ≤ Lib.indexAny a0.data.toList a1.data.toList) = r := by
    simpa [Lib.containsAny] using h
  have HR := Aside0.mk hr
  clear hI hr h hall hascii
  generalize Lib.indexAny a0.data.toList a1.data.toList = v at *
  go_enter Tryd.func38, Tryd.ntmps38
  go_wp2_with (go_at_call 63; (refine (HI.out _).mono ?_); rintro e w2 ⟨rfl, hb⟩; have HB2 := Aside0.mk hb; clear hb)
  go_ret
  exact ⟨by rw [← HR.out]; rfl, HB2.out⟩
end Go.Proofs.YthjljkdiglpbaaaDoor.Hand
