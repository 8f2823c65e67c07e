/- 'for part := range strings.SplitSeq(s, sep)' at a separator of one byte: the iterator's contract, and a law for the caller. -/
import Derived.RangeFuncNested
import Derived.RangeFuncBound
import Derived.RangeFuncCalls
import Derived.RangeFuncLeaves
import Derived.Shelf.Abstract
import Derived.Shelf.RegionOpen
import Derived.WalkKit
import Derived.OwnWalkIn
import Derived.TacticsInMore
import Derived.LoopNIn
import Derived.LoopIn
import Derived.Test.YtpjanlpjjemenaaDoorHSplit2
import Derived.Test.YtpjanlpjjemenaaDoorHBytes
namespace Go.Proofs.YtpjanlpjjemenaaDoor.Hand
open Go.RowKit Go.Shelf Go.Proofs.YtpjanlpjjemenaaDoorW.PrintWords Go.Proofs.YtpjanlpjjemenaaDoorW.PrintLast
attribute [local go_sem] Oper.semAt_some
set_option linter.unusedVariables false
set_option linter.unusedSimpArgs false

/-- The pieces of a text between the bytes b. -/
def pieces (b : UInt8) (s : ByteArray) : List ByteArray := Lib.splitB ⟨#[b]⟩ 0 (Lib.countB s ⟨#[b]⟩) s
theorem pieces_miss (b : UInt8) (s : ByteArray) (h : Lib.indexByte s.data.toList b = -1) : pieces b s = [s] := by
  unfold pieces
  exact Lib.splitB_miss _ _ _ _ (by rw [indexB_one]; exact h)
theorem pieces_hit (b : UInt8) (s : ByteArray) (i : Nat) (h : Lib.indexByte s.data.toList b = i) : pieces b s = s.extract 0 i :: pieces b (s.extract (i + 1) s.size) := by
  unfold pieces
  have h1 : Lib.indexB s ⟨#[b]⟩ = i := by rw [indexB_one]; exact h
  rw [Lib.countB_hit s ⟨#[b]⟩ i (Nat.le_refl 1) h1, Nat.add_comm 1, Lib.splitB_hit _ _ _ _ _ h1]
  rfl
/-- How much is left, as the iterator's box tells it. -/
def leftOf (b2 : Nat) (W : World) : Nat := match W.cell? ⟨b2, 0, none⟩ with | some (.string s) => s.size | _ => 0
/-- What the iterator's own boxes hold. -/
structure Boxes (W : World) (b1 b2 b3 : Nat) (b : UInt8) (s : ByteArray) : Prop where
  c1 : W.cell? ⟨b1, 0, none⟩ = some (.string ⟨#[b]⟩)
  c2 : W.cell? ⟨b2, 0, none⟩ = some (.string s)
  f2 : W.frozen? ⟨b2, 0, none⟩ = false
  c3 : W.cell? ⟨b3, 0, none⟩ = some (.int .i64 0)
/-- The blocks that a round leaves alone. -/
def Same3 (W W' : World) (b1 b2 b3 : Nat) : Prop := W'.heap[b1]? = W.heap[b1]? ∧ W'.heap[b2]? = W.heap[b2]? ∧ W'.heap[b3]? = W.heap[b3]?

theorem cell_same {W W' : World} {k : Nat} (h : W'.heap[k]? = W.heap[k]?) (o : Nat) : W'.cell? ⟨k, o, none⟩ = W.cell? ⟨k, o, none⟩ ∧ W'.frozen? ⟨k, o, none⟩ = W.frozen? ⟨k, o, none⟩ := by
  unfold World.cell? World.frozen?
  simp only [h, and_self]
theorem Boxes.same {W W' : World} {b1 b2 b3 : Nat} {b : UInt8} {s : ByteArray} (h : Boxes W b1 b2 b3 b s) (k : Same3 W W' b1 b2 b3) : Boxes W' b1 b2 b3 b s :=
  ⟨(cell_same k.1 0).1.trans h.c1, (cell_same k.2.1 0).1.trans h.c2, (cell_same k.2.1 0).2.trans h.f2, (cell_same k.2.2 0).1.trans h.c3⟩
theorem Boxes.put {W : World} {b1 b2 b3 : Nat} {b : UInt8} {s : ByteArray} (h : Boxes W b1 b2 b3 b s) (h12 : b1 ≠ b2) (h32 : b3 ≠ b2) (x : ByteArray) : Boxes (W.setCell ⟨b2, 0, none⟩ (.string x)) b1 b2 b3 b x :=
  ⟨(cell_same (Below.heap_setCell W _ _ b1 h12) 0).1.trans h.c1, World.cell?_setCell_same' _ _ _ (by rw [h.c2]; rfl), by rw [World.frozen?_setCell]; exact h.f2, (cell_same (Below.heap_setCell W _ _ b3 h32) 0).1.trans h.c3⟩
theorem Boxes.left {W : World} {b1 b2 b3 : Nat} {b : UInt8} {s : ByteArray} (h : Boxes W b1 b2 b3 b s) : leftOf b2 W = s.size := by
  unfold leftOf; rw [h.c2]

set_option maxHeartbeats 4000000 in
set_option maxRecDepth 1000000 in
theorem splitSeq_body (F : Fence) (n : Nat) (hF : F.fn 123) (hX : F.fn 65) (hro : F.round = none) (hn : 1 ≤ n) (hd : F.depth = none)
    (hIdx : ∀ (x : ByteArray) (c : UInt8) (m : Nat) (W : World), CallsIn F m Tryd.prog 65 #[.string x, .string ⟨#[c]⟩] W fun e w' => e = .returned (.int .i64 (Lib.indexByte x.data.toList c)) ∧ w' = W)
    (l b1 b2 b3 : Nat) (h12 : b1 ≠ b2) (h32 : b3 ≠ b2) (b : UInt8) (s : ByteArray) (hs : s.size < 4294967281) (I : Nat → World → Prop) (Ix : World → Prop)
    (hI : ∀ j W v, I j W → I j (W.setCell ⟨b2, 0, none⟩ v))
    (hY : ∀ j x W, (pieces b s)[j]? = some x → I j W → YieldAt F (n - 1) Tryd.prog l #[.string x] W fun e W' => (e = .returned (.bool true) ∧ I (j + 1) W' ∧ Same3 W W' b1 b2 b3) ∨ (e = .returned (.bool false) ∧ Ix W'))
    (W : World) (hb : Boxes W b1 b2 b3 b s) (h0 : I 0 W) :
    CallsIn F n Tryd.prog 123 #[.func (.yield l) #[] #[], .pointer (some ⟨b1, 0, none⟩), .pointer (some ⟨b2, 0, none⟩), .pointer (some ⟨b3, 0, none⟩)] W fun e W' => (∃ v, e = .returned v) ∧ (I (pieces b s).length W' ∨ Ix W') := by
  refine callsIn_of_wp Tryd.func123 rfl hF ?_ hro
  simp only [Tryd.ntmps123, List.size_toArray, List.length_cons, List.length_nil, Nat.reduceAdd, Nat.reduceSub, Array.replicate_succ, Array.replicate_zero, List.push_toArray, List.append_toArray, List.nil_append, List.cons_append]
  obtain ⟨hc1, hc2, hf2, hc3⟩ := hb
  gi_wp2
  gi_loopw [7] (fun v wr => ∃ (j : Nat) (rest : ByteArray), Aside0 (Boxes wr b1 b2 b3 b rest) ∧ Aside0 (I j wr) ∧ Aside0 ((pieces b s).drop j = pieces b rest) ∧ Aside0 (rest.size < 4294967281)) (fun v wr => leftOf b2 wr)
  case atStart => exact ⟨0, s, ⟨⟨hc1, hc2, hf2, hc3⟩⟩, ⟨h0⟩, ⟨rfl⟩, ⟨hs⟩⟩
  case round =>
    obtain ⟨j, rest, hbx, hij, hdr, hsz⟩ := hrel
    clear hc1 hc2 hf2 hc3 h0
    obtain ⟨hc1, hc2, hf2, hc3⟩ := hbx.out
    have hge := Lib.indexByte_ge rest.data.toList b
    by_cases hm : Lib.indexByte rest.data.toList b = -1
    · have hp := pieces_miss b rest hm
      have hjx : (pieces b s)[j]? = some rest := by
        have := hdr.out
        rw [hp] at this
        rw [show j = j + 0 from rfl, ← List.getElem?_drop, this]; rfl
      have hjl : (pieces b s).length = j + 1 := by
        have := congrArg List.length (hdr.out.trans hp)
        rw [List.length_drop] at this
        simp at this
        omega
      obtain ⟨fn, tmps, assign, body, hy, hR⟩ := hY j rest wr hjx hij.out
      gi_wp2_with (gi_at_call 65; refine (hIdx rest b _ _).mono ?_; rintro e w' ⟨rfl, rfl⟩; rw [hm])
      refine hR.mono ?_
      rintro e W3 (⟨rfl, hJ3, hk3⟩ | ⟨rfl, hJx3⟩)
      · gi_wp2
        go_end0
        exact ⟨⟨_, rfl⟩, .inl (by rw [hjl]; exact hJ3)⟩
      · gi_wp2
        go_end0
        exact ⟨⟨_, rfl⟩, .inr hJx3⟩
    · obtain ⟨i, hi⟩ := Int.eq_ofNat_of_zero_le (show 0 ≤ Lib.indexByte rest.data.toList b by omega)
      have hp := pieces_hit b rest i hi
      have hroom : i < rest.size := by
        have := indexByte_lt rest.data.toList b
        rw [hi, ← Lib.size_eq] at this
        omega
      have hjx : (pieces b s)[j]? = some (rest.extract 0 i) := by
        have := hdr.out
        rw [hp] at this
        rw [show j = j + 0 from rfl, ← List.getElem?_drop, this]; rfl
      have hdr2 : (pieces b s).drop (j + 1) = pieces b (rest.extract (i + 1) rest.size) := by
        have := congrArg (List.drop 1) (hdr.out.trans hp)
        rw [List.drop_drop] at this
        exact this
      have hsz1 := hsz.out
      obtain ⟨fn, tmps, assign, body, hy, hR⟩ := hY j (rest.extract 0 i) wr hjx hij.out
      have hlt0 : ¬ ((i : Int) < 0) := by omega
      have c1 : (0 : Int) ≤ (i : Int) := by omega
      have c2 : (i : Int) ≤ (rest.size : Int) := by omega
      gi_wp2_with (gi_at_call 65; refine (hIdx rest b _ _).mono ?_; rintro e w' ⟨rfl, rfl⟩; rw [hi])
      refine hR.mono ?_
      rintro e W3 (⟨rfl, hJ3, hk3⟩ | ⟨rfl, hJx3⟩)
      · have hb3 := hbx.out.same hk3
        have hb4 := Aside0.mk (hb3.put h12 h32 (rest.extract (i + 1) rest.size))
        have hj4 := Aside0.mk (hI _ _ (.string (rest.extract (i + 1) rest.size)) hJ3)
        have hl3 := Aside0.mk hb3.left
        have hl0 := Aside0.mk hbx.out.left
        obtain ⟨hd1, hd2, hg2, hd3⟩ := hb3
        clear hc1 hc2 hf2 hc3 hk3 hJ3 hbx hij
        have hw2 : IntKind.i64.wrap ((i : Int) + 1) = (i : Int) + 1 := IntWalk.i64_in ((i : Int) + 1) (by omega)
        have q0 : (0 : Int) ≤ (i : Int) + 1 := by omega
        have q1 : (i : Int) + 1 ≤ (rest.size : Int) := by omega
        have q2 : ((i : Int) + 1).toNat = i + 1 := by omega
        gi_wp2
        go_roundw
        case rel => exact ⟨j + 1, _, hb4, hj4, ⟨hdr2⟩, ⟨by rw [ByteArray.size_extract]; omega⟩⟩
        case measure => rw [hb4.out.left, hl0.out, ByteArray.size_extract]; omega
      · gi_wp2
        refine bodyPost_ret (results_none rfl _ _ _) rfl ?_
        exact ⟨⟨_, rfl⟩, .inr hJx3⟩

/-- What a round leaves alone: the loop's own two blocks, and the iterator's boxes. -/
def KeepB (B : Nat) (W W' : World) (b1 b2 b3 : Nat) : Prop := W'.heap[B]? = W.heap[B]? ∧ W'.heap[B + 1]? = W.heap[B + 1]? ∧ Same3 W W' b1 b2 b3
/-- How a round may be left. -/
def roundWay (B b1 b2 b3 : Nat) (U : Nat → World → Prop) (Ux : Code → World → Prop) (j : Nat) (W : World) : Exit → Act → World → Prop
  | .normal, _, W' => KeepB B W W' b1 b2 b3 ∧ U (j + 1) W'
  | .ret, _, W' => KeepB B W W' b1 b2 b3 ∧ Ux .ret W'
  | .exit id, _, W' => KeepB B W W' b1 b2 b3 ∧ Ux (.exit id) W'
  | .goto t, _, W' => KeepB B W W' b1 b2 b3 ∧ Ux (.goto t) W'
  | .panic _, _, _ => False
  | .outgrown, _, _ => False
theorem same3_put {W : World} {b1 b2 b3 k : Nat} {o : Obj} (h1 : b1 ≠ k) (h2 : b2 ≠ k) (h3 : b3 ≠ k) : Same3 W (W.putObj k o) b1 b2 b3 :=
  ⟨World.putObj_heap_other h1, World.putObj_heap_other h2, World.putObj_heap_other h3⟩
theorem Same3.trans {A B C : World} {b1 b2 b3 : Nat} (h : Same3 A B b1 b2 b3) (k : Same3 B C b1 b2 b3) : Same3 A C b1 b2 b3 :=
  ⟨k.1.trans h.1, k.2.1.trans h.2.1, k.2.2.trans h.2.2⟩

set_option maxHeartbeats 4000000 in
/-- The statement 'for part := range strings.SplitSeq(s, sep) { body }', by what each round does. -/
theorem range_split {g : Operand} {p : Tmp} {assign body : Code} {Q : Exit → Act → World → Prop} {a : Act} {w : World} (n b1 b2 b3 : Nat) (hn : 2 ≤ n) (h12 : b1 ≠ b2) (h32 : b3 ≠ b2) (hl1 : b1 < w.heap.size) (hl2 : b2 < w.heap.size) (hl3 : b3 < w.heap.size) (b : UInt8) (s : ByteArray) (hs : s.size < 4294967281)
    (hg : a.eval g = .func (.func 123) #[] #[.pointer (some ⟨b1, 0, none⟩), .pointer (some ⟨b2, 0, none⟩), .pointer (some ⟨b3, 0, none⟩)])
    (hbx : Boxes w b1 b2 b3 b s) (U : Nat → World → Prop) (Ux : Code → World → Prop)
    (hU : ∀ j W v, U j W → U j (W.setCell ⟨b2, 0, none⟩ v)) (hUa : ∀ j W o, U j W → U j (W.alloc o))
    (hUp : ∀ j W k o, w.heap.size ≤ k → k ≤ w.heap.size + 1 → U j W → U j (W.putObj k o)) (hXp : ∀ c W k o, w.heap.size ≤ k → k ≤ w.heap.size + 1 → Ux c W → Ux c (W.putObj k o)) (h0 : U 0 w) (a₁ : ByteArray → Act)
    (hassign : ∀ (l : Nat) (x : ByteArray) (W : World) (K : Act → World → Prop), K (a₁ x) W → assign.wpIn (Fence.wide.inRound l) (n - 1 - 1) Tryd.prog (Exit.then K (fun _ _ _ => False)) { tmps := (#[p].zip #[Value.string x]).foldl (fun t (p, v) => t.setIfInBounds p v) a.tmps, defers := [] } W)
    (hbody : ∀ (l j : Nat) (x : ByteArray) (W : World), (pieces b s)[j]? = some x → U j W → w.heap.size + 1 < W.heap.size → body.wpIn (Fence.wide.inRound l) (n - 1 - 1) Tryd.prog (roundWay w.heap.size b1 b2 b3 U Ux j W) (a₁ x) W)
    (hdone : ∀ (W : World), U (pieces b s).length W → W.heap[w.heap.size]? = some (.deferred (some [])) → Q .normal { a with defers := { target := .collected w.heap.size, args := #[] } :: a.defers } W)
    (hstop : ∀ (c : Code) (W : World), Ux c W → W.heap[w.heap.size]? = some (.deferred (some [])) → c.wpIn Fence.wide n Tryd.prog Q { a with defers := { target := .collected w.heap.size, args := #[] } :: a.defers } W) :
    (Code.rangeFunc g #[p] assign body).wpIn Fence.wide n Tryd.prog Q a w := by
  refine wpIn_rangeFunc ?_
  intro fn hfn
  let rec_ : LoopState → Option Code → Loop := fun st pe => { state := st, pending := pe, fn, tmps := a.tmps, params := #[p], assign, body, defers := w.heap.size }
  have hsz1 : (w.alloc (.deferred (some []))).heap.size = w.heap.size + 1 := by simp
  let W1 := (w.alloc (.deferred (some []))).alloc (.loop (rec_ .ready none))
  have hL1 : W1.heap[w.heap.size + 1]? = some (.loop (rec_ .ready none)) := by
    have := World.alloc_heap_new (w.alloc (.deferred (some []))) (.loop (rec_ .ready none)); rwa [hsz1] at this
  have hK1 : W1.heap[w.heap.size]? = some (.deferred (some [])) := (Below.heap_alloc _ _ _ (by simp)).trans (World.alloc_heap_new w _)
  have hold : ∀ k, k < w.heap.size → W1.heap[k]? = w.heap[k]? := fun k hk => (Below.heap_alloc _ _ _ (by simp; omega)).trans (Below.heap_alloc _ _ _ hk)
  have hbx1 : Boxes W1 b1 b2 b3 b s := hbx.same ⟨hold _ hl1, hold _ hl2, hold _ hl3⟩
  refine ⟨w.heap.size + 1, [{ target := .collected w.heap.size, args := #[] }], W1, { target := .fn (.func 123) #[.pointer (some ⟨b1, 0, none⟩), .pointer (some ⟨b2, 0, none⟩), .pointer (some ⟨b3, 0, none⟩)], args := #[.func (.yield (w.heap.size + 1)) #[] #[]] }, W1, 123, #[.func (.yield (w.heap.size + 1)) #[] #[], .pointer (some ⟨b1, 0, none⟩), .pointer (some ⟨b2, 0, none⟩), .pointer (some ⟨b3, 0, none⟩)], W1, run_enterLoop_outer _ _ _ _ _, ?_, ?_, ?_, fun _ => by omega, ?_⟩
  · simp only [resolve, hg]
    simp [go_sem]
  · intro f' _; trivial
  · simp only [invoke]
    exact enters_of Tryd.func123 (by kernel_rfl) rfl _ _
  · have hput : ∀ (W : World) (o : Obj), W.heap[w.heap.size]? = some (.deferred (some [])) → (W.putObj (w.heap.size + 1) o).heap[w.heap.size]? = some (.deferred (some [])) := fun W o h => (World.putObj_heap_other (by omega)).trans h
    refine (splitSeq_body Fence.wide (n - 1) trivial trivial rfl (by omega) rfl (fun x c m W => callsIn_wide.2 (Tryd.strings_Index_one x c W)) (w.heap.size + 1) b1 b2 b3 h12 h32 b s hs
      (fun j W => U j W ∧ W.heap[w.heap.size + 1]? = some (.loop (rec_ .ready none)) ∧ W.heap[w.heap.size]? = some (.deferred (some [])))
      (fun W => ∃ c, Ux c W ∧ W.heap[w.heap.size + 1]? = some (.loop (rec_ .done (some c))) ∧ W.heap[w.heap.size]? = some (.deferred (some [])))
      ?_ ?_ W1 hbx1 ⟨hUa _ _ _ (hUa _ _ _ h0), hL1, hK1⟩).mono ?_
    · rintro j W v ⟨hu, hl, hk⟩
      exact ⟨hU _ _ _ hu, (Below.heap_setCell W _ _ _ (by simp only; omega)).trans hl, (Below.heap_setCell W _ _ _ (by simp only; omega)).trans hk⟩
    · rintro j x W hx ⟨hu, hl, hk⟩
      have hlt : w.heap.size + 1 < W.heap.size := (Array.getElem?_eq_some_iff.1 hl).1
      have hl2' : (W.putObj (w.heap.size + 1) (.loop (rec_ .busy none))).heap[w.heap.size + 1]? = some (.loop (rec_ .busy none)) := World.putObj_heap_same hlt
      refine ⟨fn, _, assign, body, run_yield (P := Tryd.prog) (args := #[.string x]) hl rfl, roundIn_of_wpIn hfn ?_⟩
      refine hassign _ x W _ ⟨_, run_beginRound hl rfl, ?_⟩
      refine wpIn_mono (hbody _ j x _ hx (hUp _ _ _ _ (by omega) (by omega) hu) (by rw [World.putObj_size]; exact hlt)) ?_
      have fin : ∀ (jump : Option Code) (W3 : World), KeepB w.heap.size (W.putObj (w.heap.size + 1) (.loop (rec_ .busy none))) W3 b1 b2 b3 →
          (Instr.endRound (w.heap.size + 1) jump).run Tryd.prog W3 = .ok (.bool jump.isNone) (W3.putObj (w.heap.size + 1) (.loop (rec_ (if jump.isNone then .ready else .done) jump))) ∧
          (W3.putObj (w.heap.size + 1) (.loop (rec_ (if jump.isNone then .ready else .done) jump))).heap[w.heap.size + 1]? = some (.loop (rec_ (if jump.isNone then .ready else .done) jump)) ∧
          (W3.putObj (w.heap.size + 1) (.loop (rec_ (if jump.isNone then .ready else .done) jump))).heap[w.heap.size]? = some (.deferred (some [])) ∧
          Same3 W (W3.putObj (w.heap.size + 1) (.loop (rec_ (if jump.isNone then .ready else .done) jump))) b1 b2 b3 := by
        rintro jump W3 ⟨k1, k2, k3⟩
        have hl3 := k2.trans hl2'
        exact ⟨run_endRound jump hl3, World.putObj_heap_same (Array.getElem?_eq_some_iff.1 hl3).1, hput _ _ (k1.trans (hput _ _ hk)), ((same3_put (by omega) (by omega) (by omega)).trans k3).trans (same3_put (by omega) (by omega) (by omega))⟩
      rintro e a3 W3 hp
      cases e with
      | normal =>
        obtain ⟨hk3, hu3⟩ := hp
        obtain ⟨hr, hl4, hk4, hs4⟩ := fin none W3 hk3
        exact ⟨_, _, hr, .inl ⟨rfl, ⟨hUp _ _ _ _ (by omega) (by omega) hu3, hl4, hk4⟩, hs4⟩⟩
      | ret =>
        obtain ⟨hk3, hu3⟩ := hp
        obtain ⟨hr, hl4, hk4, hs4⟩ := fin (some .ret) W3 hk3
        exact ⟨_, _, hr, .inr ⟨rfl, .ret, hXp _ _ _ _ (by omega) (by omega) hu3, hl4, hk4⟩⟩
      | exit id =>
        obtain ⟨hk3, hu3⟩ := hp
        obtain ⟨hr, hl4, hk4, hs4⟩ := fin (some (.exit id)) W3 hk3
        exact ⟨_, _, hr, .inr ⟨rfl, .exit id, hXp _ _ _ _ (by omega) (by omega) hu3, hl4, hk4⟩⟩
      | goto t =>
        obtain ⟨hk3, hu3⟩ := hp
        obtain ⟨hr, hl4, hk4, hs4⟩ := fin (some (.goto t)) W3 hk3
        exact ⟨_, _, hr, .inr ⟨rfl, .goto t, hXp _ _ _ _ (by omega) (by omega) hu3, hl4, hk4⟩⟩
      | panic ch => exact hp.elim
      | outgrown => exact hp.elim
    · rintro e W2 ⟨⟨v, rfl⟩, (⟨hu, hl, hk⟩ | ⟨c, hu, hl, hk⟩)⟩
      · exact ⟨none, _, run_endLoop hl (show LoopState.ready ≠ LoopState.busy by decide), hdone _ (hUp _ _ _ _ (by omega) (by omega) hu) (hput _ _ hk)⟩
      · exact ⟨some c, _, run_endLoop hl (show LoopState.done ≠ LoopState.busy by decide), hstop c _ (hXp _ _ _ _ (by omega) (by omega) hu) (hput _ _ hk)⟩
end Go.Proofs.YtpjanlpjjemenaaDoor.Hand
