/- recs.Find ('for _, r := range slices.Backward(l)'): the iterator's contract, a law for the caller's statement, and the function's contract. -/
import Derived.RangeFuncNested
import Derived.RangeFuncBound
import Derived.RangeFuncCalls
import Derived.RangeFuncLeaves
import Derived.RangeFuncBox
import Derived.Shelf.Abstract
import Derived.Shelf.RegionOpen
import Derived.WalkKit
import Derived.OwnWalkIn
import Derived.TacticsInMore
import Derived.LoopNIn
import Derived.LoopIn
import Derived.Test.YthjljkdiglpbaaaDoorF0base
import Derived.Test.YthjljkdiglpbaaaDoorHWords
namespace Go.Proofs.YthjljkdiglpbaaaDoor.Hand
open Go.RowKit Go.Shelf Go.Proofs.YthjljkdiglpbaaaDoorW Go.Proofs.YthjljkdiglpbaaaDoor.P Go.Proofs.YthjljkdiglpbaaaDoorW.PrintWords Go.Proofs.YthjljkdiglpbaaaDoorW.PrintLast
attribute [local go_sem] Oper.semAt_some
set_option linter.unusedVariables false
set_option linter.unusedSimpArgs false

abbrev S := S45
abbrev kS : Kd S := k45
abbrev rdS (xs : List S) (i : Int) : S := rd_T45 xs i
def backM : Value → Nat
  | .int _ i => (i + 1).toNat
  | _ => 0
set_option maxHeartbeats 4000000 in
set_option maxRecDepth 1000000 in
theorem back_body (F : Fence) (n : Nat) (hF : F.fn 61) (hro : F.round = none) (hn : 1 ≤ n) (hd : F.depth = none)
    (l b1 : Nat) (A : Option Addr) (c : Nat) (xs : List S) (hlen : xs.length ≤ 4611686018427387904) (I : Nat → World → Prop) (Ix : World → Prop)
    (hI : ∀ m W, I m W → W.cell? ⟨b1, 0, none⟩ = some (.slice A xs.length c) ∧ Kd.C kS W A xs.length xs)
    (hY : ∀ m W, m < xs.length → I (m + 1) W → YieldAt F (n - 1) Tryd.prog l #[.int .i64 m, .agg #[.string (rdS xs m).f0, .string (rdS xs m).f1]] W fun e W' => (e = .returned (.bool true) ∧ I m W') ∨ (e = .returned (.bool false) ∧ Ix W'))
    (W : World) (h0 : I xs.length W) :
    CallsIn F n Tryd.prog 61 #[.func (.yield l) #[] #[], .pointer (some ⟨b1, 0, none⟩)] W fun e W' => (∃ v, e = .returned v) ∧ (I 0 W' ∨ Ix W') := by
  have hu := Tryd.underlying45
  refine callsIn_of_wp Tryd.func61 rfl hF ?_ hro
  simp only [Tryd.ntmps61, List.size_toArray, List.length_cons, List.length_nil, Nat.reduceAdd, Nat.reduceSub, Array.replicate_succ, Array.replicate_zero, List.push_toArray, List.append_toArray, List.nil_append, List.cons_append]
  obtain ⟨hc1, hr1⟩ := hI _ _ h0
  have hr1' := Aside0.mk hr1
  clear hr1
  have hw0 : IntKind.i64.wrap ((xs.length : Int) - 1) = (xs.length : Int) - 1 := IntWalk.i64_in _ (by omega)
  gi_wp2
  gi_loopw [3] (fun v wr => ∃ m : Nat, v = .int .i64 ((m : Int) - 1) ∧ Aside0 (m ≤ xs.length) ∧ Aside0 (I m wr)) (fun v wr => backM v)
  case atStart => exact ⟨xs.length, rfl, ⟨Nat.le_refl _⟩, ⟨h0⟩⟩
  case round =>
    obtain ⟨m, rfl, hm, hi⟩ := hrel
    clear hc1 hr1' h0
    obtain ⟨hc1, hr1⟩ := hI _ _ hi.out
    have hr1' := Aside0.mk hr1
    clear hr1
    cases m with
    | zero =>
      have d1 : decide ((0 : Int) ≤ ((0 : Nat) : Int) - 1) = false := by decide
      gi_wp2
      go_end0
      exact ⟨⟨_, rfl⟩, .inl hi.out⟩
    | succ m =>
      have hml := hm.out
      have e1 : (((m + 1 : Nat) : Int) - 1) = (m : Int) := by omega
      simp only [e1] at *
      have d1 : decide ((0 : Int) ≤ (m : Int)) = true := decide_eq_true (by omega)
      have p1 : (0 : Int) ≤ (m : Int) := by omega
      have q1 : (m : Int) < (xs.length : Int) := by omega
      have q2 : m < xs.length := by omega
      obtain ⟨ad, ead, hx0, hx1⟩ := at_T45 hr1'.out m p1 (by omega)
      subst ead
      rw [Int.toNat_natCast] at hx0 hx1
      obtain ⟨fn, tmps, assign, body, hy, hR⟩ := hY m wr q2 hi.out
      have hw1 : IntKind.i64.wrap ((m : Int) - 1) = (m : Int) - 1 := IntWalk.i64_in _ (by omega)
      gi_wp2
      refine hR.mono ?_
      rintro e W3 (⟨rfl, hJ3⟩ | ⟨rfl, hJx3⟩)
      · clear hc1 hr1'
        gi_wp2
        go_roundw
        case rel => exact ⟨m, rfl, ⟨by omega⟩, ⟨hJ3⟩⟩
        case measure => simp only [backM]; omega
      · gi_wp2
        refine bodyPost_ret (results_none rfl _ _ _) rfl ?_
        exact ⟨⟨_, rfl⟩, .inr hJx3⟩

def KeepB2 (B : Nat) (W W' : World) : Prop := W'.heap[B]? = W.heap[B]? ∧ W'.heap[B + 1]? = W.heap[B + 1]?
def roundWay2 (B : Nat) (U : World → Prop) (Ux : Code → World → Prop) (W : World) : Exit → Act → World → Prop
  | .normal, _, W' => KeepB2 B W W' ∧ U W'
  | .ret, _, W' => KeepB2 B W W' ∧ Ux .ret W'
  | .exit id, _, W' => KeepB2 B W W' ∧ Ux (.exit id) W'
  | .goto t, _, W' => KeepB2 B W W' ∧ Ux (.goto t) W'
  | .panic _, _, _ => False
  | .outgrown, _, _ => False
def Rec1 (g : Nat) (x : S) (W : World) : Prop := W.heap[g]? = some (.cells #[.string x.f0, .string x.f1] 45 (0, 0))

set_option maxHeartbeats 4000000 in
/-- The statement 'for _, r := range slices.Backward(l) { body }', by what each round does. -/
theorem range_back {g : Operand} {p1 p2 : Tmp} {assign body : Code} {Q : Exit → Act → World → Prop} {a : Act} {w : World} (n b1 : Nat) (hn : 2 ≤ n) (A : Option Addr) (c : Nat) (xs : List S) (hlen : xs.length ≤ 4611686018427387904)
    (hg : a.eval g = .func (.func 61) #[] #[.pointer (some ⟨b1, 0, none⟩)])
    (U : Nat → World → Prop) (Ux : Code → World → Prop)
    (hUr : ∀ m W, U m W → W.cell? ⟨b1, 0, none⟩ = some (.slice A xs.length c) ∧ Kd.C kS W A xs.length xs)
    (hUb : ∀ m W W', Below W.heap.size W W' → U m W → U m W')
    (hUp : ∀ m W k o, w.heap.size ≤ k → k ≤ w.heap.size + 1 → U m W → U m (W.putObj k o)) (hXp : ∀ c W k o, w.heap.size ≤ k → k ≤ w.heap.size + 1 → Ux c W → Ux c (W.putObj k o)) (h0 : U xs.length w) (a₁ : Nat → Int → S → Act)
    (hassign : ∀ (l : Nat) (i : Int) (x : S) (W : World) (K : Act → World → Prop), (∀ W', Below W.heap.size W W' → Rec1 W.heap.size x W' → K (a₁ W.heap.size i x) W') → assign.wpIn (Fence.wide.inRound l) (n - 1 - 1) Tryd.prog (Exit.then K (fun _ _ _ => False)) { tmps := (#[p1, p2].zip #[Value.int .i64 i, Value.agg #[.string x.f0, .string x.f1]]).foldl (fun t (p, v) => t.setIfInBounds p v) a.tmps, defers := [] } W)
    (hbody : ∀ (l m g : Nat) (W : World), m < xs.length → U (m + 1) W → w.heap.size + 1 < g → Rec1 g (rdS xs m) W → body.wpIn (Fence.wide.inRound l) (n - 1 - 1) Tryd.prog (roundWay2 w.heap.size (U m) Ux W) (a₁ g m (rdS xs m)) W)
    (hdone : ∀ (W : World), U 0 W → W.heap[w.heap.size]? = some (.deferred (some [])) → Q .normal { a with defers := { target := .collected w.heap.size, args := #[] } :: a.defers } W)
    (hstop : ∀ (c : Code) (W : World), Ux c W → W.heap[w.heap.size]? = some (.deferred (some [])) → c.wpIn Fence.wide n Tryd.prog Q { a with defers := { target := .collected w.heap.size, args := #[] } :: a.defers } W) :
    (Code.rangeFunc g #[p1, p2] assign body).wpIn Fence.wide n Tryd.prog Q a w := by
  refine wpIn_rangeFunc ?_
  intro fn hfn
  let rec_ : LoopState → Option Code → Loop := fun st pe => { state := st, pending := pe, fn, tmps := a.tmps, params := #[p1, p2], assign, body, defers := w.heap.size }
  have hsz1 : (w.alloc (.deferred (some []))).heap.size = w.heap.size + 1 := by simp
  let W1 := (w.alloc (.deferred (some []))).alloc (.loop (rec_ .ready none))
  have hL1 : W1.heap[w.heap.size + 1]? = some (.loop (rec_ .ready none)) := by
    have := World.alloc_heap_new (w.alloc (.deferred (some []))) (.loop (rec_ .ready none)); rwa [hsz1] at this
  have hK1 : W1.heap[w.heap.size]? = some (.deferred (some [])) := (Below.heap_alloc _ _ _ (by simp)).trans (World.alloc_heap_new w _)
  have hb1 : Below w.heap.size w W1 := ((Below.refl w.heap.size w).alloc (Nat.le_refl _) _).alloc (by simp) _
  refine ⟨w.heap.size + 1, [{ target := .collected w.heap.size, args := #[] }], W1, { target := .fn (.func 61) #[.pointer (some ⟨b1, 0, none⟩)], args := #[.func (.yield (w.heap.size + 1)) #[] #[]] }, W1, 61, #[.func (.yield (w.heap.size + 1)) #[] #[], .pointer (some ⟨b1, 0, none⟩)], W1, run_enterLoop_outer _ _ _ _ _, ?_, ?_, ?_, fun _ => by omega, ?_⟩
  · simp only [resolve, hg]
    simp [go_sem]
  · intro f' _; trivial
  · simp only [invoke]
    exact enters_of Tryd.func61 (by kernel_rfl) rfl _ _
  · have hput : ∀ (W : World) (o : Obj), W.heap[w.heap.size]? = some (.deferred (some [])) → (W.putObj (w.heap.size + 1) o).heap[w.heap.size]? = some (.deferred (some [])) := fun W o h => (World.putObj_heap_other (by omega)).trans h
    refine (back_body Fence.wide (n - 1) trivial rfl (by omega) rfl (w.heap.size + 1) b1 A c xs hlen
      (fun m W => U m W ∧ W.heap[w.heap.size + 1]? = some (.loop (rec_ .ready none)) ∧ W.heap[w.heap.size]? = some (.deferred (some [])))
      (fun W => ∃ c, Ux c W ∧ W.heap[w.heap.size + 1]? = some (.loop (rec_ .done (some c))) ∧ W.heap[w.heap.size]? = some (.deferred (some [])))
      (fun m W h => hUr m W h.1) ?_ W1 ⟨hUb _ _ _ hb1 h0, hL1, hK1⟩).mono ?_
    · rintro m W hm ⟨hu, hl, hk⟩
      have hlt : w.heap.size + 1 < W.heap.size := (Array.getElem?_eq_some_iff.1 hl).1
      refine ⟨fn, _, assign, body, run_yield (P := Tryd.prog) (args := #[.int .i64 m, .agg #[.string (rdS xs m).f0, .string (rdS xs m).f1]]) hl rfl, roundIn_of_wpIn hfn ?_⟩
      refine hassign _ m (rdS xs m) W _ ?_
      intro Wa hba hga
      have hla : Wa.heap[w.heap.size + 1]? = some (.loop (rec_ .ready none)) := (hba.block _ hlt).trans hl
      have hka : Wa.heap[w.heap.size]? = some (.deferred (some [])) := (hba.block _ (by omega)).trans hk
      have hlta : w.heap.size + 1 < Wa.heap.size := (Array.getElem?_eq_some_iff.1 hla).1
      have hl2' : (Wa.putObj (w.heap.size + 1) (.loop (rec_ .busy none))).heap[w.heap.size + 1]? = some (.loop (rec_ .busy none)) := World.putObj_heap_same hlta
      refine ⟨_, run_beginRound hla rfl, ?_⟩
      refine wpIn_mono (hbody _ m W.heap.size _ hm (hUp _ _ _ _ (by omega) (by omega) (hUb _ _ _ hba hu)) (by omega) ((World.putObj_heap_other (by omega)).trans hga)) ?_
      have fin : ∀ (jump : Option Code) (W3 : World), KeepB2 w.heap.size (Wa.putObj (w.heap.size + 1) (.loop (rec_ .busy none))) W3 →
          (Instr.endRound (w.heap.size + 1) jump).run Tryd.prog W3 = .ok (.bool jump.isNone) (W3.putObj (w.heap.size + 1) (.loop (rec_ (if jump.isNone then .ready else .done) jump))) ∧
          (W3.putObj (w.heap.size + 1) (.loop (rec_ (if jump.isNone then .ready else .done) jump))).heap[w.heap.size + 1]? = some (.loop (rec_ (if jump.isNone then .ready else .done) jump)) ∧
          (W3.putObj (w.heap.size + 1) (.loop (rec_ (if jump.isNone then .ready else .done) jump))).heap[w.heap.size]? = some (.deferred (some [])) := by
        rintro jump W3 ⟨k1, k2⟩
        have hl3 := k2.trans hl2'
        exact ⟨run_endRound jump hl3, World.putObj_heap_same (Array.getElem?_eq_some_iff.1 hl3).1, hput _ _ (k1.trans (hput _ _ hka))⟩
      rintro e a3 W3 hp
      cases e with
      | normal =>
        obtain ⟨hk3, hu3⟩ := hp
        obtain ⟨hr, hl4, hk4⟩ := fin none W3 hk3
        exact ⟨_, _, hr, .inl ⟨rfl, hUp _ _ _ _ (by omega) (by omega) hu3, hl4, hk4⟩⟩
      | ret =>
        obtain ⟨hk3, hu3⟩ := hp
        obtain ⟨hr, hl4, hk4⟩ := fin (some .ret) W3 hk3
        exact ⟨_, _, hr, .inr ⟨rfl, .ret, hXp _ _ _ _ (by omega) (by omega) hu3, hl4, hk4⟩⟩
      | exit id =>
        obtain ⟨hk3, hu3⟩ := hp
        obtain ⟨hr, hl4, hk4⟩ := fin (some (.exit id)) W3 hk3
        exact ⟨_, _, hr, .inr ⟨rfl, .exit id, hXp _ _ _ _ (by omega) (by omega) hu3, hl4, hk4⟩⟩
      | goto t =>
        obtain ⟨hk3, hu3⟩ := hp
        obtain ⟨hr, hl4, hk4⟩ := fin (some (.goto t)) W3 hk3
        exact ⟨_, _, hr, .inr ⟨rfl, .goto t, hXp _ _ _ _ (by omega) (by omega) hu3, hl4, hk4⟩⟩
      | panic ch => exact hp.elim
      | outgrown => exact hp.elim
    · rintro e W2 ⟨⟨v, rfl⟩, (⟨hu, hl, hk⟩ | ⟨c, hu, hl, hk⟩)⟩
      · exact ⟨none, _, run_endLoop hl (show LoopState.ready ≠ LoopState.busy by decide), hdone _ (hUp _ _ _ _ (by omega) (by omega) hu) (hput _ _ hk)⟩
      · exact ⟨some c, _, run_endLoop hl (show LoopState.done ≠ LoopState.busy by decide), hstop c _ (hXp _ _ _ _ (by omega) (by omega) hu) (hput _ _ hk)⟩

/-- The last record of that key among the first m. -/
def lastOf (xs : List S) (key : ByteArray) : Nat → ByteArray × Bool
  | 0 => (⟨#[]⟩, false)
  | m + 1 => if (rdS xs m).f0.toList = key.toList then ((rdS xs m).f1, true) else lastOf xs key m
def recs_Find.f (l0 : List S) (a1 : ByteArray) : Option (ByteArray × Bool) :=
  if l0.length ≤ 4611686018427387904 then some (lastOf l0 a1 l0.length) else none

theorem bx_keep {W W' : World} {B k : Nat} {t : TypeId} {v : Value} (h : Boxed W B t v) (hg : W.grownBy W' (some k)) (hk : B ≠ k) : Boxed W' B t v := h.kept hg (fun e => hk (Option.some.inj e))
def HeldF (B : Nat) (w : World) (A : Option Addr) (c : Nat) (xs : List S) (key : ByteArray) (r : ByteArray × Bool) (m : Nat) (W : World) : Prop :=
  Boxed W B 9 (.string key) ∧ Boxed W (B + 1) 9 (.string ⟨#[]⟩) ∧ Boxed W (B + 2) 4 (.bool false) ∧ Boxed W (B + 3) 24 (.slice A xs.length c) ∧ Below B w W ∧ lastOf xs key m = r
def LeftF (B : Nat) (w : World) (r : ByteArray × Bool) (c : Code) (W : World) : Prop :=
  c = .ret ∧ Boxed W (B + 1) 9 (.string r.1) ∧ Boxed W (B + 2) 4 (.bool r.2) ∧ Below B w W
theorem find_results (tmps : Array Value) (W : World) (B : Nat) (s : ByteArray) (b : Bool) (h4 : tmps[4]?.getD undef = .pointer (some ⟨B + 1, 0, none⟩)) (h5 : tmps[5]?.getD undef = .pointer (some ⟨B + 2, 0, none⟩)) (hS : W.cell? ⟨B + 1, 0, none⟩ = some (.string s)) (hb : W.cell? ⟨B + 2, 0, none⟩ = some (.bool b)) :
    (results Tryd.f16 tmps).run Tryd.prog W = .ok (.tuple #[.string s, .bool b]) W := by
  have hr : Tryd.f16.results = #[.cell 4 9, .cell 5 4] := rfl
  simp only [results, hr]
  simp [Sem.run_bind, Result.andThen, h4, h5]
  go_simp
  try simp [hS, hb]

theorem back_made (A : Option Addr) (n c : Nat) (w : World) :
    CallsIn Fence.wide 2 Tryd.prog 34 #[.slice A n c] w fun e w' => e = .returned (.func (.func 61) #[] #[.pointer (some ⟨w.heap.size, 0, none⟩)]) ∧ w' = w.alloc (.cells #[.slice A n c] 24) := by
  refine callsIn_wide.2 ?_
  go_enter Tryd.func34, Tryd.ntmps34
  go_wp2
  go_ret
  exact ⟨rfl, rfl⟩
theorem HeldF.keep {B k m : Nat} {w W W' : World} {A : Option Addr} {c : Nat} {xs : List S} {key : ByteArray} {r : ByteArray × Bool} (h : HeldF B w A c xs key r m W) (hg : W.grownBy W' (some k)) (h1 : B + 3 < k) : HeldF B w A c xs key r m W' := by
  obtain ⟨hK, hS, hO, hL, hb, hn⟩ := h
  exact ⟨bx_keep hK hg (by omega), bx_keep hS hg (by omega), bx_keep hO hg (by omega), bx_keep hL hg (by omega), hb.grown hg (Nat.le_of_lt hK.lt) (fun i e => by cases e; omega), hn⟩
theorem LeftF.keep {B k : Nat} {w W W' : World} {r : ByteArray × Bool} {c : Code} (h : LeftF B w r c W) (hg : W.grownBy W' (some k)) (h1 : B + 3 < k) : LeftF B w r c W' := by
  obtain ⟨hc, hS, hO, hb⟩ := h
  exact ⟨hc, bx_keep hS hg (by omega), bx_keep hO hg (by omega), hb.grown hg (by have := hS.lt; omega) (fun i e => by cases e; omega)⟩
theorem bx_below {W W' : World} {B : Nat} {t : TypeId} {v : Value} (h : Boxed W B t v) (hb : Below W.heap.size W W') : Boxed W' B t v := (hb.block B h.lt).trans h
theorem HeldF.below {B m : Nat} {w W W' : World} {A : Option Addr} {c : Nat} {xs : List S} {key : ByteArray} {r : ByteArray × Bool} (h : HeldF B w A c xs key r m W) (hb : Below W.heap.size W W') : HeldF B w A c xs key r m W' := by
  obtain ⟨hK, hS, hO, hL, hl, hn⟩ := h
  exact ⟨bx_below hK hb, bx_below hS hb, bx_below hO hb, bx_below hL hb, hl.trans (hb.mono (Nat.le_of_lt hK.lt)), hn⟩

set_option maxHeartbeats 4000000 in
set_option maxRecDepth 1000000 in
theorem recs_Find.calls (A0 : Option Addr) (c0 : Nat) (l0 : List S) (a1 r1 : ByteArray) (r2 : Bool) (w : World) (hr0 : Kd.C kS w A0 l0.length l0) (hc0 : l0.length ≤ c0) (h : recs_Find.f l0 a1 = some (r1, r2)) :
    Calls Tryd.prog 16 #[.slice A0 l0.length c0, .string a1] w fun e w' => e = .returned (.tuple #[.string r1, .bool r2]) ∧ Below w.heap.size w w' := by
  have hu := Tryd.underlying45
  unfold recs_Find.f at h
  split at h
  case isFalse => cases h
  rename_i hlen
  have hres := Aside0.mk (Option.some.inj h)
  have hr0' := Aside0.mk hr0
  clear h hr0
  refine (callsIn_wide (n := 3)).1 ?_
  refine callsIn_of_wp_marks Tryd.func16 rfl trivial ?_ rfl
  simp only [Tryd.ntmps16, List.size_toArray, List.length_cons, List.length_nil, Nat.reduceAdd, Nat.reduceSub, Array.replicate_succ, Array.replicate_zero, List.push_toArray, List.append_toArray, List.nil_append, List.cons_append]
  gi_wp2_with (refine ⟨trivial, ?_⟩; gi_at_call 34; refine (back_made _ _ _ _).mono ?_; rintro e w' ⟨rfl, rfl⟩)
  obtain ⟨B, hB⟩ : ∃ B, w.heap.size = B := ⟨_, rfl⟩
  have bK := Boxed.new w 9 (.string a1)
  have bS := Boxed.new (w.alloc (.cells #[.string a1] 9)) 9 (.string ⟨#[]⟩)
  have bO := Boxed.new ((w.alloc (.cells #[.string a1] 9)).alloc (.cells #[.string ⟨#[]⟩] 9)) 4 (.bool false)
  have bL := Boxed.new (((w.alloc (.cells #[.string a1] 9)).alloc (.cells #[.string ⟨#[]⟩] 9)).alloc (.cells #[.bool false] 4)) 24 (.slice A0 l0.length c0)
  have bK0 := ((bK.alloc (.cells #[.string ⟨#[]⟩] 9)).alloc (.cells #[.bool false] 4)).alloc (.cells #[.slice A0 l0.length c0] 24)
  have bS0 := (bS.alloc (.cells #[.bool false] 4)).alloc (.cells #[.slice A0 l0.length c0] 24)
  have bO0 := bO.alloc (.cells #[.slice A0 l0.length c0] 24)
  have hbel := ((((Below.refl w.heap.size w).alloc (Nat.le_refl _) (.cells #[.string a1] 9)).alloc (by simp) (.cells #[.string ⟨#[]⟩] 9)).alloc (by simp; omega) (.cells #[.bool false] 4)).alloc (by simp; omega) (.cells #[.slice A0 l0.length c0] 24)
  have hsz : ((((w.alloc (.cells #[.string a1] 9)).alloc (.cells #[.string ⟨#[]⟩] 9)).alloc (.cells #[.bool false] 4)).alloc (.cells #[.slice A0 l0.length c0] 24)).heap.size = B + 4 := by simp; omega
  simp only [World.size_alloc, hB] at bK0 bS0 bO0 bL hbel
  generalize ((((w.alloc (.cells #[.string a1] 9)).alloc (.cells #[.string ⟨#[]⟩] 9)).alloc (.cells #[.bool false] 4)).alloc (.cells #[.slice A0 l0.length c0] 24)) = W0 at *
  rw [hB]
  clear bK bS bO
  have hrd : ∀ W, Below B w W → Kd.C kS W A0 l0.length l0 := fun W hb => Kd.C_below hr0'.out (by rw [hB]; exact hb)
  refine range_back 3 (B + 1 + 1 + 1) (by omega) A0 c0 l0 hlen rfl (HeldF B w A0 c0 l0 a1 (r1, r2)) (LeftF B w (r1, r2)) (fun m W h => ⟨h.2.2.2.1.cell, hrd W h.2.2.2.2.1⟩) (fun m W W' hb h => h.below hb)
    (fun m W k o h1 h2 h => h.keep (grownBy_putObj' W k o) (by omega)) (fun c W k o h1 h2 h => h.keep (grownBy_putObj' W k o) (by omega)) ⟨bK0, bS0, bO0, bL, hbel, hres.out⟩
    (fun g i x => { tmps := #[.slice A0 l0.length c0, .string a1, undef, .pointer (some ⟨B, 0, none⟩), .pointer (some ⟨B + 1, 0, none⟩), .pointer (some ⟨B + 1 + 1, 0, none⟩), undef, .pointer (some ⟨g, 0, none⟩), .slice A0 l0.length c0, .func (.func 61) #[] #[.pointer (some ⟨B + 1 + 1 + 1, 0, none⟩)], .int .i64 i, .agg #[.string x.f0, .string x.f1], undef, undef, undef, undef, undef, undef], defers := [] }) ?assign ?bo ?done ?stop
  case assign =>
    intro l i x W K hK
    gi_wp2
    refine hK _ ?_ ?_
    · exact (Below.refl W.heap.size W).alloc (Nat.le_refl _) _
    · exact World.alloc_heap_new W _
  case bo =>
    rintro l m g W hm ⟨hK, hS, hO, hL, hbl, hn⟩ hg hrec
    have hc0 := hrec
    have hx0 : W.cell? ⟨g, 0, none⟩ = some (.string (rdS l0 m).f0) := (blk_cell hrec 0).trans rfl
    have hx1 : W.cell? ⟨g, 1, none⟩ = some (.string (rdS l0 m).f1) := (blk_cell hrec 1).trans rfl
    have cK := hK.cell
    have cS := hS.cell
    have fS := hS.frozen
    have cO := hO.cell
    have fO := hO.frozen
    have hbl' := Aside0.mk hbl
    have hn' := Aside0.mk hn
    have hrec' := Aside0.mk hrec
    clear hbl hn hrec hc0
    rw [hsz] at hg ⊢
    by_cases ck : (rdS l0 m).f0.toList = a1.toList
    · have hn2 : ((rdS l0 m).f1, true) = (r1, r2) := by
        have := hn'.out
        unfold lastOf at this
        rw [if_pos ck] at this
        exact this
      obtain ⟨rfl, rfl⟩ := Prod.mk.inj hn2
      have d1 : ((rdS l0 m).f0.toList == a1.toList) = true := beq_iff_eq.2 ck
      gi_wp2
      have hlt1 := hO.lt
      have kp : ∀ k, k ≠ B + 1 → k ≠ B + 2 → ((W.setCell ⟨B + 1, 0, none⟩ (.string (rdS l0 m).f1)).setCell ⟨B + 1 + 1, 0, none⟩ (.bool true)).heap[k]? = W.heap[k]? := fun k h1 h2 => (Below.heap_setCell _ _ _ k h2).trans (Below.heap_setCell _ _ _ k h1)
      have hgr := grownBy_setCell' (W.setCell ⟨B + 1, 0, none⟩ (.string (rdS l0 m).f1)) (B + 1 + 1) (.bool true)
      have hgs := grownBy_setCell' W (B + 1) (.string (rdS l0 m).f1)
      refine ⟨⟨kp _ (by omega) (by omega), kp _ (by omega) (by omega)⟩, rfl, bx_keep (hS.set _) hgr (by omega), (bx_keep hO hgs (by omega)).set _, ?_⟩
      exact (hbl'.out.setCell (p := ⟨B + 1, 0, none⟩) (Nat.le_add_right _ _) _).setCell (p := ⟨B + 1 + 1, 0, none⟩) (by simp only; omega) _
    · have hn2 : lastOf l0 a1 m = (r1, r2) := by
        have := hn'.out
        unfold lastOf at this
        rw [if_neg ck] at this
        exact this
      have d1 : ((rdS l0 m).f0.toList == a1.toList) = false := beq_eq_false_iff_ne.2 ck
      have hn3 := Aside0.mk hn2
      clear hn2
      gi_wp2
      exact ⟨⟨rfl, rfl⟩, hK, hS, hO, hL, hbl'.out, hn3.out⟩
  case done =>
    rintro W ⟨hK, hS, hO, hL, hbl, hn⟩ hKd
    obtain ⟨rfl, rfl⟩ := Prod.mk.inj (show ((⟨#[]⟩ : ByteArray), false) = (r1, r2) from hn)
    have cS := hS.cell
    have fS := hS.frozen
    have cO := hO.cell
    have fO := hO.frozen
    have hbl' := Aside0.mk hbl
    clear hbl hn
    rw [hsz] at hKd ⊢
    gi_wp2
    have hgs := grownBy_setCell' W (B + 1) (.string ⟨#[]⟩)
    have hgr := grownBy_setCell' (W.setCell ⟨B + 1, 0, none⟩ (.string ⟨#[]⟩)) (B + 1 + 1) (.bool false)
    have hS2 := bx_keep (hS.set (.string ⟨#[]⟩)) hgr (by omega)
    have hO2 := (bx_keep hO hgs (by omega)).set (.bool false)
    have hb2 := (hbl'.out.setCell (p := ⟨B + 1, 0, none⟩) (Nat.le_add_right _ _) (.string ⟨#[]⟩)).setCell (p := ⟨B + 1 + 1, 0, none⟩) (by simp only; omega) (.bool false)
    have hK2 : ((W.setCell ⟨B + 1, 0, none⟩ (.string ⟨#[]⟩)).setCell ⟨B + 1 + 1, 0, none⟩ (.bool false)).heap[B + 4]? = some (.deferred (some [])) := ((Below.heap_setCell _ _ _ (B + 4) (by simp)).trans (Below.heap_setCell _ _ _ (B + 4) (by simp))).trans hKd
    refine ⟨by simp, .inl ⟨_, _, rfl, run_takeDeferred hK2, ?_⟩⟩
    have hgp := grownBy_putObj' ((W.setCell ⟨B + 1, 0, none⟩ (.string ⟨#[]⟩)).setCell ⟨B + 1 + 1, 0, none⟩ (.bool false)) (B + 4) (.deferred none)
    have hltk : B + 4 < ((W.setCell ⟨B + 1, 0, none⟩ (.string ⟨#[]⟩)).setCell ⟨B + 1 + 1, 0, none⟩ (.bool false)).heap.size := (Array.getElem?_eq_some_iff.1 hK2).1
    refine ⟨_, find_results _ _ B ⟨#[]⟩ false rfl rfl (bx_keep hS2 hgp (by omega)).cell (bx_keep hO2 hgp (by omega)).cell, rfl, ?_⟩
    try rw [hB]
    exact hb2.grown hgp (by omega) (fun i e => by cases e; omega)
  case stop =>
    rintro c W ⟨rfl, hS, hO, hbl⟩ hKd
    have hbl' := Aside0.mk hbl
    clear hbl
    rw [hsz] at hKd ⊢
    gi_wp2
    refine ⟨by simp, .inl ⟨_, _, rfl, run_takeDeferred hKd, ?_⟩⟩
    have hgr := grownBy_putObj' W (B + 4) (.deferred none)
    have hltk : B + 4 < W.heap.size := (Array.getElem?_eq_some_iff.1 hKd).1
    refine ⟨_, find_results _ _ B r1 r2 rfl rfl (bx_keep hS hgr (by omega)).cell (bx_keep hO hgr (by omega)).cell, rfl, ?_⟩
    try rw [hB]
    exact hbl'.out.grown hgr (by omega) (fun i e => by cases e; omega)
end Go.Proofs.YthjljkdiglpbaaaDoor.Hand
