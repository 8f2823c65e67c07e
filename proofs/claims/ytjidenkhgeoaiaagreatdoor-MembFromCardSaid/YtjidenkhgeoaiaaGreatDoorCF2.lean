import Derived.Test.YtjidenkhgeoaiaaGreatDoorCF1
import Derived.Test.YtjidenkhgeoaiaaGreatDoorProg
import Derived.Lib.BufferWrite
import Derived.Ground.SlbvProg
import Derived.Shelf.Bytes.SlTrimWalks
import Derived.Shelf.Small.Utf8
import Derived.Shelf.Small.Strs
import Derived.Shelf.Strconv.Itoa0
import Derived.Shelf.Strconv.Itoa1
import Derived.Shelf.LaysM
import Derived.Shelf.Strconv.Itoa2
import Derived.Shelf.Strconv.Itoa3
import Derived.Shelf.Strings.Search1
import Derived.Shelf.Strings.Search2
import Derived.Shelf.Strings.Search3
import Derived.Shelf.Strings.Shaped
import Derived.Shelf.Strconv.AppendUint10
import Derived.Shelf.Strconv.AppendInt10
import Derived.Shelf.Strconv.AppendIntPublic10
import Derived.Shelf.Strings.Runes
import Derived.Shelf.Strings.IndexAny
import Derived.Shelf.Strings.AsciiSet
import Derived.Shelf.Strings.IndexAnyAll
import Derived.Shelf.Unicode.DecodeSlow
import Derived.Shelf.Unicode.DecodeAny
import Derived.Shelf.Bytes.SlIndexSmall
import Derived.Shelf.Bytes.SlIndexAt
import Derived.Shelf.Bytes.SlSearch0
import Derived.Shelf.Bytes.SlSearch1
import Derived.Shelf.Bytes.SlSearch2
import Derived.Shelf.Bytes.SlIndexWhole
import Derived.Ground.SlbCloneProg
import Derived.Shelf.Bytes.SlClone
import Derived.Shelf.Bytes.SlSmallAll
import Derived.Shelf.Bytes.SlEqualAll
import Derived.Ground.SlbtProg
import Derived.Shelf.Bytes.SlCut
import Derived.Shelf.Bytes.Small
import Derived.Shelf.Bytes.IndexByte
import Derived.Outline
import Derived.Shelf.Strings.SplitCore
import Derived.Lib.SplitLaws
import Derived.Lib.IndexBytes
import Derived.Shelf.Bytes.SlCountOne
import Derived.Lib.SlBytesConst
import Derived.RangeFuncNested
import Derived.RangeFuncBound
import Derived.RangeFuncCalls
import Derived.RangeFuncLeaves
import Derived.Shelf.Abstract
import Derived.Shelf.RegionOpen
import Derived.OwnWalkIn
import Derived.TacticsInMore
import Derived.LoopNIn
import Derived.LoopIn
import Derived.Laws.RangeAny
import Derived.Lib.RuneCountTail
import Derived.Lib.QuoteLoop
import Derived.Lib.IndexAny
import Derived.Lib.TrimU
import Derived.WalkMore
import Derived.ScopeJumps
import Derived.RangeFuncBox
import Derived.Shelf.Strings.LastIndex
import Derived.Shelf.Strings.Prefix
-- Written by xprint.py (a program of this session's, over the kit's printer) out of the translation. Not trusted: Lean checks it.
namespace Go.Proofs.YtjidenkhgeoaiaaGreatDoor.Hand
end Go.Proofs.YtjidenkhgeoaiaaGreatDoor.Hand
namespace Go.Proofs.YtjidenkhgeoaiaaGreatDoor.P
open Go.RowKit Go.Proofs.YtjidenkhgeoaiaaGreatDoorW.PrintWords Go.Proofs.YtjidenkhgeoaiaaGreatDoorW.PrintLast Go.Proofs.YtjidenkhgeoaiaaGreatDoorW.PrintMore Go.Proofs.YtjidenkhgeoaiaaGreatDoor.Hand
attribute [local go_sem] max2_int min2_int max_two min_two max_three min_three max_four min_four   -- for this text's walks alone
set_option linter.unusedVariables false
set_option linter.unusedSimpArgs false



def errW : Option Int → Value
  | none => .nilIface
  | some c => .iface 0 (.int .i64 c)
theorem errW_none : errW none = .nilIface := rfl
theorem errW_some (c : Int) : errW (some c) = .iface 0 (.int .i64 c) := rfl

theorem info5 : (Tryz.prog.info? 5).map (fun i => (i.zero, i.size, i.bytes)) = some (some (.int .u8 0), 1, 1) := by kernel_rfl
theorem info9 : (Tryz.prog.info? 9).map (fun i => (i.zero, i.size, i.bytes)) = some (some (.string ⟨#[]⟩), 1, 16) := by kernel_rfl
theorem info35 : (Tryz.prog.info? 35).map (fun i => (i.zero, i.size, i.bytes)) = some (some (.agg #[(.string ⟨#[]⟩), (.string ⟨#[]⟩)]), 2, 32) := by kernel_rfl
-- the values' own types
/-! #### struct type 35 -/
structure S35 where
  f0 : ByteArray
  f1 : ByteArray
def z35 : S35 := ⟨(⟨#[]⟩ : ByteArray), (⟨#[]⟩ : ByteArray)⟩
def k35 : Kd S35 := Kd.iso (Kd.pair Kd.string Kd.string) (fun x : S35 => (x.f0, x.f1))
theorem k35_open {w : World} {x : S35} {cs : List Value} (h : k35.K w x cs) : cs = [.string x.f0, .string x.f1] := by
  obtain ⟨_, _, rfl, rfl, rfl⟩ := h
  exact rfl
theorem k35_mkM (w : World) (base : Nat) (ok : Nat → Prop) (x : S35)  : k35.M w base ok x [.string x.f0, .string x.f1] := ⟨[.string x.f0], [.string x.f1], rfl, rfl, rfl⟩
def rd_T35 (xs : List S35) (i : Int) : S35 := xs.getD i.toNat z35
theorem at_T35 {w : World} {A : Option Addr} {n : Nat} {xs : List S35} (h : Kd.C k35 w A n xs) (i : Int) (h0 : 0 ≤ i) (h1 : i < n) : ∃ ad , A = some ad ∧ w.cell? (ad.add (i.toNat * 2)) = some (.string (rd_T35 xs i).f0) ∧ w.cell? ⟨(ad.add (i.toNat * 2)).block, (ad.add (i.toNat * 2)).off + 1, none⟩ = some (.string (rd_T35 xs i).f1) := by
  obtain ⟨ad, c, e, _, hK, hc0⟩ := Kd.C_get h z35 i h0 h1
  have hc : ∀ j u, c[j]? = some u → w.cell? (ad.add (i.toNat * 2 + j)) = some u := hc0
  obtain rfl := k35_open hK
  exact ⟨ad, e, hc 0 _ rfl, by rw [← add_field _ _ 1 (by omega)]; exact hc 1 _ rfl⟩

/-! #### struct type 34 -/
structure S34 where
  f0 : ByteArray
  f1 : ByteArray
def z34 : S34 := ⟨(⟨#[]⟩ : ByteArray), (⟨#[]⟩ : ByteArray)⟩
def k34 : Kd S34 := Kd.iso (Kd.pair Kd.string Kd.string) (fun x : S34 => (x.f0, x.f1))
theorem k34_open {w : World} {x : S34} {cs : List Value} (h : k34.K w x cs) : cs = [.string x.f0, .string x.f1] := by
  obtain ⟨_, _, rfl, rfl, rfl⟩ := h
  exact rfl
def rd_T34 (xs : List S34) (i : Int) : S34 := xs.getD i.toNat z34
theorem at_T34 {w : World} {A : Option Addr} {n : Nat} {xs : List S34} (h : Kd.C k34 w A n xs) (i : Int) (h0 : 0 ≤ i) (h1 : i < n) : ∃ ad , A = some ad ∧ w.cell? (ad.add (i.toNat * 2)) = some (.string (rd_T34 xs i).f0) ∧ w.cell? ⟨(ad.add (i.toNat * 2)).block, (ad.add (i.toNat * 2)).off + 1, none⟩ = some (.string (rd_T34 xs i).f1) := by
  obtain ⟨ad, c, e, _, hK, hc0⟩ := Kd.C_get h z34 i h0 h1
  have hc : ∀ j u, c[j]? = some u → w.cell? (ad.add (i.toNat * 2 + j)) = some u := hc0
  obtain rfl := k34_open hK
  exact ⟨ad, e, hc 0 _ rfl, by rw [← add_field _ _ 1 (by omega)]; exact hc 1 _ rfl⟩

theorem blk_all2 {w : World} {g : Nat} {t : TypeId} {a0 a1 : Value} (h : w.heap[g]? = some (.cells #[a0, a1] t (0, 0))) : w.cell? ⟨g, 0, none⟩ = some a0 ∧ w.cell? ⟨g, 1, none⟩ = some a1 ∧ w.frozen? ⟨g, 0, none⟩ = false ∧ w.frozen? ⟨g, 1, none⟩ = false :=
  ⟨(blk_cell h 0).trans rfl, (blk_cell h 1).trans rfl, blk_frozen h 0, blk_frozen h 1⟩
theorem blk_all4 {w : World} {g : Nat} {t : TypeId} {a0 a1 a2 a3 : Value} (h : w.heap[g]? = some (.cells #[a0, a1, a2, a3] t (0, 0))) : w.cell? ⟨g, 0, none⟩ = some a0 ∧ w.cell? ⟨g, 1, none⟩ = some a1 ∧ w.cell? ⟨g, 2, none⟩ = some a2 ∧ w.cell? ⟨g, 3, none⟩ = some a3 ∧ w.frozen? ⟨g, 0, none⟩ = false ∧ w.frozen? ⟨g, 1, none⟩ = false ∧ w.frozen? ⟨g, 2, none⟩ = false ∧ w.frozen? ⟨g, 3, none⟩ = false :=
  ⟨(blk_cell h 0).trans rfl, (blk_cell h 1).trans rfl, (blk_cell h 2).trans rfl, (blk_cell h 3).trans rfl, blk_frozen h 0, blk_frozen h 1, blk_frozen h 2, blk_frozen h 3⟩
theorem blk_all8 {w : World} {g : Nat} {t : TypeId} {a0 a1 a2 a3 a4 a5 a6 a7 : Value} (h : w.heap[g]? = some (.cells #[a0, a1, a2, a3, a4, a5, a6, a7] t (0, 0))) : w.cell? ⟨g, 0, none⟩ = some a0 ∧ w.cell? ⟨g, 1, none⟩ = some a1 ∧ w.cell? ⟨g, 2, none⟩ = some a2 ∧ w.cell? ⟨g, 3, none⟩ = some a3 ∧ w.cell? ⟨g, 4, none⟩ = some a4 ∧ w.cell? ⟨g, 5, none⟩ = some a5 ∧ w.cell? ⟨g, 6, none⟩ = some a6 ∧ w.cell? ⟨g, 7, none⟩ = some a7 ∧ w.frozen? ⟨g, 0, none⟩ = false ∧ w.frozen? ⟨g, 1, none⟩ = false ∧ w.frozen? ⟨g, 2, none⟩ = false ∧ w.frozen? ⟨g, 3, none⟩ = false ∧ w.frozen? ⟨g, 4, none⟩ = false ∧ w.frozen? ⟨g, 5, none⟩ = false ∧ w.frozen? ⟨g, 6, none⟩ = false ∧ w.frozen? ⟨g, 7, none⟩ = false :=
  ⟨(blk_cell h 0).trans rfl, (blk_cell h 1).trans rfl, (blk_cell h 2).trans rfl, (blk_cell h 3).trans rfl, (blk_cell h 4).trans rfl, (blk_cell h 5).trans rfl, (blk_cell h 6).trans rfl, (blk_cell h 7).trans rfl, blk_frozen h 0, blk_frozen h 1, blk_frozen h 2, blk_frozen h 3, blk_frozen h 4, blk_frozen h 5, blk_frozen h 6, blk_frozen h 7⟩
theorem blk_all9 {w : World} {g : Nat} {t : TypeId} {a0 a1 a2 a3 a4 a5 a6 a7 a8 : Value} (h : w.heap[g]? = some (.cells #[a0, a1, a2, a3, a4, a5, a6, a7, a8] t (0, 0))) : w.cell? ⟨g, 0, none⟩ = some a0 ∧ w.cell? ⟨g, 1, none⟩ = some a1 ∧ w.cell? ⟨g, 2, none⟩ = some a2 ∧ w.cell? ⟨g, 3, none⟩ = some a3 ∧ w.cell? ⟨g, 4, none⟩ = some a4 ∧ w.cell? ⟨g, 5, none⟩ = some a5 ∧ w.cell? ⟨g, 6, none⟩ = some a6 ∧ w.cell? ⟨g, 7, none⟩ = some a7 ∧ w.cell? ⟨g, 8, none⟩ = some a8 ∧ w.frozen? ⟨g, 0, none⟩ = false ∧ w.frozen? ⟨g, 1, none⟩ = false ∧ w.frozen? ⟨g, 2, none⟩ = false ∧ w.frozen? ⟨g, 3, none⟩ = false ∧ w.frozen? ⟨g, 4, none⟩ = false ∧ w.frozen? ⟨g, 5, none⟩ = false ∧ w.frozen? ⟨g, 6, none⟩ = false ∧ w.frozen? ⟨g, 7, none⟩ = false ∧ w.frozen? ⟨g, 8, none⟩ = false :=
  ⟨(blk_cell h 0).trans rfl, (blk_cell h 1).trans rfl, (blk_cell h 2).trans rfl, (blk_cell h 3).trans rfl, (blk_cell h 4).trans rfl, (blk_cell h 5).trans rfl, (blk_cell h 6).trans rfl, (blk_cell h 7).trans rfl, (blk_cell h 8).trans rfl, blk_frozen h 0, blk_frozen h 1, blk_frozen h 2, blk_frozen h 3, blk_frozen h 4, blk_frozen h 5, blk_frozen h 6, blk_frozen h 7, blk_frozen h 8⟩
section
variable {P : Program} {ops : Array Oper} {Q : Exit → Act → World → Prop} {md : Region.Mode} {S : World → Prop} {ds : List Nat} {T : Bool × List (List Nat × List Nat)}
theorem pureS_ (i N : Nat) {oi : Oper} {v : Value} {fuel : Nat} {l : Array Bool} {a a' : Act} {w : World} (h : wpAnyLast P md ops Q S ds fuel (l.setIfInBounds i true) a' w)
    (hi : ops[i]? = some oi := by rfl) (hN : oi.dst = some N := by rfl) (hc : anyB md ops l (l.setIfInBounds i true) i = true := by exact any_of HT_.out (by kernel_rfl)) (hQ : ∀ c a w, Q (.panic c) (a.put oi.dst v) w → Q (.panic c) a w := by exact fun _ _ _ h => h)
    (hy : Yields P ops oi v a := by exact Or.inl ⟨by rfl, by (intro w'; go_simp; with_reducible rfl)⟩) (ha : a.put (some N) v = a' := by (simp only [Act.put, List.setIfInBounds_toArray, List.set_cons_zero, List.set_cons_succ, i64_w, i32_w]; rfl)) : wpAnyLast P md ops Q S ds (fuel + 1) l a w := pure_ _ hi hN hc hQ hy ha h
theorem takeS_ (i N : Nat) {oi : Oper} {v : Value} {fuel : Nat} {l : Array Bool} {a a' : Act} {w : World} (h : wpAnyLast P md ops Q S ds fuel (l.setIfInBounds i true) a' w)
    (hi : ops[i]? = some oi := by rfl) (hN : oi.dst = some N := by rfl) (hc : takeB md ops ds l (l.setIfInBounds i true) i = true := by exact take_ofW HT_.out HW_.out (by kernel_rfl)) (hQ : ∀ c a w, Q (.panic c) (a.put oi.dst v) w → Q (.panic c) a w := by exact fun _ _ _ h => h)
    (hy : YieldsIf P ops S oi v a := by exact Or.inl ⟨by rfl, by (intro w' hs_; (repeat (obtain ⟨hs0_, hs_⟩ := hs_)); go_simp; with_reducible rfl)⟩) (hS : S w := by exact hHeld) (ha : a.put (some N) v = a' := by (simp only [Act.put, List.setIfInBounds_toArray, List.set_cons_zero, List.set_cons_succ, i64_w, i32_w]; rfl)) : wpAnyLast P md ops Q S ds (fuel + 1) l a w := take_ _ hi hN hc hQ hy hS ha h
theorem normS_ (N : Nat) {fuel : Nat} {l : Array Bool} {a a' : Act} {w : World} {v : Value} (h : wpAnyLast P md ops Q S ds fuel l a' w) (ha : a.put (some N) v = a' := by (simp only [Act.put, List.setIfInBounds_toArray, List.set_cons_zero, List.set_cons_succ, i64_w, i32_w]; rfl)) : wpAnyLast P md ops Q S ds fuel l (a.put (some N) v) w := norm_ ha h
end
section
variable {P : Program} {ops : Array Oper} {Q : Exit → Act → World → Prop} {rest : List Oper} {o : Oper} {a : Act}
theorem goesA_ {w : World} (N : Option Tmp) {f : FuncId} {fn : Func} {xs_ : Array Operand} {ts : Array TypeId} (hf : P.funcs[f]? = some fn) (args : Array Value) (h : Calls P f args w fun e w' => ∃ v, e = .returned v ∧ wpList P ops Q rest (a.put N v) w')
    (hd : o.dst = N := by rfl) (hg : o.guard = none := by rfl) (hname : (fn.name == "runtime.NumGoroutine") = false := by kernel_rfl) (hb : fn.body.isSome = true := by rfl)
    (hop : o.op = .call { callee := .value (.func f), args := xs_, argTypes := ts } := by rfl) (hargs : xs_.map a.eval = args := by ((try simp only [List.map_toArray, List.map_cons, List.map_nil]); first | done | rfl | (simp only [List.length_drop, List.length_take]; rfl))) : wpList P ops Q (o :: rest) a w :=
  goesL_ N hd hg hf hname hb args hop hargs h
theorem boxA_ {W : World} (N : Tmp) (t : TypeId) (cs : Array Value)
    (h : ∀ g, g = W.heap.size → ∀ w1, w1.heap[g]? = some (.cells cs t (0, 0)) → Below W.heap.size W w1 → wpList P ops Q rest (a.put o.dst (.pointer (some ⟨g, 0, none⟩))) w1)
    (hd : o.dst = some N := by rfl) (hg : o.guard = none := by rfl) (hr : (execOp a.eval o).run P W = .ok (.value (.pointer (some ⟨W.heap.size, 0, none⟩))) (W.alloc (.cells cs t (0, 0))) := by first | (go_simp; done) | (go_simp; rfl)) : wpList P ops Q (o :: rest) a W := box_event hg hd hr h
end
theorem belA_ {X : Prop} (h : X := by repeat (first | (with_reducible first | exact HB.out | apply below_alloc | apply pw_below_drewN | apply below_drew1 | refine below_set ?_ (Aside0.out (by assumption))) | exact HB.out)) : X := h
theorem bstep_ {w W w2 : World} (k : Below W.heap.size W w2) (h : Below w.heap.size w W := by repeat (first | (with_reducible first | exact HB.out | apply below_alloc | apply pw_below_drewN | apply below_drew1 | refine below_set ?_ (Aside0.out (by assumption))) | exact HB.out)) : Below w.heap.size w w2 := below_step h k
theorem bsize_ {w W : World} (h : Below w.heap.size w W := by repeat (first | (with_reducible first | exact HB.out | apply below_alloc | apply pw_below_drewN | apply below_drew1 | refine below_set ?_ (Aside0.out (by assumption))) | exact HB.out)) : w.heap.size ≤ W.heap.size := below_size h
theorem finA_ {A B : Prop} (hA : A := by first | rfl | (simp [errW_none, errW_some] <;> rfl) | (simp [*, errW_none, errW_some] <;> rfl)) (hB : B := by repeat (first | (with_reducible first | exact HB.out | apply below_alloc | apply pw_below_drewN | apply below_drew1 | refine below_set ?_ (Aside0.out (by assumption))) | exact HB.out)) : A ∧ B := ⟨hA, hB⟩
theorem blkB_ {w0 w w1 : World} {g : Nat} {o : Obj} (h : w0.heap[g]? = some o) (hb : Below w.heap.size w w1) (hx : w0.heap[g]? = some o → w.heap[g]? = some o := by (intro h_; (with_reducible repeat (first | refine blk_drewN ?_ _ | refine blk_drew ?_ | refine blk_alloc ?_ _)); exact h_)) : w1.heap[g]? = some o := blk_below (hx h) hb
theorem blkL_ {w0 w : World} {g : Nat} {o : Obj} (h : w0.heap[g]? = some o) (hx : w0.heap[g]? = some o → w.heap[g]? = some o := by (intro h_; (with_reducible repeat (first | refine blk_drewN ?_ _ | refine blk_drew ?_ | refine blk_alloc ?_ _)); exact h_)) : g < w.heap.size := blk_lt (hx h)

theorem blk_c8 {w : World} {g : Nat} {t : TypeId} {a0 a1 a2 a3 a4 a5 a6 a7 : Value} (h : w.heap[g]? = some (.cells #[a0, a1, a2, a3, a4, a5, a6, a7] t (0, 0))) : w.cell? ⟨g, 0, none⟩ = some a0 ∧ w.cell? ⟨g, 1, none⟩ = some a1 ∧ w.cell? ⟨g, 2, none⟩ = some a2 ∧ w.cell? ⟨g, 3, none⟩ = some a3 ∧ w.cell? ⟨g, 4, none⟩ = some a4 ∧ w.cell? ⟨g, 5, none⟩ = some a5 ∧ w.cell? ⟨g, 6, none⟩ = some a6 ∧ w.cell? ⟨g, 7, none⟩ = some a7 :=
  ⟨(blk_cell h 0).trans rfl, (blk_cell h 1).trans rfl, (blk_cell h 2).trans rfl, (blk_cell h 3).trans rfl, (blk_cell h 4).trans rfl, (blk_cell h 5).trans rfl, (blk_cell h 6).trans rfl, (blk_cell h 7).trans rfl⟩
theorem blk_c9 {w : World} {g : Nat} {t : TypeId} {a0 a1 a2 a3 a4 a5 a6 a7 a8 : Value} (h : w.heap[g]? = some (.cells #[a0, a1, a2, a3, a4, a5, a6, a7, a8] t (0, 0))) : w.cell? ⟨g, 0, none⟩ = some a0 ∧ w.cell? ⟨g, 1, none⟩ = some a1 ∧ w.cell? ⟨g, 2, none⟩ = some a2 ∧ w.cell? ⟨g, 3, none⟩ = some a3 ∧ w.cell? ⟨g, 4, none⟩ = some a4 ∧ w.cell? ⟨g, 5, none⟩ = some a5 ∧ w.cell? ⟨g, 6, none⟩ = some a6 ∧ w.cell? ⟨g, 7, none⟩ = some a7 ∧ w.cell? ⟨g, 8, none⟩ = some a8 :=
  ⟨(blk_cell h 0).trans rfl, (blk_cell h 1).trans rfl, (blk_cell h 2).trans rfl, (blk_cell h 3).trans rfl, (blk_cell h 4).trans rfl, (blk_cell h 5).trans rfl, (blk_cell h 6).trans rfl, (blk_cell h 7).trans rfl, (blk_cell h 8).trans rfl⟩
end Go.Proofs.YtjidenkhgeoaiaaGreatDoor.P

/- Words for the contracts by hand: copy from a text into a row of the call's own. -/
namespace Go.Proofs.YtjidenkhgeoaiaaGreatDoor.Hand
open Go.RowKit Go.Proofs.YtjidenkhgeoaiaaGreatDoorW.PrintWords Go.Proofs.YtjidenkhgeoaiaaGreatDoorW.PrintLast Go.Proofs.YtjidenkhgeoaiaaGreatDoorW.PrintMore
set_option linter.unusedVariables false
set_option linter.unusedSimpArgs false

theorem cell_fresh (w : World) (cs : Array Value) (t : TypeId) (fr : Nat × Nat) (j : Nat) : (w.alloc (.cells cs t fr)).cell? ⟨w.heap.size, j, none⟩ = cs[j]? := by
  unfold World.cell?
  rw [heap_alloc_new]
  rfl

theorem add_flat (b off i : Nat) : (⟨b, off, none⟩ : Addr).add i = ⟨b, off + i, none⟩ := by
  unfold Addr.add
  split
  · rename_i h; simp [h]
  · rfl
/-- An element of a row that is read. -/
theorem C_at {k : IntKind} {w : World} {A : Option Addr} {n : Nat} {xs : List Int} (h : Kd.C (Kd.int k) w A n xs) (i : Nat) (hi : i < xs.length) : ∃ b off, A = some ⟨b, off, none⟩ ∧ w.cell? ⟨b, off + i, none⟩ = some (.int k xs[i]) := by
  have hn := Kd.C_len h
  obtain ⟨ad, hA, hcell0⟩ := Kd.at_int h 0 (by omega) (by omega)
  obtain ⟨ad2, hA2, hcell⟩ := Kd.at_int h (i : Int) (by omega) (by omega)
  obtain rfl : ad = ad2 := Option.some.inj (hA.symm.trans hA2)
  obtain ⟨b, off, spot⟩ := ad
  rw [show ((0 : Int)).toNat = 0 from rfl, Addr.add_zero'] at hcell0
  obtain rfl : spot = none := by simpa using World.cell?_spot hcell0
  rw [Int.toNat_natCast, add_flat] at hcell
  refine ⟨b, off, hA, ?_⟩
  rw [hcell]
  simp [rd, List.getD_eq_getElem?_getD, hi]

section
variable {P : Program} {ops : Array Oper} {rest : List Oper} {o : Oper} {a : Act} {Q : Exit → Act → World → Prop}
/-- copy(v, s), s a text that fits, v a row of bytes of the call's own. -/
theorem R_copy_str {w0 W : World} (base : Nat) (hgd : o.guard = none) (s x : Operand) (t t' e : TypeId)
    (ho : o.op = .call { callee := .builtin .copy, args := #[s, x], argTypes := #[t, t'] }) (ht : P.underlying t = some (.slice e)) (hinfo : (P.info? e).map (·.size) = some 1)
    (v : Value) (xs : List Int) (y : ByteArray) (ok : Nat → Prop) (hs : a.eval s = v) (hx : a.eval x = .string y) (hfit : y.size ≤ xs.length)
    (HO : (Kd.int .u8).R e W base ok v xs) (HB : Below base w0 W) (hbase : base ≤ W.heap.size)
    (h : ∀ w1, (Kd.int .u8).R e w1 base ok v (bytesOf y ++ xs.drop y.size) → Below base w0 w1 → W.grownBy w1 v.ownBlock → wpList P ops Q rest (a.put o.dst (.int .i64 (y.size : Int))) w1) :
    wpList P ops Q (o :: rest) a W := by
  have hown := Kd.own_of_R HO
  have fin : ∀ w1, (Builtin.copy_ #[t, t'] o.type #[v, .string y]).run P W = .ok (goInt (y.size : Int)) w1 → (Kd.int .u8).R e w1 base ok v (bytesOf y ++ xs.drop y.size) → W.grownBy w1 v.ownBlock → wpList P ops Q (o :: rest) a W := by
    intro w1 hr hrow hg
    refine wpList_plain hgd fun K hK => ?_
    unfold Oper.wp execOp
    simp only [ho, resolve, invoke, builtin, Sem.run_bind, Sem.run_pure, Result.andThen_ok, List.map_toArray, List.map_cons, List.map_nil, hs, hx, hr]
    exact hK _ _ (h w1 hrow (HB.grown hg hbase (own_base hown)) hg)
  have hbl : (bytesOf y).length = y.size := bytesOf_length y
  rcases Nat.eq_zero_or_pos y.size with h0 | hp
  · obtain ⟨A', c', hv⟩ := own_slice hown
    refine fin W ?_ ?_ (World.grownBy.refl W _)
    · have hiss : ((P.info? e).map (·.size)).isSome = true := by rw [hinfo]; rfl
      rw [hv, h0]
      exact Lib.run_copy_empty_string W t t' o.type e A' xs.length c' y ht hiss h0
    · have : bytesOf y = [] := List.eq_nil_of_length_eq_zero (by omega)
      rw [this, h0, List.drop_zero, List.nil_append]; exact HO
  · rcases hown.2 with ⟨_, hx0⟩ | ⟨g, cap, cur, hv, hb, hh, hnc, hcm, hcs, htake⟩
    · omega
    have hcs1 : cur.size = cap := by omega
    have hr := Lib.run_copy_row_string (P := P) W t t' o.type e g 0 xs.length cap y cur e ht hinfo hh hfit (by omega)
    have hln : (bytesOf y ++ xs.drop y.size).length = xs.length := by
      rw [List.length_append, List.length_drop]; omega
    have hbc : Lib.byteCells y.data.toList = encs (Value.int .u8) (bytesOf y) := by
      simp [Lib.byteCells, encs, bytesOf, List.map_map]
    refine fin _ (by rw [hv]; exact hr) (Kd.R_of_own ?_ HO.1) ?_
    · rw [hln]
      refine ⟨by rw [encs_length, hln, Nat.mul_one], .inr ⟨g, cap, _, hv, hb, setRow_heap W g cur _ e (0, 0) hh, hnc, hcm, ?_, ?_⟩⟩
      · have hcl : cur.toList.length = cap := by simpa using hcs1
        simp only [List.size_toArray, List.length_append, List.length_take, List.length_drop, Lib.byteCells_length]
        have : y.data.toList.length = y.size := by simp
        omega
      · have htk : cur.toList.take xs.length = encs (Value.int .u8) xs := by rw [← htake, Nat.mul_one]
        have hcl : cur.toList.length = cap := by simpa using hcs1
        simp only [Nat.mul_one, Nat.zero_add, List.take_zero, List.nil_append]
        rw [hbc, encs_append, List.take_append, List.take_of_length_le (by rw [encs_length, hbl]; omega)]
        congr 1
        have hd : encs (Value.int .u8) (xs.drop y.size) = (encs (Value.int .u8) xs).drop y.size := by simp [encs, List.map_drop]
        rw [hd, ← htk, List.drop_take, encs_length, hbl]
    · exact ⟨rfl, rfl, rfl, by rw [size_setRow]; exact Nat.le_refl _, fun k _ hk => setRow_other _ _ _ _ (fun he => hk (by rw [hv, he]; simp [Value.ownBlock]))⟩
end
end Go.Proofs.YtjidenkhgeoaiaaGreatDoor.Hand

/- Small words for the printed texts: strings' '>' , a text that is not empty. -/
namespace Go.Proofs.YtjidenkhgeoaiaaGreatDoor.Hand
open Go.RowKit Go.Proofs.YtjidenkhgeoaiaaGreatDoorW
theorem bytes_ne (l : List UInt8) : (l != []) = !l.isEmpty := by cases l <;> rfl
theorem bytes_eq (l : List UInt8) : (l == []) = l.isEmpty := by cases l <;> rfl
end Go.Proofs.YtjidenkhgeoaiaaGreatDoor.Hand

namespace Go.Proofs.YtjidenkhgeoaiaaGreatDoor.P
open Go.RowKit Go.Proofs.YtjidenkhgeoaiaaGreatDoorW.PrintWords Go.Proofs.YtjidenkhgeoaiaaGreatDoorW.PrintLast Go.Proofs.YtjidenkhgeoaiaaGreatDoorW.PrintMore Go.Proofs.YtjidenkhgeoaiaaGreatDoor.Hand
attribute [local go_sem] max2_int min2_int max_two min_two max_three min_three max_four min_four   -- for this text's walks alone
set_option linter.unusedVariables false
set_option linter.unusedSimpArgs false

/-! ### strf_Join: function 41 -/
def strf_Join.f (a0 : ByteArray) (a1 : ByteArray) : Option (ByteArray) := if a0.toList = ([] : List UInt8) then (some a1) else (if a0.size + 1 ≤ 9223372036854775807 then (if (a0 ++ (⟨#[47]⟩ : ByteArray)).size + a1.size ≤ 9223372036854775807 then (some ((a0 ++ (⟨#[47]⟩ : ByteArray)) ++ a1)) else (none)) else (none))
set_option maxHeartbeats 8000000 in
set_option maxRecDepth 100000 in
theorem strf_Join.calls (a0 : ByteArray) (a1 : ByteArray) (r : ByteArray) (w : World) (h : strf_Join.f a0 a1 = some r) :
  Calls Tryz.prog 41 #[.string a0, .string a1] w fun e w' => e = .returned (.string r) ∧ Drawn0 w w' := by
 have H : (if a0.toList = ([] : List UInt8) then (some a1) else (if a0.size + 1 ≤ 9223372036854775807 then (if (a0 ++ (⟨#[47]⟩ : ByteArray)).size + a1.size ≤ 9223372036854775807 then (some ((a0 ++ (⟨#[47]⟩ : ByteArray)) ++ a1)) else (none)) else (none))) = some r := h
 clear h
 by_cases c3 : a0.toList = ([] : List UInt8)
 ·rw [if_pos c3] at H
  have c3b0 : (a0.toList == ([] : List UInt8)) = true := beq_iff_eq.mpr c3
  have c3b1 : (a0.toList != ([] : List UInt8)) = false := bne_eq_false_iff_eq.mpr c3
  clear c3
  obtain rfl := Option.some.inj H
  go_enter Tryz.func41, Tryz.ntmps41
  go_wp2
  go_ret
  exact ⟨by first | rfl | (simp; done) | (simp [*]; done) | (simp only [bytes_ne, bytes_eq] <;> rfl), by repeat (first | exact Drawn0.refl _ | apply Drawn0.step)⟩
 ·rw [if_neg c3] at H
  have c3b0 : (a0.toList == ([] : List UInt8)) = false := beq_eq_false_iff_ne.mpr c3
  have c3b1 : (a0.toList != ([] : List UInt8)) = true := bne_iff_ne.mpr c3
  by_cases c4 : a0.size + 1 ≤ 9223372036854775807
  ·rw [if_pos c4] at H
   have c4b0 := eq_true c4
   have c4b1 : decide (a0.size + 1 ≤ 9223372036854775807) = true := decide_eq_true c4
   try have c4b2 : (9223372036854775807 < a0.size + 1) = False := eq_false (Nat.not_lt.2 c4)
   by_cases c5 : (a0 ++ (⟨#[47]⟩ : ByteArray)).size + a1.size ≤ 9223372036854775807
   ·rw [if_pos c5] at H
    have c5b0 := eq_true c5
    have c5b1 : decide ((a0 ++ (⟨#[47]⟩ : ByteArray)).size + a1.size ≤ 9223372036854775807) = true := decide_eq_true c5
    try have c5b2 : (9223372036854775807 < (a0 ++ (⟨#[47]⟩ : ByteArray)).size + a1.size) = False := eq_false (Nat.not_lt.2 c5)
    try have c5b3 : (9223372036854775807 < a0.size + 1 + a1.size) = False := by have h_ := Nat.not_lt.2 c5; simp only [ByteArray.size_append] at h_; exact eq_false h_
    obtain rfl := Option.some.inj H
    go_enter Tryz.func41, Tryz.ntmps41
    go_wp2
    go_ret
    exact ⟨by first | rfl | (simp; done) | (simp [*]; done) | (simp only [bytes_ne, bytes_eq] <;> rfl), by repeat (first | exact Drawn0.refl _ | apply Drawn0.step)⟩
   ·rw [if_neg c5] at H
    exact absurd H (by simp)
  ·rw [if_neg c4] at H
   exact absurd H (by simp)


/-! ### head_Path: function 21 -/
def head_Path.f (a0_0 : ByteArray) (a0_1 : ByteArray) (a0_2 : Int) (a0_3 : Int) (a0_4 : Int) (a0_5 : Int) (a0_6 : Int) (a0_7 : Int) (a0_8 : ByteArray) : Option (ByteArray) := (strf_Join.f a0_0 a0_1).bind fun t108 => (some t108)
set_option maxHeartbeats 8000000 in
set_option maxRecDepth 100000 in
theorem head_Path.calls (a0_0 : ByteArray) (a0_1 : ByteArray) (a0_2 : Int) (a0_3 : Int) (a0_4 : Int) (a0_5 : Int) (a0_6 : Int) (a0_7 : Int) (a0_8 : ByteArray) (r : ByteArray) (w : World) (h : head_Path.f a0_0 a0_1 a0_2 a0_3 a0_4 a0_5 a0_6 a0_7 a0_8 = some r) :
  Calls Tryz.prog 21 #[.agg #[.string a0_0, .string a0_1, .int .i64 a0_2, .int .i64 a0_3, .int .i64 a0_4, .int .i64 a0_5, .int .i64 a0_6, .int .u8 a0_7, .string a0_8]] w fun e w' => e = .returned (.string r) ∧ Below w.heap.size w w' := by
 have hu43 := Tryz.underlying43
 have HB := Aside0.mk (Below.refl w.heap.size w)
 have H : ((strf_Join.f a0_0 a0_1).bind fun t108 => (some t108)) = some r := h
 clear h
 replace H := Option.bind_eq_some_iff.mp H
 obtain ⟨t108, A20, H⟩ := H
 try dsimp only at H
 have A2 := Aside0.mk A20
 clear A20
 obtain rfl := Option.some.inj H
 go_enter Tryz.func21, Tryz.ntmps21
 go_wp2_with (first | ((with_reducible refine gate_dst (N := 1) rfl ?_); refine boxA_ 1 43 #[.string a0_0, .string a0_1, .int .i64 a0_2, .int .i64 a0_3, .int .i64 a0_4, .int .i64 a0_5, .int .i64 a0_6, .int .u8 a0_7, .string a0_8] ?_; intro gb107 hg w3 hbox hb; have n0_ := Aside0.mk (bstep_ hb); have n1_ := Aside0.mk (hbox); have n2_ := Aside0.mk ((by rw [hg]; exact bsize_ : w.heap.size ≤ gb107)); have n3_ := Aside0.mk ((by rw [hg]; exact bsize_ : w.heap.size ≤ gb107)); clear HB; have HB := n0_; have BK107 := n1_; have GW107 := n2_; have GE107 := n3_; clear n0_ n1_ n2_ n3_; clear hb hbox hg; obtain ⟨hcz4_0, hcz4_1, hcz4_2, hcz4_3, hcz4_4, hcz4_5, hcz4_6, hcz4_7, hcz4_8, hfz4_0, hfz4_1, hfz4_2, hfz4_3, hfz4_4, hfz4_5, hfz4_6, hfz4_7, hfz4_8⟩ := blk_all9 BK107.out) | ((with_reducible refine gate_callee (f := 41) rfl ?_); refine goesA_ (some 7) Tryz.func41 #[.string a0_0, .string a0_1] ?_; (with_reducible refine (strf_Join.calls a0_0 a0_1 t108 _ A2.out).mono ?_); rintro e w' ⟨rfl, ⟨nd, rfl⟩⟩; refine ⟨_, rfl, ?_⟩))
 go_ret
 exact finA_

end Go.Proofs.YtjidenkhgeoaiaaGreatDoor.P

/-
  DERIVED: THE SHELF's CONTRACTS AT THIS DUMP, IN PLAIN WORDS (tools/lay-plain.mjs out of 'TryzShelf.lean', which tools/lay-shelf.mjs wrote): THE SAME DECLARATIONS UNDER THE SAME NAMES: 'import', 'namespace', 'open', 'def', 'theorem' AND NOTHING ELSE: no command of the shelf's: FOR A HAND-IN. Each laying: the table of numbers ('.._ren') and one theorem, a field a fact of the dump's own or the kernel's comparison; each contract: ONE APPLICATION.
-/
namespace Go.Proofs
open Go.Shelf
def Tryz.lays119_ren : Go.Shelf.Ren := ⟨fun | 119 => 135 | n => n, fun | 21 => 21 | 4 => 4 | n => n, fun | n => n⟩
theorem Tryz.lays119 : Go.Proofs.Lays.n119 Tryz.prog Tryz.lays119_ren := {
  mixed := by kernel_rfl
  f119 := Tryz.func135.trans (congrArg some (by kernel_rfl))
  t4 := Tryz.underlying4
  a4 := Tryz.isAgg4
  z4 := Tryz.sizeOf4
  v4 := Tryz.zeroValue4
  t21 := Tryz.underlying21
  a21 := Tryz.isAgg21
  z21 := Tryz.sizeOf21
  v21 := Tryz.zeroValue21 }
/-- utf8.ValidRune: "ValidRune reports whether r can be legally encoded as UTF-8. Code points that are out of range or a surrogate half are illegal.": IT RETURNS 'Lib.validRune r'; the world is as it was. (LAID: no walk: one application.) -/
theorem Tryz.utf8_ValidRune (r : Int) (w : World) :
    Calls Tryz.prog 135 #[.int .i32 r] w fun e w' => e = .returned (.bool (Lib.validRune r)) ∧ w' = w := Any.utf8_ValidRune Tryz.lays119 r w
def Tryz.lays137_ren : Go.Shelf.Ren := ⟨fun | 137 => 19 | 217 => 40 | 266 => 60 | n => n, fun | 9 => 9 | 5 => 5 | 3 => 3 | n => n, fun | n => n⟩
theorem Tryz.lays137 : Go.Proofs.Lays.n137 Tryz.prog Tryz.lays137_ren := {
  mixed := by kernel_rfl
  f137 := Tryz.func19.trans (congrArg some (by kernel_rfl))
  f217 := Tryz.func40.trans (congrArg some (by kernel_rfl))
  f266 := Tryz.func60.trans (congrArg some (by kernel_rfl))
  t3 := Tryz.underlying3
  a3 := Tryz.isAgg3
  z3 := Tryz.sizeOf3
  v3 := Tryz.zeroValue3
  t5 := Tryz.underlying5
  a5 := Tryz.isAgg5
  z5 := Tryz.sizeOf5
  v5 := Tryz.zeroValue5
  t9 := Tryz.underlying9
  a9 := Tryz.isAgg9
  z9 := Tryz.sizeOf9
  v9 := Tryz.zeroValue9 }
open Go.RowKit in
/-- strings.IndexByte: "IndexByte returns the index of the first instance of c in s, or -1 if c is not present in s.": IT RETURNS 'Lib.indexByte s c'; the world is as it was. (LAID: no walk: one application.) -/
theorem Tryz.strings_IndexByte (s : ByteArray) (c : Int) (w : World) :
    Calls Tryz.prog 19 #[.string s, .int .u8 c] w fun e w' => e = .returned (.int .i64 (Lib.indexByte s.data.toList c.toNat.toUInt8)) ∧ w' = w := Any.strings_IndexByte Tryz.lays137 s c w
def Tryz.laysM171_ren : Go.Shelf.Ren := ⟨fun | 171 => 103 | 243 => 116 | 246 => 132 | 283 => 128 | 284 => 129 | 285 => 130 | 286 => 131 | 129 => 137 | 317 => 136 | 318 => 138 | 319 => 139 | 320 => 140 | 337 => 141 | 338 => 142 | n => n, fun | 3 => 3 | 9 => 9 | 2 => 2 | 4 => 4 | 171 => 157 | 0 => 0 | 53 => 147 | 37 => 31 | 5 => 5 | 173 => 160 | 212 => 171 | 51 => 149 | 20 => 20 | 213 => 172 | 46 => 117 | 232 => 175 | 233 => 176 | n => n, fun | 17 => 3 | 18 => 4 | 19 => 5 | n => n⟩
theorem Tryz.laysM171 : Go.Proofs.LaysM.n171 Tryz.prog Tryz.laysM171_ren := {
  mixed := by kernel_rfl
  f129 := Tryz.func137.trans (congrArg some (by kernel_rfl))
  f171 := Tryz.func103.trans (congrArg some (by kernel_rfl))
  f243 := Tryz.func116.trans (congrArg some (by kernel_rfl))
  f246 := Tryz.func132.trans (congrArg some (by kernel_rfl))
  f283 := Tryz.func128.trans (congrArg some (by kernel_rfl))
  f284 := Tryz.func129.trans (congrArg some (by kernel_rfl))
  f285 := Tryz.func130.trans (congrArg some (by kernel_rfl))
  f286 := Tryz.func131.trans (congrArg some (by kernel_rfl))
  f317 := Tryz.func136.trans (congrArg some (by kernel_rfl))
  f318 := Tryz.func138.trans (congrArg some (by kernel_rfl))
  f319 := Tryz.func139.trans (congrArg some (by kernel_rfl))
  f320 := Tryz.func140.trans (congrArg some (by kernel_rfl))
  f337 := Tryz.func141.trans (congrArg some (by kernel_rfl))
  f338 := Tryz.func142.trans (congrArg some (by kernel_rfl))
  t0 := Tryz.underlying0
  a0 := Tryz.isAgg0
  z0 := Tryz.sizeOf0
  v0 := Tryz.zeroValue0
  t2 := Tryz.underlying2
  a2 := Tryz.isAgg2
  z2 := Tryz.sizeOf2
  v2 := Tryz.zeroValue2
  t3 := Tryz.underlying3
  a3 := Tryz.isAgg3
  z3 := Tryz.sizeOf3
  v3 := Tryz.zeroValue3
  t4 := Tryz.underlying4
  a4 := Tryz.isAgg4
  z4 := Tryz.sizeOf4
  v4 := Tryz.zeroValue4
  t5 := Tryz.underlying5
  a5 := Tryz.isAgg5
  z5 := Tryz.sizeOf5
  v5 := Tryz.zeroValue5
  t9 := Tryz.underlying9
  a9 := Tryz.isAgg9
  z9 := Tryz.sizeOf9
  v9 := Tryz.zeroValue9
  t20 := Tryz.underlying20
  a20 := Tryz.isAgg20
  z20 := Tryz.sizeOf20
  v20 := Tryz.zeroValue20
  t37 := Tryz.underlying31
  a37 := Tryz.isAgg31
  z37 := Tryz.sizeOf31
  v37 := Tryz.zeroValue31
  t46 := Tryz.underlying117
  a46 := Tryz.isAgg117
  z46 := Tryz.sizeOf117
  v46 := Tryz.zeroValue117
  t51 := Tryz.underlying149
  a51 := Tryz.isAgg149
  z51 := Tryz.sizeOf149
  v51 := Tryz.zeroValue149
  t53 := Tryz.underlying147
  a53 := Tryz.isAgg147
  z53 := Tryz.sizeOf147
  v53 := Tryz.zeroValue147
  t171 := Tryz.underlying157
  a171 := Tryz.isAgg157
  z171 := Tryz.sizeOf157
  v171 := Tryz.zeroValue157
  t173 := Tryz.underlying160
  a173 := Tryz.isAgg160
  z173 := Tryz.sizeOf160
  v173 := Tryz.zeroValue160
  t212 := Tryz.underlying171
  a212 := Tryz.isAgg171
  z212 := Tryz.sizeOf171
  v212 := Tryz.zeroValue171
  t213 := Tryz.underlying172
  a213 := Tryz.isAgg172
  z213 := Tryz.sizeOf172
  t232 := Tryz.underlying175
  a232 := Tryz.isAgg175
  z232 := Tryz.sizeOf175
  v232 := Tryz.zeroValue175
  t233 := Tryz.underlying176
  a233 := Tryz.isAgg176
  z233 := Tryz.sizeOf176
  v233 := Tryz.zeroValue176
  g17 := by kernel_rfl
  g18 := by kernel_rfl
  g19 := by kernel_rfl
  i0 := by kernel_rfl
  i2 := by kernel_rfl
  i3 := by kernel_rfl
  i4 := by kernel_rfl
  i5 := by kernel_rfl
  i9 := by kernel_rfl
  i20 := by kernel_rfl
  i37 := by kernel_rfl
  i46 := by kernel_rfl
  i51 := by kernel_rfl
  i53 := by kernel_rfl
  i171 := by kernel_rfl
  i173 := by kernel_rfl
  i212 := by kernel_rfl
  i232 := by kernel_rfl
  i233 := by kernel_rfl
  m17 := by kernel_rfl
  m18 := by kernel_rfl
  m19 := by kernel_rfl }
open Go.RowKit Go.Sort Go.Lib in
/-- strconv.Itoa: "Itoa is equivalent to FormatInt(int64(i), 10).": i's DECIMAL NUMERAL ('Lib.itoa': a '-' where i is negative, then the digits), FOR EVERY int. The world behind the call: the world before it, new blocks behind the heap (the library's 'var a [24]byte'), draws. (LAID: no walk: one application.) -/
theorem Tryz.strconv_Itoa (n : Int) (h0 : -9223372036854775808 ≤ n) (h1 : n ≤ 9223372036854775807) (w : World) (htab : Lib.TabIs Tryz.prog w "internal/strconv.uint64pow10" .u64 Lib.pow10Tab) :
    Calls Tryz.prog 103 #[.int .i64 n] w fun e w' => e = .returned (.string ⟨(Lib.itoa n).toArray⟩) ∧ ∃ k os, w' = grow (w.drewN k) os := Any.strconv_Itoa Tryz.laysM171 n h0 h1 w htab
def Tryz.lays143_ren : Go.Shelf.Ren := ⟨fun | 143 => 73 | 219 => 90 | 217 => 40 | 225 => 104 | 224 => 105 | 267 => 106 | 266 => 60 | 314 => 117 | n => n, fun | 9 => 9 | 3 => 3 | 4 => 4 | 5 => 5 | 46 => 117 | 146 => 150 | 51 => 149 | n => n, fun | 1 => 0 | n => n⟩
theorem Tryz.lays143 : Go.Proofs.Lays.n143 Tryz.prog Tryz.lays143_ren := {
  mixed := by kernel_rfl
  f143 := Tryz.func73.trans (congrArg some (by kernel_rfl))
  f217 := Tryz.func40.trans (congrArg some (by kernel_rfl))
  f219 := Tryz.func90.trans (congrArg some (by kernel_rfl))
  f224 := Tryz.func105.trans (congrArg some (by kernel_rfl))
  f225 := Tryz.func104.trans (congrArg some (by kernel_rfl))
  f266 := Tryz.func60.trans (congrArg some (by kernel_rfl))
  f267 := Tryz.func106.trans (congrArg some (by kernel_rfl))
  f314 := Tryz.func117.trans (congrArg some (by kernel_rfl))
  t3 := Tryz.underlying3
  a3 := Tryz.isAgg3
  z3 := Tryz.sizeOf3
  v3 := Tryz.zeroValue3
  t4 := Tryz.underlying4
  a4 := Tryz.isAgg4
  z4 := Tryz.sizeOf4
  v4 := Tryz.zeroValue4
  t5 := Tryz.underlying5
  a5 := Tryz.isAgg5
  z5 := Tryz.sizeOf5
  v5 := Tryz.zeroValue5
  t9 := Tryz.underlying9
  a9 := Tryz.isAgg9
  z9 := Tryz.sizeOf9
  v9 := Tryz.zeroValue9
  t46 := Tryz.underlying117
  a46 := Tryz.isAgg117
  z46 := Tryz.sizeOf117
  v46 := Tryz.zeroValue117
  t51 := Tryz.underlying149
  a51 := Tryz.isAgg149
  z51 := Tryz.sizeOf149
  v51 := Tryz.zeroValue149
  t146 := Tryz.underlying150
  a146 := Tryz.isAgg150
  z146 := Tryz.sizeOf150
  v146 := Tryz.zeroValue150
  g1 := by kernel_rfl }
open Go.RowKit Go.Lib in
/-- strings.Index: "Index returns the index of the first instance of substr in s, or -1 if substr is not present in s.": AT A substr OF ONE BYTE c: IT RETURNS 'Lib.indexByte s c'; the world is as it was. (LAID: no walk: one application.) -/
theorem Tryz.strings_Index_one (s : ByteArray) (c : UInt8) (w : World) :
    Calls Tryz.prog 73 #[.string s, .string ⟨#[c]⟩] w fun e w' => e = .returned (.int .i64 (Lib.indexByte s.data.toList c)) ∧ w' = w := Any.strings_Index_one Tryz.lays143 s c w
def Tryz.lays144_ren : Go.Shelf.Ren := ⟨fun | 144 => 64 | 143 => 73 | 219 => 90 | 217 => 40 | 225 => 104 | 224 => 105 | 267 => 106 | 266 => 60 | 314 => 117 | n => n, fun | 9 => 9 | 4 => 4 | 3 => 3 | 5 => 5 | 46 => 117 | 146 => 150 | 51 => 149 | n => n, fun | 1 => 0 | n => n⟩
theorem Tryz.lays144 : Go.Proofs.Lays.n144 Tryz.prog Tryz.lays144_ren := {
  mixed := by kernel_rfl
  f143 := Tryz.func73.trans (congrArg some (by kernel_rfl))
  f144 := Tryz.func64.trans (congrArg some (by kernel_rfl))
  f217 := Tryz.func40.trans (congrArg some (by kernel_rfl))
  f219 := Tryz.func90.trans (congrArg some (by kernel_rfl))
  f224 := Tryz.func105.trans (congrArg some (by kernel_rfl))
  f225 := Tryz.func104.trans (congrArg some (by kernel_rfl))
  f266 := Tryz.func60.trans (congrArg some (by kernel_rfl))
  f267 := Tryz.func106.trans (congrArg some (by kernel_rfl))
  f314 := Tryz.func117.trans (congrArg some (by kernel_rfl))
  t3 := Tryz.underlying3
  a3 := Tryz.isAgg3
  z3 := Tryz.sizeOf3
  v3 := Tryz.zeroValue3
  t4 := Tryz.underlying4
  a4 := Tryz.isAgg4
  z4 := Tryz.sizeOf4
  v4 := Tryz.zeroValue4
  t5 := Tryz.underlying5
  a5 := Tryz.isAgg5
  z5 := Tryz.sizeOf5
  v5 := Tryz.zeroValue5
  t9 := Tryz.underlying9
  a9 := Tryz.isAgg9
  z9 := Tryz.sizeOf9
  v9 := Tryz.zeroValue9
  t46 := Tryz.underlying117
  a46 := Tryz.isAgg117
  z46 := Tryz.sizeOf117
  v46 := Tryz.zeroValue117
  t51 := Tryz.underlying149
  a51 := Tryz.isAgg149
  z51 := Tryz.sizeOf149
  v51 := Tryz.zeroValue149
  t146 := Tryz.underlying150
  a146 := Tryz.isAgg150
  z146 := Tryz.sizeOf150
  v146 := Tryz.zeroValue150
  g1 := by kernel_rfl }
open Go.RowKit Go.Lib in
/-- strings.Contains: "Contains reports whether substr is within s.": AT A substr OF ONE BYTE c: IT RETURNS 'decide (0 ≤ Lib.indexByte s c)'; the world is as it was. (LAID: no walk: one application.) -/
theorem Tryz.strings_Contains_one (s : ByteArray) (c : UInt8) (w : World) :
    Calls Tryz.prog 64 #[.string s, .string ⟨#[c]⟩] w fun e w' => e = .returned (.bool (decide (0 ≤ Lib.indexByte s.data.toList c))) ∧ w' = w := Any.strings_Contains_one Tryz.lays144 s c w
open Go.RowKit Go.Lib in
/-- strings.Contains: "Contains reports whether substr is within s.": IT RETURNS 'Lib.contains s substr'; the world is as it was. (LAID: no walk: one application.) -/
theorem Tryz.strings_Contains (s sub : ByteArray) (m : Int) (w : World) (hs : s.size < 4294967281) (hm : w.cell? ⟨0, 0, none⟩ = some (.int .i64 m)) :
    Calls Tryz.prog 64 #[.string s, .string sub] w fun e w' => e = .returned (.bool (Lib.contains s.data.toList sub.data.toList)) ∧ w' = w := Any.strings_Contains Tryz.lays144 s sub m w hs hm
def Tryz.laysM176_ren : Go.Shelf.Ren := ⟨fun | 176 => 84 | 249 => 102 | 288 => 115 | 283 => 128 | 284 => 129 | 285 => 130 | 286 => 131 | 129 => 137 | 317 => 136 | 318 => 138 | 319 => 139 | 320 => 140 | 337 => 141 | 338 => 142 | n => n, fun | 37 => 31 | 2 => 2 | 3 => 3 | 53 => 147 | 4 => 4 | 9 => 9 | 171 => 157 | 0 => 0 | 173 => 160 | 212 => 171 | 51 => 149 | 5 => 5 | 20 => 20 | 213 => 172 | 46 => 117 | 232 => 175 | 233 => 176 | n => n, fun | 17 => 3 | 18 => 4 | 19 => 5 | n => n⟩
theorem Tryz.laysM176 : Go.Proofs.LaysM.n176 Tryz.prog Tryz.laysM176_ren := {
  mixed := by kernel_rfl
  f129 := Tryz.func137.trans (congrArg some (by kernel_rfl))
  f176 := Tryz.func84.trans (congrArg some (by kernel_rfl))
  f249 := Tryz.func102.trans (congrArg some (by kernel_rfl))
  f283 := Tryz.func128.trans (congrArg some (by kernel_rfl))
  f284 := Tryz.func129.trans (congrArg some (by kernel_rfl))
  f285 := Tryz.func130.trans (congrArg some (by kernel_rfl))
  f286 := Tryz.func131.trans (congrArg some (by kernel_rfl))
  f288 := Tryz.func115.trans (congrArg some (by kernel_rfl))
  f317 := Tryz.func136.trans (congrArg some (by kernel_rfl))
  f318 := Tryz.func138.trans (congrArg some (by kernel_rfl))
  f319 := Tryz.func139.trans (congrArg some (by kernel_rfl))
  f320 := Tryz.func140.trans (congrArg some (by kernel_rfl))
  f337 := Tryz.func141.trans (congrArg some (by kernel_rfl))
  f338 := Tryz.func142.trans (congrArg some (by kernel_rfl))
  t0 := Tryz.underlying0
  a0 := Tryz.isAgg0
  z0 := Tryz.sizeOf0
  v0 := Tryz.zeroValue0
  t2 := Tryz.underlying2
  a2 := Tryz.isAgg2
  z2 := Tryz.sizeOf2
  v2 := Tryz.zeroValue2
  t3 := Tryz.underlying3
  a3 := Tryz.isAgg3
  z3 := Tryz.sizeOf3
  v3 := Tryz.zeroValue3
  t4 := Tryz.underlying4
  a4 := Tryz.isAgg4
  z4 := Tryz.sizeOf4
  v4 := Tryz.zeroValue4
  t5 := Tryz.underlying5
  a5 := Tryz.isAgg5
  z5 := Tryz.sizeOf5
  v5 := Tryz.zeroValue5
  t9 := Tryz.underlying9
  a9 := Tryz.isAgg9
  z9 := Tryz.sizeOf9
  v9 := Tryz.zeroValue9
  t20 := Tryz.underlying20
  a20 := Tryz.isAgg20
  z20 := Tryz.sizeOf20
  v20 := Tryz.zeroValue20
  t37 := Tryz.underlying31
  a37 := Tryz.isAgg31
  z37 := Tryz.sizeOf31
  v37 := Tryz.zeroValue31
  t46 := Tryz.underlying117
  a46 := Tryz.isAgg117
  z46 := Tryz.sizeOf117
  v46 := Tryz.zeroValue117
  t51 := Tryz.underlying149
  a51 := Tryz.isAgg149
  z51 := Tryz.sizeOf149
  v51 := Tryz.zeroValue149
  t53 := Tryz.underlying147
  a53 := Tryz.isAgg147
  z53 := Tryz.sizeOf147
  v53 := Tryz.zeroValue147
  t171 := Tryz.underlying157
  a171 := Tryz.isAgg157
  z171 := Tryz.sizeOf157
  v171 := Tryz.zeroValue157
  t173 := Tryz.underlying160
  a173 := Tryz.isAgg160
  z173 := Tryz.sizeOf160
  v173 := Tryz.zeroValue160
  t212 := Tryz.underlying171
  a212 := Tryz.isAgg171
  z212 := Tryz.sizeOf171
  v212 := Tryz.zeroValue171
  t213 := Tryz.underlying172
  a213 := Tryz.isAgg172
  z213 := Tryz.sizeOf172
  t232 := Tryz.underlying175
  a232 := Tryz.isAgg175
  z232 := Tryz.sizeOf175
  v232 := Tryz.zeroValue175
  t233 := Tryz.underlying176
  a233 := Tryz.isAgg176
  z233 := Tryz.sizeOf176
  v233 := Tryz.zeroValue176
  g17 := by kernel_rfl
  g18 := by kernel_rfl
  g19 := by kernel_rfl
  i0 := by kernel_rfl
  i2 := by kernel_rfl
  i3 := by kernel_rfl
  i4 := by kernel_rfl
  i5 := by kernel_rfl
  i9 := by kernel_rfl
  i20 := by kernel_rfl
  i37 := by kernel_rfl
  i46 := by kernel_rfl
  i51 := by kernel_rfl
  i53 := by kernel_rfl
  i171 := by kernel_rfl
  i173 := by kernel_rfl
  i212 := by kernel_rfl
  i232 := by kernel_rfl
  i233 := by kernel_rfl
  m17 := by kernel_rfl
  m18 := by kernel_rfl
  m19 := by kernel_rfl }
open Go.RowKit Go.Sort Go.Lib in
/-- strconv.AppendInt: "AppendInt appends the string form of the integer i, as generated by FormatInt, to dst and returns the extended buffer.": AT BASE 10: WHAT COMES BACK OWNS dst's CELLS AND, BEHIND THEM, i's DECIMAL NUMERAL ('Lib.itoa i': at most 20 bytes), for every int64. Below the call's own blocks nothing has turned. (LAID: no walk: one application.) -/
theorem Tryz.strconv_AppendInt_10 (B n : Nat) (i : Int) (h0 : -9223372036854775808 ≤ i) (h1 : i ≤ 9223372036854775807) (sv : Value) (xs : List Value) (w : World) (hown : w.ownsRow B 5 1 sv n xs) (hBw : B ≤ w.heap.size) (hlim : n + 21 ≤ 140737488355328) (htab : Lib.TabBelow Tryz.prog B w "internal/strconv.uint64pow10" .u64 Lib.pow10Tab) :
    Calls Tryz.prog 84 #[sv, .int .i64 i, .int .i64 10] w fun e w' => ∃ v', e = .returned v' ∧ w'.ownsRow B 5 1 v' (n + (Lib.itoa i).length) (xs ++ Lib.byteCells (Lib.itoa i)) ∧ Below B w w' ∧ Lib.OthersKept 5 none w w' := Any.strconv_AppendInt_10 Tryz.laysM176 B n i h0 h1 sv xs w hown hBw hlim htab
def Tryz.lays152_ren : Go.Shelf.Ren := ⟨fun | 152 => 124 | 137 => 19 | 119 => 135 | 224 => 105 | 225 => 104 | 217 => 40 | 266 => 60 | n => n, fun | 9 => 9 | 21 => 21 | 3 => 3 | 4 => 4 | 5 => 5 | 0 => 0 | 46 => 117 | n => n, fun | n => n⟩
theorem Tryz.lays152 : Go.Proofs.Lays.n152 Tryz.prog Tryz.lays152_ren := {
  mixed := by kernel_rfl
  f119 := Tryz.func135.trans (congrArg some (by kernel_rfl))
  f137 := Tryz.func19.trans (congrArg some (by kernel_rfl))
  f152 := Tryz.func124.trans (congrArg some (by kernel_rfl))
  f217 := Tryz.func40.trans (congrArg some (by kernel_rfl))
  f224 := Tryz.func105.trans (congrArg some (by kernel_rfl))
  f225 := Tryz.func104.trans (congrArg some (by kernel_rfl))
  f266 := Tryz.func60.trans (congrArg some (by kernel_rfl))
  t0 := Tryz.underlying0
  a0 := Tryz.isAgg0
  z0 := Tryz.sizeOf0
  v0 := Tryz.zeroValue0
  t3 := Tryz.underlying3
  a3 := Tryz.isAgg3
  z3 := Tryz.sizeOf3
  v3 := Tryz.zeroValue3
  t4 := Tryz.underlying4
  a4 := Tryz.isAgg4
  z4 := Tryz.sizeOf4
  v4 := Tryz.zeroValue4
  t5 := Tryz.underlying5
  a5 := Tryz.isAgg5
  z5 := Tryz.sizeOf5
  v5 := Tryz.zeroValue5
  t9 := Tryz.underlying9
  a9 := Tryz.isAgg9
  z9 := Tryz.sizeOf9
  v9 := Tryz.zeroValue9
  t21 := Tryz.underlying21
  a21 := Tryz.isAgg21
  z21 := Tryz.sizeOf21
  v21 := Tryz.zeroValue21
  t46 := Tryz.underlying117
  a46 := Tryz.isAgg117
  z46 := Tryz.sizeOf117
  v46 := Tryz.zeroValue117 }
open Go.RowKit Go.Lib in
theorem Tryz.strings_IndexRune_ascii (s : ByteArray) (r : Int) (w : World) (h0 : 0 ≤ r) (h1 : r < 128) :
    Calls Tryz.prog 124 #[.string s, .int .i32 r] w fun e w' => e = .returned (.int .i64 (Lib.indexByte s.data.toList r.toNat.toUInt8)) ∧ w' = w := Any.strings_IndexRune_ascii Tryz.lays152 s r w h0 h1
def Tryz.lays226_ren : Go.Shelf.Ren := ⟨fun | 226 => 125 | n => n, fun | 3 => 3 | 4 => 4 | n => n, fun | n => n⟩
theorem Tryz.lays226 : Go.Proofs.Lays.n226 Tryz.prog Tryz.lays226_ren := {
  mixed := by kernel_rfl
  f226 := Tryz.func125.trans (congrArg some (by kernel_rfl))
  t3 := Tryz.underlying3
  a3 := Tryz.isAgg3
  z3 := Tryz.sizeOf3
  v3 := Tryz.zeroValue3
  t4 := Tryz.underlying4
  a4 := Tryz.isAgg4
  z4 := Tryz.sizeOf4
  v4 := Tryz.zeroValue4 }
open Go.RowKit Go.Lib in
theorem Tryz.strings_shouldUseASCIISet (n : Int) (w : World) :
    Calls Tryz.prog 125 #[.int .i64 n] w fun e w' => e = .returned (.bool (decide (8 < n))) ∧ w' = w := Any.strings_shouldUseASCIISet Tryz.lays226 n w
def Tryz.lays153_ren : Go.Shelf.Ren := ⟨fun | 153 => 114 | 152 => 124 | 226 => 125 | 227 => 126 | 228 => 127 | 137 => 19 | 119 => 135 | 224 => 105 | 225 => 104 | 217 => 40 | 266 => 60 | n => n, fun | 9 => 9 | 3 => 3 | 4 => 4 | 5 => 5 | 21 => 21 | 117 => 155 | 116 => 154 | 0 => 0 | 46 => 117 | 124 => 169 | n => n, fun | n => n⟩
theorem Tryz.lays153 : Go.Proofs.Lays.n153 Tryz.prog Tryz.lays153_ren := {
  mixed := by kernel_rfl
  f119 := Tryz.func135.trans (congrArg some (by kernel_rfl))
  f137 := Tryz.func19.trans (congrArg some (by kernel_rfl))
  f152 := Tryz.func124.trans (congrArg some (by kernel_rfl))
  f153 := Tryz.func114.trans (congrArg some (by kernel_rfl))
  f217 := Tryz.func40.trans (congrArg some (by kernel_rfl))
  f224 := Tryz.func105.trans (congrArg some (by kernel_rfl))
  f225 := Tryz.func104.trans (congrArg some (by kernel_rfl))
  f226 := Tryz.func125.trans (congrArg some (by kernel_rfl))
  f227 := Tryz.func126.trans (congrArg some (by kernel_rfl))
  f228 := Tryz.func127.trans (congrArg some (by kernel_rfl))
  f266 := Tryz.func60.trans (congrArg some (by kernel_rfl))
  t0 := Tryz.underlying0
  a0 := Tryz.isAgg0
  z0 := Tryz.sizeOf0
  v0 := Tryz.zeroValue0
  t3 := Tryz.underlying3
  a3 := Tryz.isAgg3
  z3 := Tryz.sizeOf3
  v3 := Tryz.zeroValue3
  t4 := Tryz.underlying4
  a4 := Tryz.isAgg4
  z4 := Tryz.sizeOf4
  v4 := Tryz.zeroValue4
  t5 := Tryz.underlying5
  a5 := Tryz.isAgg5
  z5 := Tryz.sizeOf5
  v5 := Tryz.zeroValue5
  t9 := Tryz.underlying9
  a9 := Tryz.isAgg9
  z9 := Tryz.sizeOf9
  v9 := Tryz.zeroValue9
  t21 := Tryz.underlying21
  a21 := Tryz.isAgg21
  z21 := Tryz.sizeOf21
  v21 := Tryz.zeroValue21
  t46 := Tryz.underlying117
  a46 := Tryz.isAgg117
  z46 := Tryz.sizeOf117
  v46 := Tryz.zeroValue117
  t116 := Tryz.underlying154
  a116 := Tryz.isAgg154
  z116 := Tryz.sizeOf154
  t117 := Tryz.underlying155
  a117 := Tryz.isAgg155
  z117 := Tryz.sizeOf155
  v117 := Tryz.zeroValue155
  t124 := Tryz.underlying169
  a124 := Tryz.isAgg169
  z124 := Tryz.sizeOf169
  v124 := Tryz.zeroValue169 }
open Go.RowKit Go.Lib in
theorem Tryz.strings_IndexAny_long (hv116 : ∀ w, (zeroValue 154).run Tryz.prog w = .ok (.agg (Array.replicate 256 (.bool false))) w) (s chars : ByteArray) (w : World) (h2 : 2 ≤ chars.size) (h8 : 8 < s.size) (hs : s.size < 4294967281) (hcs : chars.size < 4294967281) (hascii : ∀ (j : Nat) b, chars.data.toList[j]? = some b → b.toNat < 128) :
    Calls Tryz.prog 114 #[.string s, .string chars] w fun e w' => e = .returned (.int .i64 (Lib.indexAny s.data.toList chars.data.toList)) ∧ w' = ((w.alloc (.cells (Lib.setCells chars.data.toList) 154)).alloc (.cells (Lib.setCells chars.data.toList) 154)) := Any.strings_IndexAny_long Tryz.lays153 hv116 (by kernel_rfl) s chars w h2 h8 hs hcs hascii
def Tryz.lays150_ren : Go.Shelf.Ren := ⟨fun | 150 => 100 | 153 => 114 | 152 => 124 | 226 => 125 | 227 => 126 | 228 => 127 | 137 => 19 | 119 => 135 | 224 => 105 | 225 => 104 | 217 => 40 | 266 => 60 | n => n, fun | 9 => 9 | 4 => 4 | 3 => 3 | 5 => 5 | 21 => 21 | 117 => 155 | 116 => 154 | 0 => 0 | 46 => 117 | 124 => 169 | n => n, fun | n => n⟩
theorem Tryz.lays150 : Go.Proofs.Lays.n150 Tryz.prog Tryz.lays150_ren := {
  mixed := by kernel_rfl
  f119 := Tryz.func135.trans (congrArg some (by kernel_rfl))
  f137 := Tryz.func19.trans (congrArg some (by kernel_rfl))
  f150 := Tryz.func100.trans (congrArg some (by kernel_rfl))
  f152 := Tryz.func124.trans (congrArg some (by kernel_rfl))
  f153 := Tryz.func114.trans (congrArg some (by kernel_rfl))
  f217 := Tryz.func40.trans (congrArg some (by kernel_rfl))
  f224 := Tryz.func105.trans (congrArg some (by kernel_rfl))
  f225 := Tryz.func104.trans (congrArg some (by kernel_rfl))
  f226 := Tryz.func125.trans (congrArg some (by kernel_rfl))
  f227 := Tryz.func126.trans (congrArg some (by kernel_rfl))
  f228 := Tryz.func127.trans (congrArg some (by kernel_rfl))
  f266 := Tryz.func60.trans (congrArg some (by kernel_rfl))
  t0 := Tryz.underlying0
  a0 := Tryz.isAgg0
  z0 := Tryz.sizeOf0
  v0 := Tryz.zeroValue0
  t3 := Tryz.underlying3
  a3 := Tryz.isAgg3
  z3 := Tryz.sizeOf3
  v3 := Tryz.zeroValue3
  t4 := Tryz.underlying4
  a4 := Tryz.isAgg4
  z4 := Tryz.sizeOf4
  v4 := Tryz.zeroValue4
  t5 := Tryz.underlying5
  a5 := Tryz.isAgg5
  z5 := Tryz.sizeOf5
  v5 := Tryz.zeroValue5
  t9 := Tryz.underlying9
  a9 := Tryz.isAgg9
  z9 := Tryz.sizeOf9
  v9 := Tryz.zeroValue9
  t21 := Tryz.underlying21
  a21 := Tryz.isAgg21
  z21 := Tryz.sizeOf21
  v21 := Tryz.zeroValue21
  t46 := Tryz.underlying117
  a46 := Tryz.isAgg117
  z46 := Tryz.sizeOf117
  v46 := Tryz.zeroValue117
  t116 := Tryz.underlying154
  a116 := Tryz.isAgg154
  z116 := Tryz.sizeOf154
  t117 := Tryz.underlying155
  a117 := Tryz.isAgg155
  z117 := Tryz.sizeOf155
  v117 := Tryz.zeroValue155
  t124 := Tryz.underlying169
  a124 := Tryz.isAgg169
  z124 := Tryz.sizeOf169
  v124 := Tryz.zeroValue169 }
open Go.RowKit Go.Lib in
/-- strings.ContainsAny ON ASCII BYTES. (LAID: no walk: one application.) -/
theorem Tryz.strings_ContainsAny (hv116 : ∀ w, (zeroValue 154).run Tryz.prog w = .ok (.agg (Array.replicate 256 (.bool false))) w) (s chars : ByteArray) (w : World) (hs : s.size < 4294967281) (hcs : chars.size < 4294967281) (has : ∀ (j : Nat) b, s.data.toList[j]? = some b → b.toNat < 128) (hac : ∀ (j : Nat) b, chars.data.toList[j]? = some b → b.toNat < 128) :
    Calls Tryz.prog 100 #[.string s, .string chars] w fun e w' => e = .returned (.bool (Lib.containsAny s.data.toList chars.data.toList)) ∧ Below w.heap.size w w' := Any.strings_ContainsAny Tryz.lays150 hv116 (by kernel_rfl) s chars w hs hcs has hac
def Tryz.lays185_ren : Go.Shelf.Ren := ⟨fun | 185 => 107 | 187 => 118 | 115 => 28 | 253 => 119 | 224 => 105 | 254 => 120 | 255 => 133 | 291 => 134 | n => n, fun | 37 => 31 | 3 => 3 | 4 => 4 | 0 => 0 | 5 => 5 | 46 => 117 | 9 => 9 | 146 => 150 | 51 => 149 | n => n, fun | 1 => 0 | n => n⟩
theorem Tryz.lays185 : Go.Proofs.Lays.n185 Tryz.prog Tryz.lays185_ren := {
  mixed := by kernel_rfl
  f115 := Tryz.func28.trans (congrArg some (by kernel_rfl))
  f185 := Tryz.func107.trans (congrArg some (by kernel_rfl))
  f187 := Tryz.func118.trans (congrArg some (by kernel_rfl))
  f224 := Tryz.func105.trans (congrArg some (by kernel_rfl))
  f253 := Tryz.func119.trans (congrArg some (by kernel_rfl))
  f254 := Tryz.func120.trans (congrArg some (by kernel_rfl))
  f255 := Tryz.func133.trans (congrArg some (by kernel_rfl))
  f291 := Tryz.func134.trans (congrArg some (by kernel_rfl))
  t0 := Tryz.underlying0
  a0 := Tryz.isAgg0
  z0 := Tryz.sizeOf0
  v0 := Tryz.zeroValue0
  t3 := Tryz.underlying3
  a3 := Tryz.isAgg3
  z3 := Tryz.sizeOf3
  v3 := Tryz.zeroValue3
  t4 := Tryz.underlying4
  a4 := Tryz.isAgg4
  z4 := Tryz.sizeOf4
  v4 := Tryz.zeroValue4
  t5 := Tryz.underlying5
  a5 := Tryz.isAgg5
  z5 := Tryz.sizeOf5
  v5 := Tryz.zeroValue5
  t9 := Tryz.underlying9
  a9 := Tryz.isAgg9
  z9 := Tryz.sizeOf9
  v9 := Tryz.zeroValue9
  t37 := Tryz.underlying31
  a37 := Tryz.isAgg31
  z37 := Tryz.sizeOf31
  v37 := Tryz.zeroValue31
  t46 := Tryz.underlying117
  a46 := Tryz.isAgg117
  z46 := Tryz.sizeOf117
  v46 := Tryz.zeroValue117
  t51 := Tryz.underlying149
  a51 := Tryz.isAgg149
  z51 := Tryz.sizeOf149
  v51 := Tryz.zeroValue149
  t146 := Tryz.underlying150
  a146 := Tryz.isAgg150
  z146 := Tryz.sizeOf150
  v146 := Tryz.zeroValue150
  g1 := by kernel_rfl }
open Go.RowKit Go.Lib in
/-- bytes.Index at a separator of one byte: "Index returns the index of the first instance of sep in s, or -1 if sep is not present in s.": 'Lib.indexByte' of s's bytes and that byte; the world is as it was. 'xs': s's elements; 'cv': the separator's one byte. (LAID: no walk: one application.) -/
theorem Tryz.bytes_Index_one (b o n c b2 o2 d : Nat) (xs : List Int) (cv : Int) (w : World) (hx : xs.length = n) (hc : ∀ i, i < n → w.cell? ⟨b, o + i, none⟩ = some (.int .u8 (xs.getD i 0))) (hc2 : w.cell? ⟨b2, o2, none⟩ = some (.int .u8 cv)) :
    Calls Tryz.prog 107 #[.slice (some ⟨b, o, none⟩) n c, .slice (some ⟨b2, o2, none⟩) 1 d] w fun e w' => e = .returned (.int .i64 (Lib.indexByte (Lib.bytesOf xs) cv.toNat.toUInt8)) ∧ w' = w := Any.bytes_Index_one Tryz.lays185 b o n c b2 o2 d xs cv w hx hc hc2
def Tryz.lays187_ren : Go.Shelf.Ren := ⟨fun | 187 => 118 | 255 => 133 | n => n, fun | 37 => 31 | 5 => 5 | 3 => 3 | n => n, fun | n => n⟩
theorem Tryz.lays187 : Go.Proofs.Lays.n187 Tryz.prog Tryz.lays187_ren := {
  mixed := by kernel_rfl
  f187 := Tryz.func118.trans (congrArg some (by kernel_rfl))
  f255 := Tryz.func133.trans (congrArg some (by kernel_rfl))
  t3 := Tryz.underlying3
  a3 := Tryz.isAgg3
  z3 := Tryz.sizeOf3
  v3 := Tryz.zeroValue3
  t5 := Tryz.underlying5
  a5 := Tryz.isAgg5
  z5 := Tryz.sizeOf5
  v5 := Tryz.zeroValue5
  t37 := Tryz.underlying31
  a37 := Tryz.isAgg31
  z37 := Tryz.sizeOf31
  v37 := Tryz.zeroValue31 }
def Tryz.lays115_ren : Go.Shelf.Ren := ⟨fun | 115 => 28 | n => n, fun | 37 => 31 | 4 => 4 | 9 => 9 | 5 => 5 | n => n, fun | n => n⟩
theorem Tryz.lays115 : Go.Proofs.Lays.n115 Tryz.prog Tryz.lays115_ren := {
  mixed := by kernel_rfl
  f115 := Tryz.func28.trans (congrArg some (by kernel_rfl))
  t4 := Tryz.underlying4
  a4 := Tryz.isAgg4
  z4 := Tryz.sizeOf4
  v4 := Tryz.zeroValue4
  t9 := Tryz.underlying9
  a9 := Tryz.isAgg9
  z9 := Tryz.sizeOf9
  v9 := Tryz.zeroValue9
  t37 := Tryz.underlying31
  a37 := Tryz.isAgg31
  z37 := Tryz.sizeOf31
  v37 := Tryz.zeroValue31 }
def Tryz.laysSlK4_ren : Go.Shelf.Ren := ⟨fun | 4 => 23 | n => n, fun | 22 => 31 | 4 => 4 | 5 => 5 | n => n, fun | n => n⟩
theorem Tryz.laysSlK4 : Go.Proofs.SlLaysK.n4 Tryz.prog Tryz.laysSlK4_ren := {
  mixed := by kernel_rfl
  f4 := Tryz.func23.trans (congrArg some (by kernel_rfl))
  t4 := Tryz.underlying4
  a4 := Tryz.isAgg4
  z4 := Tryz.sizeOf4
  v4 := Tryz.zeroValue4
  t22 := Tryz.underlying31
  a22 := Tryz.isAgg31
  z22 := Tryz.sizeOf31
  v22 := Tryz.zeroValue31
  t5 := Tryz.underlying5
  i5 := by kernel_rfl }
open Go.RowKit Go.Lib in
/-- bytes.Clone: "Clone returns a copy of b[:len(b)]. The result may have additional unused capacity.": OF A SLICE THAT IS NOT nil IT RETURNS A SLICE THAT IS NOT nil, OF THE SAME BYTES, IN MEMORY OF THE CALL's OWN: in the how-to's words (6f): 'w'.ownsRow B e 1 v' n cells' · 'Below B w w'', B the heap's size at the call. b AT WHATEVER ADDRESS, its cells as 'open_ints' hands them ('a.add i'; the numbers 'xs'). No byte: no cell is asked for. (LAID: no walk: one application.) -/
theorem Tryz.bytes_Clone_at (a : Addr) (n c : Nat) (xs : List Int) (w : World) (hx : xs.length = n) (hbig : n ≤ 140737488355328) (hc : ∀ i, i < n → w.cell? (a.add i) = some (.int .u8 (xs.getD i 0))) :
    Calls Tryz.prog 23 #[.slice (some a) n c] w fun e w' => ∃ v', e = .returned v' ∧ w'.ownsRow w.heap.size 5 1 v' n (xs.map (Value.int .u8)) ∧ v' ≠ .slice none 0 0 ∧ Below w.heap.size w w' := Any.bytes_Clone_at Tryz.laysSlK4 a n c xs w hx hbig hc
open Go.RowKit Go.Lib in
/-- "Clone(nil) returns nil.": the world is as it was. (LAID: no walk: one application.) -/
theorem Tryz.bytes_Clone_nil (n c : Nat) (w : World) :
    Calls Tryz.prog 23 #[.slice none n c] w fun e w' => e = .returned (.slice none 0 0) ∧ w' = w := Any.bytes_Clone_nil Tryz.laysSlK4 n c w
def Tryz.laysnb116_ren : Go.Shelf.Ren := ⟨fun | 116 => 35 | 115 => 28 | n => n, fun | 37 => 31 | 4 => 4 | 3 => 3 | 9 => 9 | 5 => 5 | n => n, fun | n => n⟩
theorem Tryz.laysnb116 : Go.Proofs.Lays.nb116 Tryz.prog Tryz.laysnb116_ren := {
  mixed := by kernel_rfl
  f115 := Tryz.func28.trans (congrArg some (by kernel_rfl))
  f116 := Tryz.func35.trans (congrArg some (by kernel_rfl))
  t3 := Tryz.underlying3
  a3 := Tryz.isAgg3
  z3 := Tryz.sizeOf3
  v3 := Tryz.zeroValue3
  t4 := Tryz.underlying4
  a4 := Tryz.isAgg4
  z4 := Tryz.sizeOf4
  v4 := Tryz.zeroValue4
  t9 := Tryz.underlying9
  a9 := Tryz.isAgg9
  z9 := Tryz.sizeOf9
  v9 := Tryz.zeroValue9
  t37 := Tryz.underlying31
  a37 := Tryz.isAgg31
  z37 := Tryz.sizeOf31
  v37 := Tryz.zeroValue31
  t5 := Tryz.underlying5
  a5 := Tryz.isAgg5
  z5 := Tryz.sizeOf5
  v5 := Tryz.zeroValue5 }
/-- bytes.HasPrefix: WHOLE: each argument nil, or of no byte at whatever address, or at an address with its cells. (LAID: no walk: one application.) -/
theorem Tryz.bytes_HasPrefix_all (p1 p2 : Option Addr) (n c m d : Nat) (xs ys : List Int) (w : World) (hx : xs.length = n) (hy : ys.length = m) (hnc : n ≤ c) (h1 : Lib.BytesIn w p1 n xs) (h2 : Lib.BytesIn w p2 m ys) :
    Calls Tryz.prog 35 #[.slice p1 n c, .slice p2 m d] w fun e w' => e = .returned (.bool (Lib.hasPrefix (Lib.bytesOf xs) (Lib.bytesOf ys))) ∧ w' = w := Any.bytes_HasPrefix_all Tryz.laysnb116 p1 p2 n c m d xs ys w hx hy hnc h1 h2
/-- bytes.Equal: "Equal reports whether a and b are the same length and contain the same bytes. A nil argument is equivalent to an empty slice.": IT RETURNS 'the bytes of the one == the bytes of the other'; the world is as it was. THE TWO ARGUMENTS COME AS WHATEVER VALUES, each with the one fact that the walk wants of it: what 'string(..)' of it gives: for a slice whose cells you know: 'run_convert_bytes_arg' (Derived/Laws/BytesArg.lean) hands that fact; for a nil one: 'run_convert_bytes_nil' (with xs := []). (LAID: no walk: one application.) -/
theorem Tryz.bytes_Equal (v1 v2 : Value) (xs ys : List Int) (w : World) (h1 : (convert 31 9 v1).run Tryz.prog w = .ok (.string (strOfNums xs)) w) (h2 : (convert 31 9 v2).run Tryz.prog w = .ok (.string (strOfNums ys)) w) :
    Calls Tryz.prog 28 #[v1, v2] w fun e w' => e = .returned (.bool (Lib.bytesOf xs == Lib.bytesOf ys)) ∧ w' = w := Any.bytes_Equal Tryz.lays115 v1 v2 xs ys w h1 h2
/-- bytes.IndexByte: "IndexByte returns the index of the first instance of c in b, or -1 if c is not present in b.": IT RETURNS 'Lib.indexByte (the bytes of b) c'; the world is as it was. 'xs': the numbers that the slice's cells hold. (LAID: no walk: one application.) -/
theorem Tryz.bytes_IndexByte (b o n c : Nat) (xs : List Int) (cv : Int) (w : World) (hx : xs.length = n) (hc : ∀ i, i < n → w.cell? ⟨b, o + i, none⟩ = some (.int .u8 (xs.getD i 0))) :
    Calls Tryz.prog 118 #[.slice (some ⟨b, o, none⟩) n c, .int .u8 cv] w fun e w' => e = .returned (.int .i64 (Lib.indexByte (Lib.bytesOf xs) cv.toNat.toUInt8)) ∧ w' = w := Any.bytes_IndexByte Tryz.lays187 b o n c xs cv w hx hc
def Tryz.laysV11_ren : Go.Shelf.Ren := ⟨fun | 11 => 93 | n => n, fun | 9 => 9 | 27 => 132 | 4 => 4 | 0 => 0 | 3 => 3 | 5 => 5 | n => n, fun | n => n⟩
theorem Tryz.laysV11 : Go.Proofs.SlLaysV.n11 Tryz.prog Tryz.laysV11_ren := {
  mixed := by kernel_rfl
  f11 := Tryz.func93.trans (congrArg some (by kernel_rfl))
  t0 := Tryz.underlying0
  a0 := Tryz.isAgg0
  z0 := Tryz.sizeOf0
  v0 := Tryz.zeroValue0
  t3 := Tryz.underlying3
  a3 := Tryz.isAgg3
  z3 := Tryz.sizeOf3
  v3 := Tryz.zeroValue3
  t4 := Tryz.underlying4
  a4 := Tryz.isAgg4
  z4 := Tryz.sizeOf4
  v4 := Tryz.zeroValue4
  t5 := Tryz.underlying5
  a5 := Tryz.isAgg5
  z5 := Tryz.sizeOf5
  v5 := Tryz.zeroValue5
  t9 := Tryz.underlying9
  a9 := Tryz.isAgg9
  z9 := Tryz.sizeOf9
  v9 := Tryz.zeroValue9
  t27 := Tryz.underlying132
  a27 := Tryz.isAgg132
  z27 := Tryz.sizeOf132 }
def Tryz.laysV13_ren : Go.Shelf.Ren := ⟨fun | 13 => 97 | 16 => 108 | n => n, fun | 22 => 31 | 31 => 136 | 3 => 3 | 4 => 4 | 0 => 0 | 5 => 5 | 27 => 132 | n => n, fun | n => n⟩
theorem Tryz.laysV13 : Go.Proofs.SlLaysV.n13 Tryz.prog Tryz.laysV13_ren := {
  mixed := by kernel_rfl
  f13 := Tryz.func97.trans (congrArg some (by kernel_rfl))
  f16 := Tryz.func108.trans (congrArg some (by kernel_rfl))
  t0 := Tryz.underlying0
  a0 := Tryz.isAgg0
  z0 := Tryz.sizeOf0
  v0 := Tryz.zeroValue0
  t3 := Tryz.underlying3
  a3 := Tryz.isAgg3
  z3 := Tryz.sizeOf3
  v3 := Tryz.zeroValue3
  t4 := Tryz.underlying4
  a4 := Tryz.isAgg4
  z4 := Tryz.sizeOf4
  v4 := Tryz.zeroValue4
  t5 := Tryz.underlying5
  a5 := Tryz.isAgg5
  z5 := Tryz.sizeOf5
  v5 := Tryz.zeroValue5
  t22 := Tryz.underlying31
  a22 := Tryz.isAgg31
  z22 := Tryz.sizeOf31
  v22 := Tryz.zeroValue31
  t27 := Tryz.underlying132
  a27 := Tryz.isAgg132
  z27 := Tryz.sizeOf132
  t31 := Tryz.underlying136
  a31 := Tryz.isAgg136
  z31 := Tryz.sizeOf136
  v31 := Tryz.zeroValue136 }
def Tryz.laysV16_ren : Go.Shelf.Ren := ⟨fun | 16 => 108 | n => n, fun | 31 => 136 | 5 => 5 | 4 => 4 | 0 => 0 | 27 => 132 | n => n, fun | n => n⟩
theorem Tryz.laysV16 : Go.Proofs.SlLaysV.n16 Tryz.prog Tryz.laysV16_ren := {
  mixed := by kernel_rfl
  f16 := Tryz.func108.trans (congrArg some (by kernel_rfl))
  t0 := Tryz.underlying0
  a0 := Tryz.isAgg0
  z0 := Tryz.sizeOf0
  v0 := Tryz.zeroValue0
  t4 := Tryz.underlying4
  a4 := Tryz.isAgg4
  z4 := Tryz.sizeOf4
  v4 := Tryz.zeroValue4
  t5 := Tryz.underlying5
  a5 := Tryz.isAgg5
  z5 := Tryz.sizeOf5
  v5 := Tryz.zeroValue5
  t27 := Tryz.underlying132
  a27 := Tryz.isAgg132
  z27 := Tryz.sizeOf132
  t31 := Tryz.underlying136
  a31 := Tryz.isAgg136
  z31 := Tryz.sizeOf136
  v31 := Tryz.zeroValue136 }
end Go.Proofs

/- Contracts, by hand, of small functions of package strings at separators of one byte, and of package strf, in the printer's form. -/
namespace Go.Proofs.YtjidenkhgeoaiaaGreatDoor.Hand
open Go.RowKit Go.Proofs.YtjidenkhgeoaiaaGreatDoorW.PrintWords Go.Proofs.YtjidenkhgeoaiaaGreatDoorW.PrintLast Go.Proofs.YtjidenkhgeoaiaaGreatDoorW.PrintMore
set_option linter.unusedVariables false
set_option linter.unusedSimpArgs false

theorem info_u8 : (Tryz.prog.info? 5).map (fun i => (i.zero, i.size, i.bytes)) = some (some (.int .u8 0), 1, 1) := by kernel_rfl

theorem str_one (s : ByteArray) (c : UInt8) (h : s.data.toList = [c]) : s = ⟨#[c]⟩ := by
  obtain ⟨⟨l⟩⟩ := s
  simp at h
  rw [h]

/-- strings.Contains at a text of one byte. -/
def strings_Contains.f (a0 a1 : ByteArray) : Option Bool := match a1.data.toList with | [c] => some (decide (0 ≤ Lib.indexByte a0.data.toList c)) | _ => none
theorem strings_Contains.calls (a0 a1 : ByteArray) (r : Bool) (w : World) (h : strings_Contains.f a0 a1 = some r) :
    Calls Tryz.prog 64 #[.string a0, .string a1] w fun e w' => e = .returned (.bool r) ∧ Drawn0 w w' := by
  unfold strings_Contains.f at h
  split at h
  · rename_i c hc
    obtain rfl := str_one a1 c hc
    refine (Tryz.strings_Contains_one a0 c w).mono ?_
    rintro e w' ⟨rfl, rfl⟩
    cases h
    exact ⟨rfl, Drawn0.refl _⟩
  · cases h

/-- strf.Put. -/
def strf_Put.f (a0 : ByteArray) (a1 : Int) : Option (List Int × Int) :=
  if a1 < 1 then some ([], 1) else if 512 < a1 then some ([], 1) else if 0 ≤ Lib.indexByte a0.data.toList 0 then some ([], 3)
  else if a1 < (a0.size : Int) then some ([], 10) else some (bytesOf a0 ++ (List.replicate a1.toNat 0).drop a0.size, 0)
set_option maxHeartbeats 1000000 in
set_option maxRecDepth 100000 in
theorem strf_Put.calls (a0 : ByteArray) (a1 : Int) (r1 : List Int) (r2 : Int) (w : World) (h : strf_Put.f a0 a1 = some (r1, r2)) :
    Calls Tryz.prog 69 #[.string a0, .int .i64 a1] w fun e w' => ∃ v0_ : Value, e = .returned (.tuple #[v0_, .int .i64 r2]) ∧ Kd.R (Kd.int .u8) 5 w' w.heap.size (fun _ => True) v0_ r1 ∧ Below w.heap.size w w' := by
  unfold strf_Put.f at h
  by_cases c1 : a1 < 1
  · rw [if_pos c1] at h
    simp only [Option.some.injEq, Prod.mk.injEq] at h
    obtain ⟨rfl, rfl⟩ := h
    have b1 : decide (a1 < 1) = true := decide_eq_true c1
    go_enter Tryz.func69, Tryz.ntmps69
    go_wp2
    go_ret2
    exact ⟨_, rfl, Kd.R_nil _ _ _ _ _, Below.refl _ _⟩
  rw [if_neg c1] at h
  have b1 : decide (a1 < 1) = false := decide_eq_false c1
  by_cases c2 : 512 < a1
  · rw [if_pos c2] at h
    simp only [Option.some.injEq, Prod.mk.injEq] at h
    obtain ⟨rfl, rfl⟩ := h
    have b2 : decide (512 < a1) = true := decide_eq_true c2
    go_enter Tryz.func69, Tryz.ntmps69
    go_wp2
    go_ret2
    exact ⟨_, rfl, Kd.R_nil _ _ _ _ _, Below.refl _ _⟩
  rw [if_neg c2] at h
  have b2 : decide (512 < a1) = false := decide_eq_false c2
  by_cases c3 : 0 ≤ Lib.indexByte a0.data.toList 0
  · rw [if_pos c3] at h
    simp only [Option.some.injEq, Prod.mk.injEq] at h
    obtain ⟨rfl, rfl⟩ := h
    have hc : strings_Contains.f a0 ⟨#[0]⟩ = some true := by simp [strings_Contains.f, c3]
    clear c3
    go_enter Tryz.func69, Tryz.ntmps69
    go_wp2_with (go_at_call 64; (with_reducible refine (strings_Contains.calls a0 _ true _ hc).mono ?_); rintro e w' ⟨rfl, ⟨nd, rfl⟩⟩)
    go_ret2
    exact ⟨_, rfl, Kd.R_nil _ _ _ _ _, pw_below_drewN (Below.refl _ _) _⟩
  rw [if_neg c3] at h
  have hc : strings_Contains.f a0 ⟨#[0]⟩ = some false := by simp [strings_Contains.f, c3]
  have HC := Aside0.mk hc
  clear c3 hc
  by_cases c4 : a1 < (a0.size : Int)
  · rw [if_pos c4] at h
    simp only [Option.some.injEq, Prod.mk.injEq] at h
    obtain ⟨rfl, rfl⟩ := h
    have b4 : decide (a1 < (a0.size : Int)) = true := decide_eq_true c4
    go_enter Tryz.func69, Tryz.ntmps69
    go_wp2_with (go_at_call 64; (with_reducible refine (strings_Contains.calls a0 _ false _ HC.out).mono ?_); rintro e w' ⟨rfl, ⟨nd, rfl⟩⟩)
    go_ret2
    exact ⟨_, rfl, Kd.R_nil _ _ _ _ _, pw_below_drewN (Below.refl _ _) _⟩
  rw [if_neg c4] at h
  have b4 : decide (a1 < (a0.size : Int)) = false := decide_eq_false c4
  simp only [Option.some.injEq, Prod.mk.injEq] at h
  obtain ⟨hr, rfl⟩ := h
  have HR := Aside0.mk hr
  clear hr
  have HB := Aside0.mk (Below.refl w.heap.size w)
  have h0 : 0 ≤ a1 := by omega
  have hle : a1.toNat ≤ 281474976710656 := by omega
  have hfit : a0.size ≤ a1.toNat := by omega
  go_enter Tryz.func69, Tryz.ntmps69
  go_wp2_with (first
    | (go_at_call 64; (with_reducible refine (strings_Contains.calls a0 _ false _ HC.out).mono ?_); rintro e w' ⟨rfl, ⟨nd, rfl⟩⟩)
    | ((with_reducible refine gate_dst (N := 23) rfl ?_); refine Kd.R_make (Kd.int .u8) _ 5 rfl (N := 23) rfl 31 _ _ rfl a1 rfl rfl Tryz.underlying31 (.int .u8 0) 1 info_u8 rfl (by decide) (by omega) 0 (ok := fun _ => True) (okp := fun _ => True) rfl (fun _ hk => hk) trivial h0 (by omega) (Below.refl _ _) (Nat.le_refl _) ?_
       intro v1 w2 ho hb hg_ hnew_; clear hg_ hnew_
       obtain ⟨A1, k1, e1⟩ := Kd.R_slice ho; rw [List.length_replicate] at e1; subst e1
       have hb0 := below_step (pw_below_drewN HB.out _) hb
       have HO := Aside0.mk (Kd.R_lower ho (below_size (pw_below_drewN HB.out _)))
       have HB2 := Aside0.mk hb0
       clear ho hb hb0)
    | ((with_reducible refine gate_dst (N := 26) rfl ?_); refine R_copy_str (w0 := w) w.heap.size rfl _ _ 31 9 5 rfl Tryz.underlying31 (by kernel_rfl) _ (List.replicate a1.toNat 0) a0 _ rfl rfl (by rw [List.length_replicate]; exact hfit) HO.out HB2.out (below_size HB2.out) ?_
       intro w3 ho hb hg; clear hg
       have HO3 := Aside0.mk ho
       have HB3 := Aside0.mk hb
       clear ho hb HO HB2))
  go_ret2
  exact ⟨_, rfl, by rw [← HR.out]; exact HO3.out, HB3.out⟩
end Go.Proofs.YtjidenkhgeoaiaaGreatDoor.Hand

/- Plain words on cuts at one byte. -/
namespace Go.Proofs.YtjidenkhgeoaiaaGreatDoor.Hand
open Go.RowKit Go.Proofs.YtjidenkhgeoaiaaGreatDoorW.PrintWords Go.Proofs.YtjidenkhgeoaiaaGreatDoorW.PrintLast Go.Proofs.YtjidenkhgeoaiaaGreatDoorW.PrintMore
set_option linter.unusedVariables false
set_option linter.unusedSimpArgs false

theorem one_of (a : ByteArray) (b : UInt8) (h : a.data.toList = [b]) : a = ⟨#[b]⟩ := by
  cases a with | mk d => congr 1; exact Array.toList_inj.1 h
theorem indexB_one (x : ByteArray) (b : UInt8) : Lib.indexB x ⟨#[b]⟩ = Lib.indexByte x.data.toList b := by
  rw [Lib.one x ⟨#[b]⟩ rfl]
  congr 1
  show ((b.toNat : Nat) : Int).toNat.toUInt8 = b
  simp
theorem info_str : (Tryz.prog.info? 9).map (fun i => (i.zero, i.size, i.bytes)) = some (some (.string ByteArray.empty), 1, 16) := by kernel_rfl
end Go.Proofs.YtjidenkhgeoaiaaGreatDoor.Hand

/- Contracts, by hand, of package bytes at separators of one byte, and of strf.Loose and strf.Get, in the printer's form. -/
namespace Go.Proofs.YtjidenkhgeoaiaaGreatDoor.Hand
open Go.RowKit Go.Proofs.YtjidenkhgeoaiaaGreatDoorW.PrintWords Go.Proofs.YtjidenkhgeoaiaaGreatDoorW.PrintLast Go.Proofs.YtjidenkhgeoaiaaGreatDoorW.PrintMore
set_option linter.unusedVariables false
set_option linter.unusedSimpArgs false

/-- The extern bytealg.IndexByte at a row that is read. -/
theorem run_indexByteC (A : Option Addr) (n c : Nat) (xs : List Int) (w : World) (h : Kd.C (Kd.int .u8) w A n xs) (cv : Int) :
    (Extern.BytealgIndexByte.indexByte #[.slice A n c, .int .u8 cv]).run Tryz.prog w = .ok (.int .i64 (Lib.indexByte (Lib.bytesOf xs) cv.toNat.toUInt8)) w := by
  have hR := Kd.reads_of_C (enc := Value.int .u8) (d := (0 : Int)) (h1 := fun _ => rfl) h
  rcases Nat.eq_zero_or_pos n with h0 | hp
  · subst h0
    obtain rfl : xs = [] := List.eq_nil_of_length_eq_zero hR.1
    cases A with
    | none => exact Lib.run_indexByteNil w 0 c cv
    | some a => exact Lib.run_indexByteAt w a 0 c [] rfl (fun i hi => absurd hi (by omega)) cv
  · obtain ⟨ad, rfl, hc⟩ := hR.2.2 hp
    exact Lib.run_indexByteAt w ad n c xs hR.1 hc cv

set_option maxHeartbeats 1000000 in
set_option maxRecDepth 100000 in
theorem bytes_IndexByte.calls (A0 : Option Addr) (n c0 : Nat) (l0 : List Int) (cv : Int) (w : World) (hr0 : Kd.C (Kd.int .u8) w A0 n l0) :
    Calls Tryz.prog 118 #[.slice A0 n c0, .int .u8 cv] w fun e w' => e = .returned (.int .i64 (Lib.indexByte (Lib.bytesOf l0) cv.toNat.toUInt8)) ∧ Drawn0 w w' := by
  go_enter Tryz.func118, Tryz.ntmps118
  go_wp2
  rw [run_callFunc_extern Tryz.func133 (by kernel_rfl) (by kernel_rfl) (by kernel_rfl) (e := Extern.BytealgIndexByte.indexByte) (by kernel_rfl), run_indexByteC A0 n c0 l0 w hr0 cv]
  simp only [Result.andThen]
  rw [Oper.upon_value]
  go_wp2
  go_ret
  exact ⟨rfl, Drawn0.refl _⟩

set_option maxHeartbeats 1000000 in
set_option maxRecDepth 100000 in
/-- bytes.Index at a separator of one byte. -/
theorem bytes_Index_one (A0 : Option Addr) (n c0 : Nat) (l0 : List Int) (b2 o2 c1 : Nat) (cv : Int) (w : World) (hr0 : Kd.C (Kd.int .u8) w A0 n l0) (hc : w.cell? ⟨b2, o2, none⟩ = some (.int .u8 cv)) :
    Calls Tryz.prog 107 #[.slice A0 n c0, .slice (some ⟨b2, o2, none⟩) 1 c1] w fun e w' => e = .returned (.int .i64 (Lib.indexByte (Lib.bytesOf l0) cv.toNat.toUInt8)) ∧ Drawn0 w w' := by
  have HC := Aside0.mk hr0
  clear hr0
  go_enter Tryz.func107, Tryz.ntmps107
  go_wp2_with (go_at_call 118; (with_reducible refine (bytes_IndexByte.calls A0 n c0 l0 cv _ ?side1).mono ?_); (case side1 => exact HC.out); rintro e w' ⟨rfl, ⟨nd, rfl⟩⟩)
  go_ret
  exact ⟨rfl, Drawn0.step (Drawn0.refl _) _⟩

theorem indexByte_lt (l : List UInt8) (c : UInt8) : Lib.indexByte l c < l.length := by
  induction l with
  | nil => exact (by decide : (-1 : Int) < 0)
  | cons b l ih =>
    unfold Lib.indexByte
    have := Lib.indexByte_ge l c
    split
    · simp only [List.length_cons]; omega
    · split
      · simp only [List.length_cons]; omega
      · simp only [List.length_cons]; omega
/-- How many elements lie ahead of the first that is c. -/
def aheadOf (l0 : List Int) (c : UInt8) : Nat := if 0 ≤ Lib.indexByte (Lib.bytesOf l0) c then (Lib.indexByte (Lib.bytesOf l0) c).toNat else l0.length
theorem aheadOf_le (l0 : List Int) (c : UInt8) : aheadOf l0 c ≤ l0.length := by
  unfold aheadOf
  have h := indexByte_lt (Lib.bytesOf l0) c
  rw [Lib.bytesOf_length] at h
  split <;> omega

set_option maxHeartbeats 1000000 in
set_option maxRecDepth 100000 in
/-- bytes.Cut at a separator of one byte. -/
theorem bytes_Cut_one (A0 : Option Addr) (c0 : Nat) (l0 : List Int) (b2 o2 c1 : Nat) (cv : Int) (w : World) (hr0 : Kd.C (Kd.int .u8) w A0 l0.length l0) (hc0 : l0.length ≤ c0) (hc : w.cell? ⟨b2, o2, none⟩ = some (.int .u8 cv)) :
    Calls Tryz.prog 91 #[.slice A0 l0.length c0, .slice (some ⟨b2, o2, none⟩) 1 c1] w fun e w' => (∃ v2 f, e = .returned (.tuple #[.slice A0 (aheadOf l0 cv.toNat.toUInt8) c0, v2, .bool f])) ∧ Drawn0 w w' := by
  have hlt := indexByte_lt (Lib.bytesOf l0) cv.toNat.toUInt8
  rw [Lib.bytesOf_length] at hlt
  have hge := Lib.indexByte_ge (Lib.bytesOf l0) cv.toNat.toUInt8
  have ha : aheadOf l0 cv.toNat.toUInt8 = if 0 ≤ Lib.indexByte (Lib.bytesOf l0) cv.toNat.toUInt8 then (Lib.indexByte (Lib.bytesOf l0) cv.toNat.toUInt8).toNat else l0.length := rfl
  have hmax := hr0.2.1
  have hcon := bytes_Index_one A0 l0.length c0 l0 b2 o2 c1 cv w hr0 hc
  generalize Lib.indexByte (Lib.bytesOf l0) cv.toNat.toUInt8 = i at *
  generalize aheadOf l0 cv.toNat.toUInt8 = m at *
  have HCON := Aside0.mk hcon
  clear hcon hr0 hc
  by_cases h0 : 0 ≤ i
  · rw [if_pos h0] at ha
    subst ha
    obtain ⟨inf, hi, hz0, hz1, hz2⟩ := info_parts info_u8
    obtain ⟨hs1, _, _⟩ := print_take_of (P := Tryz.prog) (Value.int .u8) (0 : Int) 31 5 .i64 Tryz.underlying31 hi hz1 A0 c0 l0 i h0 (by omega) hc0
    obtain ⟨A', hs2, _, _⟩ := print_drop_of (P := Tryz.prog) (Value.int .u8) (0 : Int) 31 5 .i64 Tryz.underlying31 hi hz1 A0 c0 l0 (i + 1) (by omega) (by omega) hc0
    have hl : (l0.take i.toNat).length = i.toNat := by rw [List.length_take]; omega
    rw [hl] at hs1
    clear hi hz0 hz1 hz2 hl
    have hw : IntKind.i64.wrap (i + 1) = i + 1 := IntWalk.i64_in _ (by omega)
    have hd : decide (0 ≤ i) = true := decide_eq_true h0
    go_enter Tryz.func91, Tryz.ntmps91
    go_wp2_with (go_at_call 107; (with_reducible refine (HCON.out).mono ?_); rintro e w' ⟨rfl, ⟨nd, rfl⟩⟩)
    go_quiet (fail)
    go_wp2
    go_ret3
    exact ⟨⟨_, _, rfl⟩, by repeat (first | exact Drawn0.refl _ | apply Drawn0.step)⟩
  · rw [if_neg h0] at ha
    subst ha
    have hd : decide (0 ≤ i) = false := decide_eq_false h0
    go_enter Tryz.func91, Tryz.ntmps91
    go_wp2_with (go_at_call 107; (with_reducible refine (HCON.out).mono ?_); rintro e w' ⟨rfl, ⟨nd, rfl⟩⟩)
    go_ret3
    exact ⟨⟨_, _, rfl⟩, by repeat (first | exact Drawn0.refl _ | apply Drawn0.step)⟩

/-- strf.Loose. -/
def strf_Loose.f (l0 : List Int) : Option ByteArray := some (strOfNums (l0.take (aheadOf l0 0)))
set_option maxHeartbeats 1000000 in
set_option maxRecDepth 100000 in
theorem strf_Loose.calls (A0 : Option Addr) (c0 : Nat) (l0 : List Int) (r : ByteArray) (w : World) (hr0 : Kd.C (Kd.int .u8) w A0 l0.length l0) (hc0 : l0.length ≤ c0) (h : strf_Loose.f l0 = some r) :
    Calls Tryz.prog 74 #[.slice A0 l0.length c0] w fun e w' => e = .returned (.string r) ∧ Below w.heap.size w w' := by
  obtain rfl := Option.some.inj h
  have hle := aheadOf_le l0 0
  obtain ⟨inf, hi, hz0, hz1, hz2⟩ := info_parts info_u8
  obtain ⟨_, ht, _⟩ := print_take_of (P := Tryz.prog) (Value.int .u8) (0 : Int) 31 5 .i64 Tryz.underlying31 hi hz1 A0 c0 l0 (aheadOf l0 0 : Nat) (by omega) (by omega) hc0
  have htk := Aside0.mk (Kd.C_of_reads (enc := Value.int .u8) (h1 := fun _ => rfl) (ht w (Kd.reads_of_C (enc := Value.int .u8) (d := (0 : Int)) (h1 := fun _ => rfl) hr0)))
  rw [Int.toNat_natCast] at htk
  have hl : (l0.take (aheadOf l0 0)).length = aheadOf l0 0 := by rw [List.length_take]; omega
  rw [hl] at htk
  have HC := Aside0.mk hr0
  have HK := Aside0.mk hc0
  clear hr0 hc0 ht hl hi hz0 hz1 hz2 h
  generalize hx : aheadOf l0 0 = m at *
  have HX := Aside0.mk hx
  clear hx
  have kc := fun (w : World) (C : Array Value) (n c : Nat) => Lib.run_convert_bytes_const (P := Tryz.prog) w 31 5 C n c Tryz.underlying31 Tryz.underlying5
  go_enter Tryz.func74, Tryz.ntmps74
  go_wp2_with (go_at_call 91; (with_reducible refine (bytes_Cut_one A0 c0 l0 w.heap.size 0 1 0 _ ?side1 HK.out ?side2).mono ?_); (case side1 => repeat (first | exact HC.out | (with_reducible refine Kd.C_alloc ?_ _))); (case side2 => exact (cell_fresh _ _ _ _ 0).trans rfl); rintro e w' ⟨⟨v2, f, rfl⟩, ⟨nd, rfl⟩⟩; rw [show aheadOf l0 (Int.toNat (0 : Int)).toUInt8 = m from HX.out]; have hcv := Kd.C_string (P := Tryz.prog) (A := A0) (c := c0) Tryz.underlying31 Tryz.underlying5 Tryz.underlying9 (Kd.C_drewN (Kd.C_alloc htk.out (.cells #[.int .u8 0] 5 (1, 2))) nd))
  go_ret
  exact ⟨rfl, pw_below_drewN (below_alloc (Below.refl _ _) _) _⟩

/-- What is left behind the leading bytes c. -/
def skip (c : Int) : List Int → List Int
  | [] => []
  | x :: l => if x = c then skip c l else x :: l
def lenOf : Value → Nat
  | .slice _ n _ => n
  | _ => 0
set_option maxHeartbeats 1000000 in
set_option maxRecDepth 100000 in
theorem bytes_trimLeftByte_any (A0 : Option Addr) (c0 : Nat) (l0 : List Int) (cv : Int) (w : World) (hr0 : Kd.C (Kd.int .u8) w A0 l0.length l0) (hc0 : l0.length ≤ c0) :
    Calls Tryz.prog 92 #[.slice A0 l0.length c0, .int .u8 cv] w fun e w' => (∃ A c, e = .returned (.slice A (skip cv l0).length c) ∧ (skip cv l0).length ≤ c ∧ Kd.C (Kd.int .u8) w A (skip cv l0).length (skip cv l0)) ∧ w' = w := by
  have HR := Aside0.mk hr0
  have HC := Aside0.mk hc0
  clear hr0 hc0
  go_enter Tryz.func92, Tryz.ntmps92
  go_wp2
  go_loop [0] (fun v => ∃ A c l, v = .slice A l.length c ∧ Aside0 (l.length ≤ c) ∧ Aside0 (Kd.C (Kd.int .u8) w A l.length l) ∧ Aside0 (skip cv l = skip cv l0)) (fun v => lenOf v)
  case atStart => exact ⟨A0, c0, l0, rfl, HC, HR, ⟨rfl⟩⟩
  case round =>
    obtain ⟨A, c, l, rfl, hc, hr, hs⟩ := hrel
    match l with
    | [] =>
      go_wp2
      go_ret
      exact ⟨⟨none, 0, by rw [← hs.out]; rfl, by rw [← hs.out]; exact Nat.le_refl _, by rw [← hs.out]; exact Kd.C_nil _ _⟩, rfl⟩
    | x :: l =>
      obtain ⟨ad, rfl, hcell⟩ := Kd.at_int hr.out 0 (by omega) (by simp only [List.length_cons]; omega)
      rw [show ((0 : Int)).toNat = 0 from rfl, Addr.add_zero'] at hcell
      have hx : rd (x :: l) 0 = x := rfl
      rw [hx] at hcell
      clear hx
      obtain ⟨b, off, spot⟩ := ad
      obtain rfl : spot = none := by simpa using World.cell?_spot hcell
      have b1 : decide ((0 : Int) < (((x :: l).length : Nat) : Int)) = true := decide_eq_true (by simp only [List.length_cons]; omega)
      by_cases e : x = cv
      · subst e
        have hr1 := ReadsOf.drop_ (c := c) (Kd.reads_of_C (enc := Value.int .u8) (d := (0 : Int)) (h1 := fun _ => rfl) hr.out) 1 (by simp) hc.out
        rw [show (some (⟨b, off, none⟩ : Addr)).map (·.add 1) = some ⟨b, off + 1, none⟩ from rfl] at hr1
        have hr2 := Aside0.mk (Kd.C_of_reads (enc := Value.int .u8) (h1 := fun _ => rfl) hr1)
        change Aside0 (Kd.C (Kd.int .u8) w (if c = 1 then some ⟨b, off, none⟩ else some ⟨b, off + 1, none⟩) l.length l) at hr2
        have hl3 := Aside0.mk (show l.length ≤ c - 1 by have := hc.out; simp only [List.length_cons] at this; omega)
        have hs3 := Aside0.mk (show skip x l = skip x l0 by rw [← hs.out]; simp [skip])
        clear hs hr1
        have b2 : (x == x) = true := by simp
        go_wp2
        go_round
        case rel => exact ⟨_, _, l, rfl, hl3, hr2, hs3⟩
        case measure => simp [lenOf]
      · have hs3 := Aside0.mk (show skip cv l0 = x :: l by rw [← hs.out]; simp [skip, e])
        have b2 : (x == cv) = false := by simp [e]
        clear e hs
        go_wp2
        go_ret
        exact ⟨⟨_, c, by rw [hs3.out]; rfl, by rw [hs3.out]; exact hc.out, by rw [hs3.out]; exact hr.out⟩, rfl⟩

set_option maxHeartbeats 1000000 in
set_option maxRecDepth 100000 in
/-- bytes.TrimLeft at a cutset of one ASCII byte. -/
theorem bytes_TrimLeft_one (A0 : Option Addr) (c0 : Nat) (l0 : List Int) (cc : UInt8) (w : World) (hcc : cc.toNat < 128) (hr0 : Kd.C (Kd.int .u8) w A0 l0.length l0) (hc0 : l0.length ≤ c0) :
    Calls Tryz.prog 75 #[.slice A0 l0.length c0, .string ⟨#[cc]⟩] w fun e w' => (∃ A c, e = .returned (.slice A (skip (cc.toNat : Int) l0).length c) ∧ (skip (cc.toNat : Int) l0).length ≤ c ∧ Kd.C (Kd.int .u8) w A (skip (cc.toNat : Int) l0).length (skip (cc.toNat : Int) l0)) ∧ w' = w := by
  have hm := Kd.C_max hr0
  have HR := Aside0.mk hr0
  have HC := Aside0.mk hc0
  clear hr0 hc0
  match l0, hm, HR, HC with
  | [], _, HR, HC =>
    go_enter Tryz.func75, Tryz.ntmps75
    go_wp2
    go_ret
    exact ⟨⟨none, 0, rfl, Nat.le_refl _, Kd.C_nil _ _⟩, rfl⟩
  | x :: l, hm, HR, HC =>
    have b1 : ((((x :: l).length : Nat) : Int) == 0) = false := by simp only [List.length_cons]; rw [beq_eq_false_iff_ne]; omega
    have b2 : decide ((cc.toNat : Int) < 128) = true := decide_eq_true (by omega)
    have b3 : ¬ (128 : Int) ≤ (cc.toNat : Int) := by omega
    have b4 : (cc.toNat : Int) < 128 := by omega
    generalize hL : x :: l = L at *
    clear hL
    go_enter Tryz.func75, Tryz.ntmps75
    go_wp2_with (go_at_call 92; (with_reducible refine (bytes_trimLeftByte_any A0 c0 L _ _ HR.out HC.out).mono ?_); rintro e w' ⟨⟨A, c, rfl, h1, h2⟩, rfl⟩; have H1 := Aside0.mk h1; have H2 := Aside0.mk h2; clear h1 h2)
    go_ret
    exact ⟨⟨A, c, rfl, H1.out, H2.out⟩, rfl⟩

theorem bytes_TrimLeft_one' (A0 : Option Addr) (n c0 : Nat) (l0 : List Int) (cc : UInt8) (w : World) (hcc : cc.toNat < 128) (hn : l0.length = n) (hr0 : Kd.C (Kd.int .u8) w A0 l0.length l0) (hc0 : l0.length ≤ c0) :
    Calls Tryz.prog 75 #[.slice A0 n c0, .string ⟨#[cc]⟩] w fun e w' => (∃ A c, e = .returned (.slice A (skip (cc.toNat : Int) l0).length c) ∧ (skip (cc.toNat : Int) l0).length ≤ c ∧ Kd.C (Kd.int .u8) w A (skip (cc.toNat : Int) l0).length (skip (cc.toNat : Int) l0)) ∧ w' = w := by
  subst hn; exact bytes_TrimLeft_one A0 c0 l0 cc w hcc hr0 hc0

theorem strOfNums_size (xs : List Int) : (strOfNums xs).size = xs.length := by
  have h := Lib.strOfNums_toList xs
  have h2 : (strOfNums xs).toList.length = xs.length := by rw [h, Lib.bytesOf_length]
  rw [← h2, Lib.toList_data]; rfl
theorem skip_len (c : Int) (l : List Int) : (skip c l).length ≤ l.length := by
  induction l with
  | nil => exact Nat.le_refl _
  | cons x l ih => unfold skip; split <;> simp only [List.length_cons] <;> omega

/-- strf.Get. -/
def strf_Get.f (l0 : List Int) : Option (ByteArray × Int) := if 0 < (skip 0 (l0.drop (aheadOf l0 0))).length then some (⟨#[]⟩, 3) else some (strOfNums (l0.take (aheadOf l0 0)), 0)
set_option maxHeartbeats 1000000 in
set_option maxRecDepth 100000 in
theorem strf_Get.calls (A0 : Option Addr) (c0 : Nat) (l0 : List Int) (r1 : ByteArray) (r2 : Int) (w : World) (hr0 : Kd.C (Kd.int .u8) w A0 l0.length l0) (hc0 : l0.length ≤ c0) (h : strf_Get.f l0 = some (r1, r2)) :
    Calls Tryz.prog 58 #[.slice A0 l0.length c0] w fun e w' => e = .returned (.tuple #[.string r1, .int .i64 r2]) ∧ Below w.heap.size w w' := by
  unfold strf_Get.f at h
  have hle := aheadOf_le l0 0
  have hm := Kd.C_max hr0
  obtain ⟨s, hs⟩ : ∃ s, s = strOfNums (l0.take (aheadOf l0 0)) := ⟨_, rfl⟩
  have hz : s.size = aheadOf l0 0 := by rw [hs, strOfNums_size, List.length_take]; omega
  have hL : strf_Loose.f l0 = some s := by rw [hs]; rfl
  rw [← hs, ← hz] at h
  rw [← hz] at hle
  clear hs hz
  have HL := Aside0.mk hL
  obtain ⟨inf, hi, hz0, hz1, hz2⟩ := info_parts info_u8
  obtain ⟨A', hs2, ht2, hl2⟩ := print_drop_of (P := Tryz.prog) (Value.int .u8) (0 : Int) 31 5 .i64 Tryz.underlying31 hi hz1 A0 c0 l0 (s.size : Int) (by omega) (by omega) hc0
  rw [Int.toNat_natCast] at hs2 ht2 hl2
  have HT : Aside0 (Kd.C (Kd.int .u8) w A' (l0.drop s.size).length (l0.drop s.size)) := Aside0.mk (Kd.C_of_reads (enc := Value.int .u8) (h1 := fun _ => rfl) (ht2 w (Kd.reads_of_C (enc := Value.int .u8) (d := (0 : Int)) (h1 := fun _ => rfl) hr0)))
  have HR := Aside0.mk hr0
  have HC := Aside0.mk hc0
  have HL2 := Aside0.mk hl2
  clear hr0 hc0 hL hi hz0 hz1 hz2 ht2 hl2
  have hle2 : (s.size : Int) ≤ (l0.length : Int) := by omega
  by_cases c1 : 0 < (skip 0 (l0.drop s.size)).length
  · rw [if_pos c1] at h
    simp only [Option.some.injEq, Prod.mk.injEq] at h
    obtain ⟨rfl, rfl⟩ := h
    have b1 : decide ((0 : Int) < (((skip 0 (l0.drop s.size)).length : Nat) : Int)) = true := decide_eq_true (by omega)
    go_enter Tryz.func58, Tryz.ntmps58
    go_wp2_with (first
      | (go_at_call 74; (with_reducible refine (strf_Loose.calls A0 c0 l0 s _ HR.out HC.out HL.out).mono ?_); rintro e w1 ⟨rfl, hb⟩; have HB1 := Aside0.mk hb; clear hb)
      | (go_at_call 75; (with_reducible refine (bytes_TrimLeft_one' A' _ (c0 - s.size) (l0.drop s.size) 0 _ (by decide) List.length_drop (Kd.C_below HT.out HB1.out) HL2.out).mono ?_); rintro e w2 ⟨⟨A2, c2, rfl, _, _⟩, rfl⟩; rw [show (((0 : UInt8).toNat : Nat) : Int) = 0 from rfl]))
    go_ret2
    exact ⟨rfl, HB1.out⟩
  · rw [if_neg c1] at h
    simp only [Option.some.injEq, Prod.mk.injEq] at h
    obtain ⟨rfl, rfl⟩ := h
    have b1 : decide ((0 : Int) < (((skip 0 (l0.drop s.size)).length : Nat) : Int)) = false := decide_eq_false (by omega)
    go_enter Tryz.func58, Tryz.ntmps58
    go_wp2_with (first
      | (go_at_call 74; (with_reducible refine (strf_Loose.calls A0 c0 l0 s _ HR.out HC.out HL.out).mono ?_); rintro e w1 ⟨rfl, hb⟩; have HB1 := Aside0.mk hb; clear hb)
      | (go_at_call 75; (with_reducible refine (bytes_TrimLeft_one' A' _ (c0 - s.size) (l0.drop s.size) 0 _ (by decide) List.length_drop (Kd.C_below HT.out HB1.out) HL2.out).mono ?_); rintro e w2 ⟨⟨A2, c2, rfl, _, _⟩, rfl⟩; rw [show (((0 : UInt8).toNat : Nat) : Int) = 0 from rfl]))
    go_ret2
    exact ⟨rfl, HB1.out⟩
end Go.Proofs.YtjidenkhgeoaiaaGreatDoor.Hand

/- 'for part := range strings.SplitSeq(s, sep)' at a separator of one byte: the iterator's contract, and a law for the caller. -/
namespace Go.Proofs.YtjidenkhgeoaiaaGreatDoor.Hand
open Go.RowKit Go.Shelf Go.Proofs.YtjidenkhgeoaiaaGreatDoorW.PrintWords Go.Proofs.YtjidenkhgeoaiaaGreatDoorW.PrintLast
attribute [local go_sem] Oper.semAt_some
set_option linter.unusedVariables false
set_option linter.unusedSimpArgs false

/-- The pieces of a text between the bytes b. -/
def pieces (b : UInt8) (s : ByteArray) : List ByteArray := Lib.splitB ⟨#[b]⟩ 0 (Lib.countB s ⟨#[b]⟩) s
theorem pieces_miss (b : UInt8) (s : ByteArray) (h : Lib.indexByte s.data.toList b = -1) : pieces b s = [s] := by
  unfold pieces
  exact Lib.splitB_miss _ _ _ _ (by rw [indexB_one]; exact h)
theorem pieces_hit (b : UInt8) (s : ByteArray) (i : Nat) (h : Lib.indexByte s.data.toList b = i) : pieces b s = s.extract 0 i :: pieces b (s.extract (i + 1) s.size) := by
  unfold pieces
  have h1 : Lib.indexB s ⟨#[b]⟩ = i := by rw [indexB_one]; exact h
  rw [Lib.countB_hit s ⟨#[b]⟩ i (Nat.le_refl 1) h1, Nat.add_comm 1, Lib.splitB_hit _ _ _ _ _ h1]
  rfl
/-- How much is left, as the iterator's box tells it. -/
def leftOf (b2 : Nat) (W : World) : Nat := match W.cell? ⟨b2, 0, none⟩ with | some (.string s) => s.size | _ => 0
/-- What the iterator's own boxes hold. -/
structure Boxes (W : World) (b1 b2 b3 : Nat) (b : UInt8) (s : ByteArray) : Prop where
  c1 : W.cell? ⟨b1, 0, none⟩ = some (.string ⟨#[b]⟩)
  c2 : W.cell? ⟨b2, 0, none⟩ = some (.string s)
  f2 : W.frozen? ⟨b2, 0, none⟩ = false
  c3 : W.cell? ⟨b3, 0, none⟩ = some (.int .i64 0)
/-- The blocks that a round leaves alone. -/
def Same3 (W W' : World) (b1 b2 b3 : Nat) : Prop := W'.heap[b1]? = W.heap[b1]? ∧ W'.heap[b2]? = W.heap[b2]? ∧ W'.heap[b3]? = W.heap[b3]?

theorem cell_same {W W' : World} {k : Nat} (h : W'.heap[k]? = W.heap[k]?) (o : Nat) : W'.cell? ⟨k, o, none⟩ = W.cell? ⟨k, o, none⟩ ∧ W'.frozen? ⟨k, o, none⟩ = W.frozen? ⟨k, o, none⟩ := by
  unfold World.cell? World.frozen?
  simp only [h, and_self]
theorem Boxes.same {W W' : World} {b1 b2 b3 : Nat} {b : UInt8} {s : ByteArray} (h : Boxes W b1 b2 b3 b s) (k : Same3 W W' b1 b2 b3) : Boxes W' b1 b2 b3 b s :=
  ⟨(cell_same k.1 0).1.trans h.c1, (cell_same k.2.1 0).1.trans h.c2, (cell_same k.2.1 0).2.trans h.f2, (cell_same k.2.2 0).1.trans h.c3⟩
theorem Boxes.put {W : World} {b1 b2 b3 : Nat} {b : UInt8} {s : ByteArray} (h : Boxes W b1 b2 b3 b s) (h12 : b1 ≠ b2) (h32 : b3 ≠ b2) (x : ByteArray) : Boxes (W.setCell ⟨b2, 0, none⟩ (.string x)) b1 b2 b3 b x :=
  ⟨(cell_same (Below.heap_setCell W _ _ b1 h12) 0).1.trans h.c1, World.cell?_setCell_same' _ _ _ (by rw [h.c2]; rfl), by rw [World.frozen?_setCell]; exact h.f2, (cell_same (Below.heap_setCell W _ _ b3 h32) 0).1.trans h.c3⟩
theorem Boxes.left {W : World} {b1 b2 b3 : Nat} {b : UInt8} {s : ByteArray} (h : Boxes W b1 b2 b3 b s) : leftOf b2 W = s.size := by
  unfold leftOf; rw [h.c2]

set_option maxHeartbeats 4000000 in
set_option maxRecDepth 1000000 in
theorem splitSeq_body (F : Fence) (n : Nat) (hF : F.fn 112) (hX : F.fn 73) (hro : F.round = none) (hn : 1 ≤ n) (hd : F.depth = none)
    (hIdx : ∀ (x : ByteArray) (c : UInt8) (m : Nat) (W : World), CallsIn F m Tryz.prog 73 #[.string x, .string ⟨#[c]⟩] W fun e w' => e = .returned (.int .i64 (Lib.indexByte x.data.toList c)) ∧ w' = W)
    (l b1 b2 b3 : Nat) (h12 : b1 ≠ b2) (h32 : b3 ≠ b2) (b : UInt8) (s : ByteArray) (hs : s.size < 4294967281) (I : Nat → World → Prop) (Ix : World → Prop)
    (hI : ∀ j W v, I j W → I j (W.setCell ⟨b2, 0, none⟩ v))
    (hY : ∀ j x W, (pieces b s)[j]? = some x → I j W → YieldAt F (n - 1) Tryz.prog l #[.string x] W fun e W' => (e = .returned (.bool true) ∧ I (j + 1) W' ∧ Same3 W W' b1 b2 b3) ∨ (e = .returned (.bool false) ∧ Ix W'))
    (W : World) (hb : Boxes W b1 b2 b3 b s) (h0 : I 0 W) :
    CallsIn F n Tryz.prog 112 #[.func (.yield l) #[] #[], .pointer (some ⟨b1, 0, none⟩), .pointer (some ⟨b2, 0, none⟩), .pointer (some ⟨b3, 0, none⟩)] W fun e W' => (∃ v, e = .returned v) ∧ (I (pieces b s).length W' ∨ Ix W') := by
  refine callsIn_of_wp Tryz.func112 rfl hF ?_ hro
  simp only [Tryz.ntmps112, List.size_toArray, List.length_cons, List.length_nil, Nat.reduceAdd, Nat.reduceSub, Array.replicate_succ, Array.replicate_zero, List.push_toArray, List.append_toArray, List.nil_append, List.cons_append]
  obtain ⟨hc1, hc2, hf2, hc3⟩ := hb
  gi_wp2
  gi_loopw [7] (fun v wr => ∃ (j : Nat) (rest : ByteArray), Aside0 (Boxes wr b1 b2 b3 b rest) ∧ Aside0 (I j wr) ∧ Aside0 ((pieces b s).drop j = pieces b rest) ∧ Aside0 (rest.size < 4294967281)) (fun v wr => leftOf b2 wr)
  case atStart => exact ⟨0, s, ⟨⟨hc1, hc2, hf2, hc3⟩⟩, ⟨h0⟩, ⟨rfl⟩, ⟨hs⟩⟩
  case round =>
    obtain ⟨j, rest, hbx, hij, hdr, hsz⟩ := hrel
    clear hc1 hc2 hf2 hc3 h0
    obtain ⟨hc1, hc2, hf2, hc3⟩ := hbx.out
    have hge := Lib.indexByte_ge rest.data.toList b
    by_cases hm : Lib.indexByte rest.data.toList b = -1
    · have hp := pieces_miss b rest hm
      have hjx : (pieces b s)[j]? = some rest := by
        have := hdr.out
        rw [hp] at this
        rw [show j = j + 0 from rfl, ← List.getElem?_drop, this]; rfl
      have hjl : (pieces b s).length = j + 1 := by
        have := congrArg List.length (hdr.out.trans hp)
        rw [List.length_drop] at this
        simp at this
        omega
      obtain ⟨fn, tmps, assign, body, hy, hR⟩ := hY j rest wr hjx hij.out
      gi_wp2_with (gi_at_call 73; refine (hIdx rest b _ _).mono ?_; rintro e w' ⟨rfl, rfl⟩; rw [hm])
      refine hR.mono ?_
      rintro e W3 (⟨rfl, hJ3, hk3⟩ | ⟨rfl, hJx3⟩)
      · gi_wp2
        go_end0
        exact ⟨⟨_, rfl⟩, .inl (by rw [hjl]; exact hJ3)⟩
      · gi_wp2
        go_end0
        exact ⟨⟨_, rfl⟩, .inr hJx3⟩
    · obtain ⟨i, hi⟩ := Int.eq_ofNat_of_zero_le (show 0 ≤ Lib.indexByte rest.data.toList b by omega)
      have hp := pieces_hit b rest i hi
      have hroom : i < rest.size := by
        have := indexByte_lt rest.data.toList b
        rw [hi, ← Lib.size_eq] at this
        omega
      have hjx : (pieces b s)[j]? = some (rest.extract 0 i) := by
        have := hdr.out
        rw [hp] at this
        rw [show j = j + 0 from rfl, ← List.getElem?_drop, this]; rfl
      have hdr2 : (pieces b s).drop (j + 1) = pieces b (rest.extract (i + 1) rest.size) := by
        have := congrArg (List.drop 1) (hdr.out.trans hp)
        rw [List.drop_drop] at this
        exact this
      have hsz1 := hsz.out
      obtain ⟨fn, tmps, assign, body, hy, hR⟩ := hY j (rest.extract 0 i) wr hjx hij.out
      have hlt0 : ¬ ((i : Int) < 0) := by omega
      have c1 : (0 : Int) ≤ (i : Int) := by omega
      have c2 : (i : Int) ≤ (rest.size : Int) := by omega
      gi_wp2_with (gi_at_call 73; refine (hIdx rest b _ _).mono ?_; rintro e w' ⟨rfl, rfl⟩; rw [hi])
      refine hR.mono ?_
      rintro e W3 (⟨rfl, hJ3, hk3⟩ | ⟨rfl, hJx3⟩)
      · have hb3 := hbx.out.same hk3
        have hb4 := Aside0.mk (hb3.put h12 h32 (rest.extract (i + 1) rest.size))
        have hj4 := Aside0.mk (hI _ _ (.string (rest.extract (i + 1) rest.size)) hJ3)
        have hl3 := Aside0.mk hb3.left
        have hl0 := Aside0.mk hbx.out.left
        obtain ⟨hd1, hd2, hg2, hd3⟩ := hb3
        clear hc1 hc2 hf2 hc3 hk3 hJ3 hbx hij
        have hw2 : IntKind.i64.wrap ((i : Int) + 1) = (i : Int) + 1 := IntWalk.i64_in ((i : Int) + 1) (by omega)
        have q0 : (0 : Int) ≤ (i : Int) + 1 := by omega
        have q1 : (i : Int) + 1 ≤ (rest.size : Int) := by omega
        have q2 : ((i : Int) + 1).toNat = i + 1 := by omega
        gi_wp2
        go_roundw
        case rel => exact ⟨j + 1, _, hb4, hj4, ⟨hdr2⟩, ⟨by rw [ByteArray.size_extract]; omega⟩⟩
        case measure => rw [hb4.out.left, hl0.out, ByteArray.size_extract]; omega
      · gi_wp2
        refine bodyPost_ret (results_none rfl _ _ _) rfl ?_
        exact ⟨⟨_, rfl⟩, .inr hJx3⟩

/-- What a round leaves alone: the loop's own two blocks, and the iterator's boxes. -/
def KeepB (B : Nat) (W W' : World) (b1 b2 b3 : Nat) : Prop := W'.heap[B]? = W.heap[B]? ∧ W'.heap[B + 1]? = W.heap[B + 1]? ∧ Same3 W W' b1 b2 b3
/-- How a round may be left. -/
def roundWay (B b1 b2 b3 : Nat) (U : Nat → World → Prop) (Ux : Code → World → Prop) (j : Nat) (W : World) : Exit → Act → World → Prop
  | .normal, _, W' => KeepB B W W' b1 b2 b3 ∧ U (j + 1) W'
  | .ret, _, W' => KeepB B W W' b1 b2 b3 ∧ Ux .ret W'
  | .exit id, _, W' => KeepB B W W' b1 b2 b3 ∧ Ux (.exit id) W'
  | .goto t, _, W' => KeepB B W W' b1 b2 b3 ∧ Ux (.goto t) W'
  | .panic _, _, _ => False
  | .outgrown, _, _ => False
theorem same3_put {W : World} {b1 b2 b3 k : Nat} {o : Obj} (h1 : b1 ≠ k) (h2 : b2 ≠ k) (h3 : b3 ≠ k) : Same3 W (W.putObj k o) b1 b2 b3 :=
  ⟨World.putObj_heap_other h1, World.putObj_heap_other h2, World.putObj_heap_other h3⟩
theorem Same3.trans {A B C : World} {b1 b2 b3 : Nat} (h : Same3 A B b1 b2 b3) (k : Same3 B C b1 b2 b3) : Same3 A C b1 b2 b3 :=
  ⟨k.1.trans h.1, k.2.1.trans h.2.1, k.2.2.trans h.2.2⟩

set_option maxHeartbeats 4000000 in
/-- The statement 'for part := range strings.SplitSeq(s, sep) { body }', by what each round does. -/
theorem range_split {g : Operand} {p : Tmp} {assign body : Code} {Q : Exit → Act → World → Prop} {a : Act} {w : World} (n b1 b2 b3 : Nat) (hn : 2 ≤ n) (h12 : b1 ≠ b2) (h32 : b3 ≠ b2) (hl1 : b1 < w.heap.size) (hl2 : b2 < w.heap.size) (hl3 : b3 < w.heap.size) (b : UInt8) (s : ByteArray) (hs : s.size < 4294967281)
    (hg : a.eval g = .func (.func 112) #[] #[.pointer (some ⟨b1, 0, none⟩), .pointer (some ⟨b2, 0, none⟩), .pointer (some ⟨b3, 0, none⟩)])
    (hbx : Boxes w b1 b2 b3 b s) (U : Nat → World → Prop) (Ux : Code → World → Prop)
    (hU : ∀ j W v, U j W → U j (W.setCell ⟨b2, 0, none⟩ v)) (hUa : ∀ j W o, U j W → U j (W.alloc o))
    (hUp : ∀ j W k o, w.heap.size ≤ k → k ≤ w.heap.size + 1 → U j W → U j (W.putObj k o)) (hXp : ∀ c W k o, w.heap.size ≤ k → k ≤ w.heap.size + 1 → Ux c W → Ux c (W.putObj k o)) (h0 : U 0 w) (a₁ : ByteArray → Act)
    (hassign : ∀ (l : Nat) (x : ByteArray) (W : World) (K : Act → World → Prop), K (a₁ x) W → assign.wpIn (Fence.wide.inRound l) (n - 1 - 1) Tryz.prog (Exit.then K (fun _ _ _ => False)) { tmps := (#[p].zip #[Value.string x]).foldl (fun t (p, v) => t.setIfInBounds p v) a.tmps, defers := [] } W)
    (hbody : ∀ (l j : Nat) (x : ByteArray) (W : World), (pieces b s)[j]? = some x → U j W → w.heap.size + 1 < W.heap.size → body.wpIn (Fence.wide.inRound l) (n - 1 - 1) Tryz.prog (roundWay w.heap.size b1 b2 b3 U Ux j W) (a₁ x) W)
    (hdone : ∀ (W : World), U (pieces b s).length W → W.heap[w.heap.size]? = some (.deferred (some [])) → Q .normal { a with defers := { target := .collected w.heap.size, args := #[] } :: a.defers } W)
    (hstop : ∀ (c : Code) (W : World), Ux c W → W.heap[w.heap.size]? = some (.deferred (some [])) → c.wpIn Fence.wide n Tryz.prog Q { a with defers := { target := .collected w.heap.size, args := #[] } :: a.defers } W) :
    (Code.rangeFunc g #[p] assign body).wpIn Fence.wide n Tryz.prog Q a w := by
  refine wpIn_rangeFunc ?_
  intro fn hfn
  let rec_ : LoopState → Option Code → Loop := fun st pe => { state := st, pending := pe, fn, tmps := a.tmps, params := #[p], assign, body, defers := w.heap.size }
  have hsz1 : (w.alloc (.deferred (some []))).heap.size = w.heap.size + 1 := by simp
  let W1 := (w.alloc (.deferred (some []))).alloc (.loop (rec_ .ready none))
  have hL1 : W1.heap[w.heap.size + 1]? = some (.loop (rec_ .ready none)) := by
    have := World.alloc_heap_new (w.alloc (.deferred (some []))) (.loop (rec_ .ready none)); rwa [hsz1] at this
  have hK1 : W1.heap[w.heap.size]? = some (.deferred (some [])) := (Below.heap_alloc _ _ _ (by simp)).trans (World.alloc_heap_new w _)
  have hold : ∀ k, k < w.heap.size → W1.heap[k]? = w.heap[k]? := fun k hk => (Below.heap_alloc _ _ _ (by simp; omega)).trans (Below.heap_alloc _ _ _ hk)
  have hbx1 : Boxes W1 b1 b2 b3 b s := hbx.same ⟨hold _ hl1, hold _ hl2, hold _ hl3⟩
  refine ⟨w.heap.size + 1, [{ target := .collected w.heap.size, args := #[] }], W1, { target := .fn (.func 112) #[.pointer (some ⟨b1, 0, none⟩), .pointer (some ⟨b2, 0, none⟩), .pointer (some ⟨b3, 0, none⟩)], args := #[.func (.yield (w.heap.size + 1)) #[] #[]] }, W1, 112, #[.func (.yield (w.heap.size + 1)) #[] #[], .pointer (some ⟨b1, 0, none⟩), .pointer (some ⟨b2, 0, none⟩), .pointer (some ⟨b3, 0, none⟩)], W1, run_enterLoop_outer _ _ _ _ _, ?_, ?_, ?_, fun _ => by omega, ?_⟩
  · simp only [resolve, hg]
    simp [go_sem]
  · intro f' _; trivial
  · simp only [invoke]
    exact enters_of Tryz.func112 (by kernel_rfl) rfl _ _
  · have hput : ∀ (W : World) (o : Obj), W.heap[w.heap.size]? = some (.deferred (some [])) → (W.putObj (w.heap.size + 1) o).heap[w.heap.size]? = some (.deferred (some [])) := fun W o h => (World.putObj_heap_other (by omega)).trans h
    refine (splitSeq_body Fence.wide (n - 1) trivial trivial rfl (by omega) rfl (fun x c m W => callsIn_wide.2 (Tryz.strings_Index_one x c W)) (w.heap.size + 1) b1 b2 b3 h12 h32 b s hs
      (fun j W => U j W ∧ W.heap[w.heap.size + 1]? = some (.loop (rec_ .ready none)) ∧ W.heap[w.heap.size]? = some (.deferred (some [])))
      (fun W => ∃ c, Ux c W ∧ W.heap[w.heap.size + 1]? = some (.loop (rec_ .done (some c))) ∧ W.heap[w.heap.size]? = some (.deferred (some [])))
      ?_ ?_ W1 hbx1 ⟨hUa _ _ _ (hUa _ _ _ h0), hL1, hK1⟩).mono ?_
    · rintro j W v ⟨hu, hl, hk⟩
      exact ⟨hU _ _ _ hu, (Below.heap_setCell W _ _ _ (by simp only; omega)).trans hl, (Below.heap_setCell W _ _ _ (by simp only; omega)).trans hk⟩
    · rintro j x W hx ⟨hu, hl, hk⟩
      have hlt : w.heap.size + 1 < W.heap.size := (Array.getElem?_eq_some_iff.1 hl).1
      have hl2' : (W.putObj (w.heap.size + 1) (.loop (rec_ .busy none))).heap[w.heap.size + 1]? = some (.loop (rec_ .busy none)) := World.putObj_heap_same hlt
      refine ⟨fn, _, assign, body, run_yield (P := Tryz.prog) (args := #[.string x]) hl rfl, roundIn_of_wpIn hfn ?_⟩
      refine hassign _ x W _ ⟨_, run_beginRound hl rfl, ?_⟩
      refine wpIn_mono (hbody _ j x _ hx (hUp _ _ _ _ (by omega) (by omega) hu) (by rw [World.putObj_size]; exact hlt)) ?_
      have fin : ∀ (jump : Option Code) (W3 : World), KeepB w.heap.size (W.putObj (w.heap.size + 1) (.loop (rec_ .busy none))) W3 b1 b2 b3 →
          (Instr.endRound (w.heap.size + 1) jump).run Tryz.prog W3 = .ok (.bool jump.isNone) (W3.putObj (w.heap.size + 1) (.loop (rec_ (if jump.isNone then .ready else .done) jump))) ∧
          (W3.putObj (w.heap.size + 1) (.loop (rec_ (if jump.isNone then .ready else .done) jump))).heap[w.heap.size + 1]? = some (.loop (rec_ (if jump.isNone then .ready else .done) jump)) ∧
          (W3.putObj (w.heap.size + 1) (.loop (rec_ (if jump.isNone then .ready else .done) jump))).heap[w.heap.size]? = some (.deferred (some [])) ∧
          Same3 W (W3.putObj (w.heap.size + 1) (.loop (rec_ (if jump.isNone then .ready else .done) jump))) b1 b2 b3 := by
        rintro jump W3 ⟨k1, k2, k3⟩
        have hl3 := k2.trans hl2'
        exact ⟨run_endRound jump hl3, World.putObj_heap_same (Array.getElem?_eq_some_iff.1 hl3).1, hput _ _ (k1.trans (hput _ _ hk)), ((same3_put (by omega) (by omega) (by omega)).trans k3).trans (same3_put (by omega) (by omega) (by omega))⟩
      rintro e a3 W3 hp
      cases e with
      | normal =>
        obtain ⟨hk3, hu3⟩ := hp
        obtain ⟨hr, hl4, hk4, hs4⟩ := fin none W3 hk3
        exact ⟨_, _, hr, .inl ⟨rfl, ⟨hUp _ _ _ _ (by omega) (by omega) hu3, hl4, hk4⟩, hs4⟩⟩
      | ret =>
        obtain ⟨hk3, hu3⟩ := hp
        obtain ⟨hr, hl4, hk4, hs4⟩ := fin (some .ret) W3 hk3
        exact ⟨_, _, hr, .inr ⟨rfl, .ret, hXp _ _ _ _ (by omega) (by omega) hu3, hl4, hk4⟩⟩
      | exit id =>
        obtain ⟨hk3, hu3⟩ := hp
        obtain ⟨hr, hl4, hk4, hs4⟩ := fin (some (.exit id)) W3 hk3
        exact ⟨_, _, hr, .inr ⟨rfl, .exit id, hXp _ _ _ _ (by omega) (by omega) hu3, hl4, hk4⟩⟩
      | goto t =>
        obtain ⟨hk3, hu3⟩ := hp
        obtain ⟨hr, hl4, hk4, hs4⟩ := fin (some (.goto t)) W3 hk3
        exact ⟨_, _, hr, .inr ⟨rfl, .goto t, hXp _ _ _ _ (by omega) (by omega) hu3, hl4, hk4⟩⟩
      | panic ch => exact hp.elim
      | outgrown => exact hp.elim
    · rintro e W2 ⟨⟨v, rfl⟩, (⟨hu, hl, hk⟩ | ⟨c, hu, hl, hk⟩)⟩
      · exact ⟨none, _, run_endLoop hl (show LoopState.ready ≠ LoopState.busy by decide), hdone _ (hUp _ _ _ _ (by omega) (by omega) hu) (hput _ _ hk)⟩
      · exact ⟨some c, _, run_endLoop hl (show LoopState.done ≠ LoopState.busy by decide), hstop c _ (hXp _ _ _ _ (by omega) (by omega) hu) (hput _ _ hk)⟩
end Go.Proofs.YtjidenkhgeoaiaaGreatDoor.Hand

/- Contract, by hand, of strings.ContainsAny at two ASCII bytes or more, at any text. -/
namespace Go.Proofs.YtjidenkhgeoaiaaGreatDoor.Hand
open Go.RowKit Go.Proofs.YtjidenkhgeoaiaaGreatDoorW.PrintWords Go.Proofs.YtjidenkhgeoaiaaGreatDoorW.PrintLast Go.Proofs.YtjidenkhgeoaiaaGreatDoorW.PrintMore
set_option linter.unusedVariables false
set_option linter.unusedSimpArgs false

theorem encode_tail (r : Int) (h : 128 ≤ r) : 2 ≤ (Utf8.encode r).size ∧ (Utf8.encode r).size ≤ 4 ∧ ∃ b : UInt8, (Utf8.encode r)[(Utf8.encode r).size - 1]? = some b ∧ 128 ≤ b.toNat := by
  have hb : ∀ x : Nat, 128 ≤ (UInt8.ofNat (128 + x % 64)).toNat := fun x => by
    rw [UInt8.toNat_ofNat']
    omega
  have hc : 128 ≤ (if Utf8.valid r then r.toNat else Utf8.runeError) := by
    unfold Utf8.runeError; split <;> omega
  unfold Utf8.encode
  simp only
  generalize (if Utf8.valid r then r.toNat else Utf8.runeError) = c at hc ⊢
  rw [if_neg (by omega)]
  split
  · exact ⟨show 2 ≤ 2 by omega, show 2 ≤ 4 by omega, _, rfl, hb c⟩
  · split
    · exact ⟨show 2 ≤ 3 by omega, show 3 ≤ 4 by omega, _, rfl, hb c⟩
    · exact ⟨show 2 ≤ 4 by omega, show 4 ≤ 4 by omega, _, rfl, hb c⟩

/-- What a rune behind ASCII is made of: bytes of 128 and more. -/
theorem decode_skip (s : ByteArray) (pos : Nat) (h : pos < s.size) (ha : 128 ≤ (s[pos]'h).toNat) (k : Nat) (hk : k < (Utf8.decode s pos).2) : pos + k < s.size ∧ 128 ≤ (s.get! (pos + k)).toNat := by
  have hn : ¬ (s[pos]'h).toNat < 128 := by omega
  have h0 : 128 ≤ (s.get! (pos + 0)).toNat := by rw [get_at s pos h]; exact ha
  have one : ∀ m : Nat, m < 1 → k = m → pos + k < s.size ∧ 128 ≤ (s.get! (pos + k)).toNat := by
    intro m hm e
    obtain rfl : k = 0 := by omega
    exact ⟨by omega, h0⟩
  have hcont : ∀ j : Nat, (decide (pos + j < s.size) && (s.get! (pos + j)).toNat / 64 == 2) = true → pos + j < s.size ∧ 128 ≤ (s.get! (pos + j)).toNat := by
    intro j hj
    rw [Bool.and_eq_true] at hj
    have h1 := of_decide_eq_true hj.1
    have h2 : (s.get! (pos + j)).toNat / 64 = 2 := by simpa using hj.2
    exact ⟨h1, by omega⟩
  simp only [Utf8.decode, get_at s pos h, hn, if_false] at hk
  split at hk
  · rename_i c
    rw [Bool.and_eq_true] at c
    have c1 := hcont 1 c.2
    split at hk
    · simp only at hk
      have : k = 0 ∨ k = 1 := by omega
      rcases this with rfl | rfl
      · exact ⟨by omega, h0⟩
      · exact c1
    · exact one k (by simpa using hk) rfl
  · split at hk
    · rename_i c
      rw [Bool.and_eq_true, Bool.and_eq_true] at c
      have c1 := hcont 1 c.1.2
      have c2 := hcont 2 c.2
      split at hk
      · simp only at hk
        have : k = 0 ∨ k = 1 ∨ k = 2 := by omega
        rcases this with rfl | rfl | rfl
        · exact ⟨by omega, h0⟩
        · exact c1
        · exact c2
      · exact one k (by simpa using hk) rfl
    · split at hk
      · rename_i c
        rw [Bool.and_eq_true, Bool.and_eq_true, Bool.and_eq_true] at c
        have c1 := hcont 1 c.1.1.2
        have c2 := hcont 2 c.1.2
        have c3 := hcont 3 c.2
        split at hk
        · simp only at hk
          have : k = 0 ∨ k = 1 ∨ k = 2 ∨ k = 3 := by omega
          rcases this with rfl | rfl | rfl | rfl
          · exact ⟨by omega, h0⟩
          · exact c1
          · exact c2
          · exact c3
        · exact one k (by simpa using hk) rfl
      · exact one k (by simpa using hk) rfl

set_option maxHeartbeats 4000000 in
set_option maxRecDepth 1000000 in
theorem strings_IndexRune_high (t : ByteArray) (r : Int) (w : World) (h0 : 128 ≤ r) (h1 : r ≠ 65533) (h2 : Lib.validRune r = true) (hs : t.size < 4294967281) (hascii : ∀ (j : Nat) b, t.data.toList[j]? = some b → b.toNat < 128) :
    Calls Tryz.prog 124 #[.string t, .int .i32 r] w fun e w' => e = .returned (.int .i64 (-1)) ∧ Drawn0 w w' := by
  obtain ⟨e2, e4, b, eb, eb2⟩ := encode_tail r h0
  obtain ⟨rs, hrs⟩ : ∃ rs, Utf8.encode r = rs := ⟨_, rfl⟩
  rw [hrs] at e2 e4 eb
  obtain ⟨m, hm⟩ : ∃ m, rs.size = m + 1 := ⟨rs.size - 1, by omega⟩
  have hmr : m < rs.size := by omega
  have hmri : (m : Int) < (rs.size : Int) := by omega
  rw [show rs.size - 1 = m by omega, getElem?_pos rs _ hmr] at eb
  have hw1 : IntKind.i64.wrap ((rs.size : Int) - 1) = (m : Int) := by
    have := IntWalk.i64_in ((rs.size : Int) - 1) (by omega)
    omega
  obtain ⟨y, hy⟩ : ∃ y : UInt8, rs[m]'hmr = y := ⟨_, rfl⟩
  have hy8 : 128 ≤ y.toNat := by
    rw [hy] at eb
    cases eb
    exact eb2
  have HS := Aside0.mk hm
  clear hm e2 e4
  have HA := Aside0.mk hascii
  clear hascii eb eb2
  have b0 : decide ((0 : Int) ≤ r) = true := decide_eq_true (by omega)
  have b1 : decide (r < 128) = false := decide_eq_false (by omega)
  have b2 : (r == 65533) = false := beq_eq_false_iff_ne.2 h1
  go_enter Tryz.func124, Tryz.ntmps124
  go_wp2_with (go_at_call 135; refine (Tryz.utf8_ValidRune r w).mono ?_; rintro e w' ⟨rfl, rfl⟩; rw [h2])
  go_step3
  go_wp2
  go_loopg [9] 1 (fun g v wx => v = .int .i64 (m : Int) ∧ wx = w')
  case atStart => exact ⟨rfl, rfl⟩
  case round =>
    obtain ⟨rfl, rfl⟩ := hrel
    by_cases c1 : m < t.size
    · have c2 : (m : Int) < (t.size : Int) := by omega
      obtain ⟨x, hx⟩ : ∃ x : UInt8, t[m]'c1 = x := ⟨_, rfl⟩
      have hx8 : x.toNat < 128 := HA.out m x (by rw [← hx]; exact Lib.data_getElem? t m c1)
      have hne : ((x.toNat : Int) != (y.toNat : Int)) = true := bne_iff_ne.2 (by omega)
      have hno : Lib.indexByte (t.extract (m + 1) t.size).data.toList y = -1 := by
        have h1 := Lib.indexByte_ge (t.extract (m + 1) t.size).data.toList y
        have h2 : ¬ 0 ≤ Lib.indexByte (t.extract (m + 1) t.size).data.toList y := fun h => by
          have h3 := Lib.contains_iff_indexByte (t.extract (m + 1) t.size).data.toList y
          rw [decide_eq_true h] at h3
          have h4 : y ∈ (t.extract (m + 1) t.size).data.toList := by simpa using h3
          rw [Lib.extract_data] at h4
          have h5 := List.mem_of_mem_drop (List.mem_of_mem_take h4)
          obtain ⟨j, hj, e⟩ := List.getElem_of_mem h5
          have := HA.out j y (by rw [List.getElem?_eq_getElem hj, e])
          omega
        omega
      have hI : ∀ (W : World) n, Calls Tryz.prog 19 #[.string (t.extract (m + 1) t.size), .int .u8 (y.toNat : Int)] (W.drewN n) (fun e w' => e = .returned (.int .i64 (-1)) ∧ ∃ k, w' = (W.drewN n).drewN k) := fun W n => (Tryz.strings_IndexByte (t.extract (m + 1) t.size) (y.toNat : Int) (W.drewN n)).mono fun e w' h => ⟨by rw [h.1, show ((y.toNat : Int)).toNat.toUInt8 = y by simp, hno], 0, h.2⟩
      have HQ := Aside0.mk hI
      clear hI
      clear hno
      have hw2 : IntKind.i64.wrap ((m : Int) + 1) = (m : Int) + 1 := IntWalk.i64_in ((m : Int) + 1) (by omega)
      have q0 : (0 : Int) ≤ (m : Int) + 1 := by omega
      have q1 : (m : Int) + 1 ≤ (t.size : Int) := by omega
      have q2 : ((m : Int) + 1).toNat = m + 1 := by omega
      go_wp2
      go_step3
      go_wp2
      go_quiet (fail)
      have hwq : Aside0 (Drawn0 wr (wr.drewN nq)) := ⟨⟨nq, rfl⟩⟩
      generalize wr.drewN nq = wq at hwq ⊢
      go_wp2
      go_quiet ((go_at_call 19; exact Calls.quiet_of (HQ.out _ _)))
      go_wp2
      repeat rw [Exit.noGoto_ret]
      simp only [Exit.inBlock, Exit.then, Exit.noGoto]
      go_ret
      exact ⟨rfl, Drawn0.step hwq.out _⟩
    · have c2 : ¬ (m : Int) < (t.size : Int) := by omega
      go_wp2
      go_ret
      exact ⟨rfl, Drawn0.refl _⟩

set_option maxHeartbeats 4000000 in
set_option maxRecDepth 1000000 in
theorem strings_IndexRune_err (t : ByteArray) (w : World) (hascii : ∀ (j : Nat) b, t.data.toList[j]? = some b → b.toNat < 128) :
    Calls Tryz.prog 124 #[.string t, .int .i32 65533] w fun e w' => e = .returned (.int .i64 (-1)) ∧ Below w.heap.size w w' := by
  have HA := Aside0.mk hascii
  clear hascii
  go_enter Tryz.func124, Tryz.ntmps124
  go_wp2
  go_loopg [5, 6] t.size (fun g _ _ wx => ∃ i : Nat, i + g = t.size ∧ wx = w.iter t i)
  case atStart => exact ⟨0, by omega, rfl⟩
  case round =>
    obtain ⟨i, hig, rfl⟩ := hrel
    cases gk with
    | zero =>
      obtain rfl : i = t.size := by omega
      have hnx := run_next_end (P := Tryz.prog) w t t.size
      go_wp2
      go_ret
      exact ⟨rfl, (Below.refl _ _).alloc (Nat.le_refl _) _⟩
    | succ g =>
      have hi : i < t.size := by omega
      obtain ⟨x, hx⟩ : ∃ x : UInt8, t[i]'hi = x := ⟨_, rfl⟩
      have hx8 : x.toNat < 128 := HA.out i x (by rw [← hx]; exact Lib.data_getElem? t i hi)
      have hnx := fun ty => run_next_ascii (P := Tryz.prog) w t i ty hi (by rw [hx]; exact hx8)
      rw [hx] at hnx
      have hne : ((x.toNat : Int) == 65533) = false := beq_eq_false_iff_ne.2 (by omega)
      go_wp2
      go_roundg g
      case measure => omega
      case rel => exact ⟨i + 1, by omega, rfl⟩

/-- At ASCII text: a rune behind ASCII is none of it. -/
theorem strings_IndexRune_any (t : ByteArray) (r : Int) (w : World) (h0 : 0 ≤ r) (h2 : Lib.validRune r = true) (hs : t.size < 4294967281) (hascii : ∀ (j : Nat) b, t.data.toList[j]? = some b → b.toNat < 128) :
    Calls Tryz.prog 124 #[.string t, .int .i32 r] w fun e w' => e = .returned (.int .i64 (if r < 128 then Lib.indexByte t.data.toList r.toNat.toUInt8 else -1)) ∧ Below w.heap.size w w' := by
  by_cases h1 : r < 128
  · rw [if_pos h1]
    exact (Tryz.strings_IndexRune_ascii t r w h0 h1).mono fun e w' h => ⟨h.1, by rw [h.2]; exact Below.refl _ _⟩
  · rw [if_neg h1]
    by_cases h3 : r = 65533
    · subst h3
      exact strings_IndexRune_err t w hascii
    · exact (strings_IndexRune_high t r w (by omega) h3 h2 hs hascii).mono fun e w' h => ⟨h.1, h.2.below⟩

/-- An iterator over a text, in a block of its own. -/
def setIter (w : World) (g : Nat) (s : ByteArray) (p : Nat) : World := { w with heap := w.heap.setIfInBounds g (.stringIter s p) }
theorem run_next_at (P : Program) (W : World) (g : Nat) (s : ByteArray) (pos : Nat) (ty : TypeId) (hg : W.heap[g]? = some (.stringIter s pos)) (h : pos < s.size) :
    (Instr.next (.pointer (some ⟨g, 0, none⟩)) true ty).run P W = .ok (.tuple #[.bool true, .int .i64 pos, .int .i32 (Utf8.decode s pos).1]) (setIter W g s (pos + (Utf8.decode s pos).2)) := by
  simp only [Instr.next, getObj, setObj, Sem.run_bind, Sem.run, hg, Result.andThen, h, if_true, setIter]
  simp [goInt]
theorem run_next_stop (P : Program) (W : World) (g : Nat) (s : ByteArray) (pos : Nat) (ty : TypeId) (hg : W.heap[g]? = some (.stringIter s pos)) (h : ¬ pos < s.size) :
    (Instr.next (.pointer (some ⟨g, 0, none⟩)) true ty).run P W = .ok (.tuple #[.bool false]) W := by
  simp [Instr.next, getObj, Sem.run, hg, h]
theorem setIter_at (W : World) (g : Nat) (s : ByteArray) (p : Nat) (h : g < W.heap.size) : (setIter W g s p).heap[g]? = some (.stringIter s p) := by
  simp [setIter, h]
theorem setIter_size (W : World) (g : Nat) (s : ByteArray) (p : Nat) : (setIter W g s p).heap.size = W.heap.size := by
  simp [setIter]
theorem setIter_below {w W : World} (g : Nat) (s : ByteArray) (p : Nat) (h : Below w.heap.size w W) (hg : w.heap.size ≤ g) : Below w.heap.size w (setIter W g s p) :=
  h.trans ⟨rfl, rfl, rfl, by rw [setIter_size]; exact Nat.le_refl _, fun k hk => by simp only [setIter]; rw [Array.getElem?_setIfInBounds, if_neg (by omega)]⟩
theorem decode_width (s : ByteArray) (pos : Nat) (h : pos < s.size) : 1 ≤ (Utf8.decode s pos).2 := Lib.width_pos s pos
theorem rune_ok (s : ByteArray) (pos : Nat) : Lib.validRune ((Utf8.decode s pos).1 : Int) = true := by
  have := Lib.rune_valid (s.extract pos s.size)
  rw [Lib.tail_decode] at this
  simpa using this

/-- No byte of the text ahead of the place is one of the set. -/
theorem noAny_skip {s chars : ByteArray} {i : Nat} (h : Lib.NoAny s.data.toList chars.data.toList i) (hi : i < s.size) (hx : 128 ≤ (s[i]'hi).toNat) (hascii : ∀ (j : Nat) b, chars.data.toList[j]? = some b → b.toNat < 128) : Lib.NoAny s.data.toList chars.data.toList (i + (Utf8.decode s i).2) := by
  intro j b hj hb
  by_cases hji : j < i
  · exact h j b hji hb
  · have := decode_skip s i hi hx (j - i) (by omega)
    rw [show i + (j - i) = j by omega] at this
    have hb2 : s.get! j = b := by
      have h1 := Lib.data_getElem? s j this.1
      rw [hb] at h1
      have h2 : s.get! j = s[j]'this.1 := by simp [ByteArray.get!, getElem!_pos, this.1]; rfl
      rw [h2]; exact (Option.some.inj h1).symm
    rw [hb2] at this
    cases hc : chars.data.toList.contains b
    · rfl
    · have hm : b ∈ chars.data.toList := by simpa using hc
      obtain ⟨k, hk, e⟩ := List.getElem_of_mem hm
      have := hascii k b (by rw [List.getElem?_eq_getElem hk, e])
      omega

set_option maxHeartbeats 8000000 in
set_option maxRecDepth 1000000 in
theorem strings_IndexAny_few (s chars : ByteArray) (w : World) (h2 : 2 ≤ chars.size) (h8 : s.size ≤ 8) (hcs : chars.size < 4294967281) (hascii : ∀ (j : Nat) b, chars.data.toList[j]? = some b → b.toNat < 128) :
    Calls Tryz.prog 114 #[.string s, .string chars] w fun e w' => e = .returned (.int .i64 (Lib.indexAny s.data.toList chars.data.toList)) ∧ Below w.heap.size w w' := by
  have HA := Aside0.mk hascii
  clear hascii
  have hemp : chars.toList.isEmpty = false := by
    rw [Lib.toList_data]
    cases h : chars.data.toList with
    | nil => have := Lib.size_eq chars; rw [h, List.length_nil] at this; omega
    | cons _ _ => rfl
  have hn1 : ((chars.size : Int) == 1) = false := beq_eq_false_iff_ne.2 (by omega)
  have h8z : decide ((8 : Int) < (s.size : Int)) = false := decide_eq_false (by omega)
  have HU := Aside0.mk (Any.strings_shouldUseASCIISet { Tryz.lays153 with } (s.size : Int) w)
  go_enter Tryz.func114, Tryz.ntmps114
  go_wp2_with (go_at_call 125; (refine HU.out.mono ?_); rintro e w' ⟨rfl, hw⟩; rw [hw, h8z])
  clear HU
  go_loopg [9, 10] s.size (fun g _ _ wx => ∃ i : Nat, i + g = s.size ∧ Aside0 (wx.heap[w.heap.size]? = some (.stringIter s i)) ∧ Aside0 (Below w.heap.size w wx) ∧ Aside0 (Lib.NoAny s.data.toList chars.data.toList i))
  case atStart => exact ⟨0, by omega, ⟨World.iter_heap _ _ _⟩, ⟨(Below.refl _ _).alloc (Nat.le_refl _) _⟩, ⟨Lib.NoAny.zero _ _⟩⟩
  case round =>
    obtain ⟨i, hig, hit, hbl, hno⟩ := hrel
    cases gk with
    | zero =>
      obtain rfl : i = s.size := by omega
      have hnx := fun ty => run_next_stop Tryz.prog wr w.heap.size s s.size ty hit.out (Nat.lt_irrefl _)
      go_wp2
      go_ret
      exact ⟨by rw [Lib.indexAny_none (by rw [← Lib.size_eq]; exact hno.out)]; rfl, hbl.out⟩
    | succ g =>
      have hi : i < s.size := by omega
      have hlt : w.heap.size < wr.heap.size := by
        rcases Nat.lt_or_ge w.heap.size wr.heap.size with h | h
        · exact h
        · have := hit.out; rw [Array.getElem?_eq_none h] at this; cases this
      have hnx := fun ty => run_next_at Tryz.prog wr w.heap.size s i ty hit.out hi
      have hwd := decode_width s i hi
      have hro := rune_ok s i
      have HR := Aside0.mk (fun W => strings_IndexRune_any chars ((Utf8.decode s i).1 : Int) W (by omega) hro hcs HA.out)
      have hit2 := Aside0.mk (setIter_at wr w.heap.size s (i + (Utf8.decode s i).2) hlt)
      have hsz2 := Aside0.mk (show w.heap.size < (setIter wr w.heap.size s (i + (Utf8.decode s i).2)).heap.size by rw [setIter_size]; exact hlt)
      have hb2 := Aside0.mk (setIter_below w.heap.size s (i + (Utf8.decode s i).2) hbl.out (Nat.le_refl _))
      obtain ⟨x, hx⟩ : ∃ x : UInt8, s[i]'hi = x := ⟨_, rfl⟩
      have Hx := Aside0.mk (show s.data.toList[i]? = some x by rw [← hx]; exact Lib.data_getElem? s i hi)
      have hcase : (x.toNat < 128 ∧ Utf8.decode s i = (x.toNat, 1)) ∨ (128 ≤ x.toNat ∧ 128 ≤ (Utf8.decode s i).1) := by
        rcases Nat.lt_or_ge x.toNat 128 with h | h
        · exact .inl ⟨h, by rw [decode_ascii s i hi (by rw [hx]; exact h), hx]⟩
        · exact .inr ⟨h, (decode_high s i hi (by rw [hx]; exact h)).1⟩
      have Hskip := Aside0.mk (fun h => noAny_skip hno.out hi (by rw [hx]; exact h) HA.out)
      have hsz1 : i + (Utf8.decode s i).2 ≤ s.size := by
        rcases hcase with ⟨_, e⟩ | ⟨h, _⟩
        · rw [e]; exact hi
        · have := decode_skip s i hi (by rw [hx]; exact h) ((Utf8.decode s i).2 - 1) (by omega)
          omega
      have HZ := Aside0.mk hsz1
      have HW := Aside0.mk hwd
      have HC := Aside0.mk hcase
      clear hcase hx hwd hro hsz1
      generalize Utf8.decode s i = dc at *
      obtain ⟨r, wd⟩ := dc
      obtain ⟨v, hv⟩ : ∃ v : Int, (if (r : Int) < 128 then Lib.indexByte chars.data.toList ((r : Int)).toNat.toUInt8 else -1) = v := ⟨_, rfl⟩
      have HV := Aside0.mk hv
      have HRV := Aside0.mk (fun W => (HR.out W).mono fun e w' h => (⟨by rw [h.1, hv], h.2⟩ : e = .returned (.int .i64 v) ∧ Below W.heap.size W w'))
      clear hv HR
      by_cases h0 : 0 ≤ v
      · have d0 : decide ((0 : Int) ≤ v) = true := decide_eq_true h0
        go_wp2_with (go_at_call 124; (refine (HRV.out _).mono ?_); rintro e w2 ⟨rfl, hb⟩; have HB2 := Aside0.mk hb; clear hb)
        go_ret
        have hc := HC.out
        have hv := HV.out
        rcases hc with ⟨h128, hr⟩ | ⟨_, hr⟩
        · simp only [Prod.mk.injEq] at hr
          rw [if_pos (by omega), hr.1, show ((x.toNat : Int)).toNat.toUInt8 = x by simp] at hv
          have hin : chars.data.toList.contains x = true := by rw [Lib.contains_iff_indexByte, hv, decide_eq_true h0]
          exact ⟨by rw [Lib.indexAny_hit hno.out Hx.out hin]; rfl, below_step hb2.out HB2.out⟩
        · have hr2 : 128 ≤ r := hr
          rw [if_neg (by omega)] at hv
          omega
      · have d0 : decide ((0 : Int) ≤ v) = false := decide_eq_false h0
        have HN2 : Aside0 (Lib.NoAny s.data.toList chars.data.toList (i + wd)) := ⟨by
          have hc := HC.out
          have hv := HV.out
          rcases hc with ⟨h128, hr⟩ | ⟨h128, hr⟩
          · simp only [Prod.mk.injEq] at hr
            rw [if_pos (by omega), hr.1, show ((x.toNat : Int)).toNat.toUInt8 = x by simp] at hv
            have hin : chars.data.toList.contains x = false := by rw [Lib.contains_iff_indexByte, hv, decide_eq_false h0]
            rw [hr.2]
            exact hno.out.succ Hx.out hin
          · exact Hskip.out h128⟩
        have hz : i + wd ≤ s.size := HZ.out
        have hw1 : 1 ≤ wd := HW.out
        go_wp2_with (go_at_call 124; (refine (HRV.out _).mono ?_); rintro e w2 ⟨rfl, hb⟩; have HB2 := Aside0.mk hb; clear hb)
        go_roundg (s.size - (i + wd))
        case measure => omega
        case rel => exact ⟨i + wd, by omega, ⟨by rw [HB2.out.block _ hsz2.out]; exact hit2.out⟩, ⟨below_step hb2.out HB2.out⟩, HN2⟩

theorem hv_sset : ∀ w, (zeroValue 154).run Tryz.prog w = .ok (.agg (Array.replicate 256 (.bool false))) w := by
  intro w; kernel_rfl
/-- strings.ContainsAny, the set being two ASCII bytes or more. -/
def strings_ContainsAny.f (s chars : ByteArray) : Option Bool :=
  if 2 ≤ chars.size ∧ chars.size < 4294967281 ∧ s.size < 4294967281 ∧ (chars.data.toList.all fun b => decide (b.toNat < 128)) = true then some (Lib.containsAny s.data.toList chars.data.toList) else none
set_option maxHeartbeats 4000000 in
set_option maxRecDepth 1000000 in
theorem strings_ContainsAny.calls (a0 a1 : ByteArray) (r : Bool) (w : World) (h : strings_ContainsAny.f a0 a1 = some r) :
    Calls Tryz.prog 100 #[.string a0, .string a1] w fun e w' => e = .returned (.bool r) ∧ Below w.heap.size w w' := by
  unfold strings_ContainsAny.f at h
  split at h
  case isFalse => cases h
  rename_i hc
  obtain ⟨h2, hcs, hs, hall⟩ := hc
  have hascii : ∀ (j : Nat) b, a1.data.toList[j]? = some b → b.toNat < 128 := fun j b hb => by
    have := List.all_eq_true.1 hall b (List.mem_of_getElem? hb)
    simpa using this
  have hI : ∀ W : World, Calls Tryz.prog 114 #[.string a0, .string a1] W fun e w' => e = .returned (.int .i64 (Lib.indexAny a0.data.toList a1.data.toList)) ∧ Below W.heap.size W w' := fun W => by
    by_cases h8 : a0.size ≤ 8
    · exact strings_IndexAny_few a0 a1 W h2 h8 hcs hascii
    · exact (Tryz.strings_IndexAny_long hv_sset a0 a1 W h2 (by omega) hs hcs hascii).mono fun e w' h => ⟨h.1, by rw [h.2]; exact ((Below.refl _ _).alloc (Nat.le_refl _) _).alloc (by simp) _⟩
  have HI := Aside0.mk hI
  have hr : decide (0 ≤ Lib.indexAny a0.data.toList a1.data.toList) = r := by
    simpa [Lib.containsAny] using h
  have HR := Aside0.mk hr
  clear hI hr h hall hascii
  generalize Lib.indexAny a0.data.toList a1.data.toList = v at *
  go_enter Tryz.func100, Tryz.ntmps100
  go_wp2_with (go_at_call 114; (refine (HI.out _).mono ?_); rintro e w2 ⟨rfl, hb⟩; have HB2 := Aside0.mk hb; clear hb)
  go_ret
  exact ⟨by rw [← HR.out]; rfl, HB2.out⟩
end Go.Proofs.YtjidenkhgeoaiaaGreatDoor.Hand

namespace Go.Proofs.YtjidenkhgeoaiaaGreatDoor.P
open Go.RowKit Go.Proofs.YtjidenkhgeoaiaaGreatDoorW.PrintWords Go.Proofs.YtjidenkhgeoaiaaGreatDoorW.PrintLast Go.Proofs.YtjidenkhgeoaiaaGreatDoorW.PrintMore Go.Proofs.YtjidenkhgeoaiaaGreatDoor.Hand
attribute [local go_sem] max2_int min2_int max_two min_two max_three min_three max_four min_four   -- for this text's walks alone
set_option linter.unusedVariables false
set_option linter.unusedSimpArgs false

/-! ### ppath_Name: function 81 -/
def ppath_Name.j0 : Nat → ByteArray → Bool → Option (Bool)
 | 0, _, _ => none
 | k + 1, x0, x3 => if x3 = true then (some false) else (if x0.toList = ([46] : List UInt8) then (some false) else (if x0.toList = ([46, 46] : List UInt8) then (some false) else ((strings_ContainsAny.f x0 (⟨#[47, 0]⟩ : ByteArray)).bind fun t453 => (some (!t453)))))
def ppath_Name.f (k : Nat) (a0 : ByteArray) : Option (Bool) := if a0.toList = ([] : List UInt8) then (ppath_Name.j0 k a0 true) else (ppath_Name.j0 k a0 (decide ((a0.size : Int) > 60)))
theorem ppath_Name.mono_l : ∀ k, (∀ y0 y1, LeO (ppath_Name.j0 k y0 y1) (ppath_Name.j0 (k + 1) y0 y1))
 | 0 => fun _ _ r h => by simp [ppath_Name.j0] at h
 | k + 1 => by
  have ih0 := ppath_Name.mono_l k
  ·intro y0 y1
   unfold ppath_Name.j0
   repeat' first
   | (with_reducible exact ih0 _ _)
   | (with_reducible exact LeO.refl _)
   | (with_reducible exact LeO.none _)
   | (with_reducible refine LeO.ite ?_ ?_)
   | (with_reducible refine LeO.bind ?_ (fun _ => ?_))
   | exact ih0 _ _
   | exact LeO.none _
   | refine LeO.ite ?_ ?_
   | refine LeO.bind ?_ (fun _ => ?_)
theorem ppath_Name.mono : ∀ a0 k, LeO (ppath_Name.f k a0) (ppath_Name.f (k + 1) a0) := by
 intro a0 k
 have ih0 := ppath_Name.mono_l k
 unfold ppath_Name.f
 repeat' first
   | (with_reducible exact ih0 _ _)
   | (with_reducible exact LeO.refl _)
   | (with_reducible exact LeO.none _)
   | (with_reducible refine LeO.ite ?_ ?_)
   | (with_reducible refine LeO.bind ?_ (fun _ => ?_))
   | exact ih0 _ _
   | exact LeO.none _
   | refine LeO.ite ?_ ?_
   | refine LeO.bind ?_ (fun _ => ?_)
set_option maxHeartbeats 8000000 in
set_option maxRecDepth 100000 in
theorem ppath_Name.calls (k : Nat) (a0 : ByteArray) (r : Bool) (w : World) (h : ppath_Name.f k a0 = some r) :
  Calls Tryz.prog 81 #[.string a0] w fun e w' => e = .returned (.bool r) ∧ Below w.heap.size w w' := by
 have HB := Aside0.mk (Below.refl w.heap.size w)
 have H : (if a0.toList = ([] : List UInt8) then (ppath_Name.j0 k a0 true) else (ppath_Name.j0 k a0 (decide ((a0.size : Int) > 60)))) = some r := h
 clear h
 have HC2 := Aside0.mk H
 clear H
 go_enter Tryz.func81, Tryz.ntmps81
 go_upto_region 1 with (fail)
 go_cut [3] (fun v3 wc => ∃ (kq : Nat) (x3_1 : Bool), v3 = .bool x3_1 ∧ Aside0 (ppath_Name.j0 kq a0 x3_1 = some r) ∧ Aside0 (kq ≤ k) ∧ Aside0 (Below w.heap.size w wc))
 case first =>
  have H := HC2.out
  clear HC2
  by_cases c3 : a0.toList = ([] : List UInt8)
  ·rw [if_pos c3] at H
   have c3b0 : (a0.toList == ([] : List UInt8)) = true := beq_iff_eq.mpr c3
   have c3b1 : (a0.toList != ([] : List UInt8)) = false := bne_eq_false_iff_eq.mpr c3
   clear c3
   (first | rw [c3b0] | (simp only [i64_w, i32_w]; rw [c3b0]) | skip)
   have H' := Aside0.mk H
   clear H
   go_wp2
   go_meet
   case rel => exact ⟨_, (true), (by first | rfl | (simp; done) | (simp [*]; done) | (simp only [bytes_ne, bytes_eq] <;> rfl)), H', ⟨by first | omega | exact Nat.le_refl _⟩, ⟨by repeat (first | (with_reducible first | exact HB.out | apply below_alloc | apply pw_below_drewN | apply below_drew1) | exact HB.out)⟩⟩
  ·rw [if_neg c3] at H
   have c3b0 : (a0.toList == ([] : List UInt8)) = false := beq_eq_false_iff_ne.mpr c3
   have c3b1 : (a0.toList != ([] : List UInt8)) = true := bne_iff_ne.mpr c3
   (first | rw [c3b0] | (simp only [i64_w, i32_w]; rw [c3b0]) | skip)
   have H' := Aside0.mk H
   clear H
   go_wp2
   go_meet
   case rel => exact ⟨_, (decide ((a0.size : Int) > 60)), (by first | rfl | (simp; done) | (simp [*]; done) | (simp only [bytes_ne, bytes_eq] <;> rfl)), H', ⟨by first | omega | exact Nat.le_refl _⟩, ⟨by repeat (first | (with_reducible first | exact HB.out | apply below_alloc | apply pw_below_drewN | apply below_drew1) | exact HB.out)⟩⟩
 case rest =>
  clear HC2
  try clear p2
  try clear c3
  try clear c3b0
  try clear c3b1
  obtain ⟨kq, x3_1, rfl, HA, HJ1, HB⟩ := hcut
  cases kq with
  | zero => exact absurd HA.out (by simp [ppath_Name.j0])
  | succ kj1 =>
   have H := HA.out
   clear HA
   simp only [ppath_Name.j0] at H
   by_cases c4 : x3_1 = true
   ·subst c4
    have H1 := H; rw [if_pos rfl] at H1
    clear H
    have H := H1
    clear H1
    obtain rfl := Option.some.inj H
    go_wp2
    go_ret
    exact ⟨by first | rfl | (simp [errW_none, errW_some] <;> rfl) | (simp [*, errW_none, errW_some] <;> rfl) | (simp only [bytes_ne, bytes_eq] <;> rfl), by repeat (first | (with_reducible first | exact HB.out | apply below_alloc | apply pw_below_drewN | apply below_drew1) | exact HB.out)⟩
   ·replace c4 := Bool.eq_false_iff.mpr c4
    subst c4
    have H1 := H; rw [if_neg (show ¬ (false = true) by decide)] at H1
    clear H
    have H := H1
    clear H1
    by_cases c5 : a0.toList = ([46] : List UInt8)
    ·rw [if_pos c5] at H
     have c5b0 : (a0.toList == ([46] : List UInt8)) = true := beq_iff_eq.mpr c5
     have c5b1 : (a0.toList != ([46] : List UInt8)) = false := bne_eq_false_iff_eq.mpr c5
     clear c5
     obtain rfl := Option.some.inj H
     go_wp2
     go_ret
     exact ⟨by first | rfl | (simp [errW_none, errW_some] <;> rfl) | (simp [*, errW_none, errW_some] <;> rfl) | (simp only [bytes_ne, bytes_eq] <;> rfl), by repeat (first | (with_reducible first | exact HB.out | apply below_alloc | apply pw_below_drewN | apply below_drew1) | exact HB.out)⟩
    ·rw [if_neg c5] at H
     have c5b0 : (a0.toList == ([46] : List UInt8)) = false := beq_eq_false_iff_ne.mpr c5
     have c5b1 : (a0.toList != ([46] : List UInt8)) = true := bne_iff_ne.mpr c5
     by_cases c6 : a0.toList = ([46, 46] : List UInt8)
     ·rw [if_pos c6] at H
      have c6b0 : (a0.toList == ([46, 46] : List UInt8)) = true := beq_iff_eq.mpr c6
      have c6b1 : (a0.toList != ([46, 46] : List UInt8)) = false := bne_eq_false_iff_eq.mpr c6
      clear c6
      obtain rfl := Option.some.inj H
      go_wp2
      go_ret
      exact ⟨by first | rfl | (simp [errW_none, errW_some] <;> rfl) | (simp [*, errW_none, errW_some] <;> rfl) | (simp only [bytes_ne, bytes_eq] <;> rfl), by repeat (first | (with_reducible first | exact HB.out | apply below_alloc | apply pw_below_drewN | apply below_drew1) | exact HB.out)⟩
     ·rw [if_neg c6] at H
      have c6b0 : (a0.toList == ([46, 46] : List UInt8)) = false := beq_eq_false_iff_ne.mpr c6
      have c6b1 : (a0.toList != ([46, 46] : List UInt8)) = true := bne_iff_ne.mpr c6
      replace H := Option.bind_eq_some_iff.mp H
      obtain ⟨t453, A70, H⟩ := H
      try dsimp only at H
      have A7 := Aside0.mk A70
      clear A70
      obtain rfl := Option.some.inj H
      go_wp2_with (first | ((with_reducible refine gate_callee (f := 100) rfl ?_); refine goesA_ (some 19) Tryz.func100 #[.string a0, .string (⟨#[47, 0]⟩ : ByteArray)] ?_; (with_reducible refine (strings_ContainsAny.calls a0 (⟨#[47, 0]⟩ : ByteArray) t453 _ A7.out).mono ?_); rintro e w8 ⟨rfl, hb⟩; refine ⟨_, rfl, ?_⟩; have n0_ := Aside0.mk (bstep_ hb); clear HB; have HB := n0_; clear n0_; (try clear hb); (try clear hb2); (try clear hk); (try clear hi)))
      go_ret
      exact ⟨by first | rfl | (simp [errW_none, errW_some] <;> rfl) | (simp [*, errW_none, errW_some] <;> rfl) | (simp only [bytes_ne, bytes_eq] <;> rfl), by repeat (first | (with_reducible first | exact HB.out | apply below_alloc | apply pw_below_drewN | apply below_drew1) | exact HB.out)⟩

/-- THE ONE PURE STATEMENT of ppath_Name: yours. -/
def ppath_Name.Pure : Prop := ∀ (a0 : ByteArray), a0.size ≤ 140737488351232 → ∃ k, ppath_Name.f k a0 = some true
theorem ppath_Name.walk (P : ppath_Name.Pure) (a0 : ByteArray) (w : World) (w0 : a0.size ≤ 140737488351232) :
  Calls Tryz.prog 81 #[.string a0] w fun e w' => e = .returned (.bool true) ∧ Below w.heap.size w w' := by
 obtain ⟨k, h⟩ := P a0 w0
 refine (ppath_Name.calls k a0 true w h).mono ?_
 rintro e w' ⟨rfl, hd⟩
 exact ⟨rfl, hd⟩

end Go.Proofs.YtjidenkhgeoaiaaGreatDoor.P

/- Contract, by hand, of ppath.Parts, in the printer's form: a text's names, by the pieces between its slashes. -/
namespace Go.Proofs.YtjidenkhgeoaiaaGreatDoor.Hand
open Go.RowKit Go.Shelf Go.Proofs.YtjidenkhgeoaiaaGreatDoor.P Go.Proofs.YtjidenkhgeoaiaaGreatDoorW.PrintWords Go.Proofs.YtjidenkhgeoaiaaGreatDoorW.PrintLast
attribute [local go_sem] Oper.semAt_some
set_option linter.unusedVariables false
set_option linter.unusedSimpArgs false

/-- Are all of these names? -/
def allNames : List ByteArray → Option Bool
  | [] => some true
  | x :: l => (ppath_Name.f 20 x).bind fun b => if b = true then allNames l else some false
def ppath_Parts.f (a0 : ByteArray) : Option (List ByteArray × Int) :=
  if 300 < a0.size then some ([], 8) else (allNames (pieces 47 a0)).bind fun b => if b = true then some (pieces 47 a0, 0) else some ([], 8)

theorem splitSeq_made (s sep : ByteArray) (w : World) :
    CallsIn Fence.wide 2 Tryz.prog 80 #[.string s, .string sep] w fun e w' => e = .returned (.func (.func 112) #[] #[.pointer (some ⟨w.heap.size + 1, 0, none⟩), .pointer (some ⟨w.heap.size, 0, none⟩), .pointer (some ⟨w.heap.size + 2, 0, none⟩)]) ∧
      w' = ((w.alloc (.cells #[.string s] 9)).alloc (.cells #[.string sep] 9)).alloc (.cells #[.int .i64 0] 3) := by
  refine callsIn_wide.2 ?_
  have hI : ∀ W : World, Calls Tryz.prog 99 #[.string s, .string sep, .int .i64 0] W fun e w' => e = .returned (.func (.func 112) #[] #[.pointer (some ⟨W.heap.size + 1, 0, none⟩), .pointer (some ⟨W.heap.size, 0, none⟩), .pointer (some ⟨W.heap.size + 2, 0, none⟩)]) ∧
      w' = ((W.alloc (.cells #[.string s] 9)).alloc (.cells #[.string sep] 9)).alloc (.cells #[.int .i64 0] 3) := fun W => by
    go_enter Tryz.func99, Tryz.ntmps99
    go_wp2
    go_ret
    exact ⟨by simp, rfl⟩
  go_enter Tryz.func80, Tryz.ntmps80
  go_wp2_with (go_at_call 99; refine (hI w).mono ?_; rintro e w' ⟨rfl, hw⟩; rw [hw])
  go_ret
  exact ⟨rfl, rfl⟩

theorem row_keep {W W' : World} {base k n : Nat} {e : TypeId} {v : Value} {xs : List Value} (h : W.ownsRow base e 1 v n xs) (hg : W.grownBy W' (some k)) (hk : k < base) : W'.ownsRow base e 1 v n xs := by
  refine h.kept hg ?_
  rcases h.2 with ⟨rfl, _⟩ | ⟨g, cap, cur, rfl, hb, _⟩
  · exact .inl rfl
  · refine .inr fun e' => ?_
    have : g = k := by simpa [Value.ownBlock] using e'
    omega
theorem _root_.Go.Boxed.below {W W' : World} {B : Nat} {t : TypeId} {v : Value} (h : Boxed W B t v) (hb : Below W.heap.size W W') : Boxed W' B t v := (hb.block B h.lt).trans h
theorem own_below {W W' : World} {base n : Nat} {e : TypeId} {v : Value} {xs : List Value} (h : W.ownsRow base e 1 v n xs) (hb : Below W.heap.size W W') : W'.ownsRow base e 1 v n xs := by
  refine ⟨h.1, ?_⟩
  rcases h.2 with h2 | ⟨g, cap, cur, h1, h2, h3, h4⟩
  · exact .inl h2
  · exact .inr ⟨g, cap, cur, h1, h2, (hb.block g (Array.getElem?_eq_some_iff.1 h3).1).trans h3, h4⟩
theorem own_far {W : World} {base n : Nat} {e : TypeId} {v : Value} {xs : List Value} (h : W.ownsRow base e 1 v n xs) (k : Nat) (hk : k < base) : some k ≠ v.ownBlock := fun e' => by
  have := own_base h k e'.symm
  omega
theorem box_keep {W W' : World} {B k : Nat} {t : TypeId} {v : Value} (h : Boxed W B t v) (hg : W.grownBy W' (some k)) (hk : B ≠ k) : Boxed W' B t v := h.kept hg (fun e => hk (Option.some.inj e))
/-- What the caller's boxes hold between two rounds. -/
def Held (B : Nat) (w : World) (l : List ByteArray) (bq : Bool) (j : Nat) (W : World) : Prop :=
  (∃ v, Boxed W B 84 (.slice none 0 0) ∧ Boxed W (B + 1) 39 (.int .i64 0) ∧ Boxed W (B + 2) 84 v ∧ W.ownsRow (B + 8) 9 1 v j ((l.take j).map Value.string)) ∧ Below B w W ∧ allNames (l.drop j) = some bq
def Left (B : Nat) (w : World) (bq : Bool) (c : Code) (W : World) : Prop :=
  c = .ret ∧ bq = false ∧ Boxed W B 84 (.slice none 0 0) ∧ Boxed W (B + 1) 39 (.int .i64 8) ∧ Below B w W
theorem Held.keep {B k j : Nat} {w W W' : World} {l : List ByteArray} {bq : Bool} (h : Held B w l bq j W) (hg : W.grownBy W' (some k)) (h1 : B + 2 < k) (h2 : k < B + 8) : Held B w l bq j W' := by
  obtain ⟨⟨v, hA, hE, hL, hr⟩, hb, hn⟩ := h
  exact ⟨⟨v, box_keep hA hg (by omega), box_keep hE hg (by omega), box_keep hL hg (by omega), row_keep hr hg h2⟩, hb.grown hg (Nat.le_trans (by omega) (Nat.le_of_lt hL.lt)) (fun i e => by cases e; omega), hn⟩
theorem Left.keep {B k : Nat} {w W W' : World} {bq : Bool} {c : Code} (h : Left B w bq c W) (hg : W.grownBy W' (some k)) (h1 : B + 2 < k) : Left B w bq c W' := by
  obtain ⟨hc, hq, hA, hE, hb⟩ := h
  exact ⟨hc, hq, box_keep hA hg (by omega), box_keep hE hg (by omega), hb.grown hg (Nat.le_of_lt hA.lt) (fun i e => by cases e; omega)⟩
theorem Held.alloc {B j : Nat} {w W : World} {l : List ByteArray} {bq : Bool} (h : Held B w l bq j W) (o : Obj) : Held B w l bq j (W.alloc o) := by
  obtain ⟨⟨v, hA, hE, hL, hr⟩, hb, hn⟩ := h
  exact ⟨⟨v, hA.alloc o, hE.alloc o, hL.alloc o, hr.alloc o⟩, hb.alloc (Nat.le_of_lt hA.lt) o, hn⟩

theorem parts_results (tmps : Array Value) (W : World) (B : Nat) (v : Value) (n : Int) (A : Option Addr) (m c : Nat) (hv : v = .slice A m c) (h2 : tmps[2]?.getD undef = .pointer (some ⟨B, 0, none⟩)) (h3 : tmps[3]?.getD undef = .pointer (some ⟨B + 1, 0, none⟩)) (hA : W.cell? ⟨B, 0, none⟩ = some v) (hE : W.cell? ⟨B + 1, 0, none⟩ = some (.int .i64 n)) :
    (results Tryz.f62 tmps).run Tryz.prog W = .ok (.tuple #[v, .int .i64 n]) W := by
  subst hv
  have hr : Tryz.f62.results = #[.cell 2 84, .cell 3 39] := rfl
  simp only [results, hr]
  simp [Sem.run_bind, Result.andThen, h2, h3]
  go_simp
  try simp [hA, hE]

set_option maxHeartbeats 4000000 in
set_option maxRecDepth 1000000 in
theorem ppath_Parts.calls (a0 : ByteArray) (r1 : List ByteArray) (r2 : Int) (w : World) (h : ppath_Parts.f a0 = some (r1, r2)) :
    Calls Tryz.prog 62 #[.string a0] w fun e w' => ∃ v0_ : Value, e = .returned (.tuple #[v0_, .int .i64 r2]) ∧ Kd.R Kd.string 9 w' w.heap.size (fun _ => True) v0_ r1 ∧ Below w.heap.size w w' := by
  refine (callsIn_wide (n := 3)).1 ?_
  refine callsIn_of_wp_marks Tryz.func62 rfl trivial ?_ rfl
  simp only [Tryz.ntmps62, List.size_toArray, List.length_cons, List.length_nil, Nat.reduceAdd, Nat.reduceSub, Array.replicate_succ, Array.replicate_zero, List.push_toArray, List.append_toArray, List.nil_append, List.cons_append]
  by_cases c1 : 300 < a0.size
  · have b1 : decide ((300 : Int) < (a0.size : Int)) = true := decide_eq_true (by omega)
    have hres : some (([] : List ByteArray), (8 : Int)) = some (r1, r2) := by
      unfold ppath_Parts.f at h
      rw [if_pos c1] at h
      exact h
    simp only [Option.some.injEq, Prod.mk.injEq] at hres
    obtain ⟨rfl, rfl⟩ := hres
    clear h c1
    have hA := (Boxed.new w 84 (.slice none 0 0)).alloc (.cells #[.int .i64 8] 39)
    have hE := Boxed.new (w.alloc (.cells #[.slice none 0 0] 84)) 39 (.int .i64 8)
    rw [World.size_alloc] at hE
    gi_wp2
    refine ⟨_, parts_results _ _ w.heap.size _ 8 none 0 0 rfl rfl rfl hA.cell hE.cell, _, rfl, Kd.R_nil _ _ _ _ _, ?_⟩
    exact ((Below.refl w.heap.size w).alloc (Nat.le_refl _) _).alloc (by simp) _
  · have b1 : decide ((300 : Int) < (a0.size : Int)) = false := decide_eq_false (by omega)
    gi_wp2_with (refine ⟨trivial, ?_⟩; gi_at_call 80; refine (splitSeq_made a0 _ _).mono ?_; rintro e w' ⟨rfl, rfl⟩)
    have hm : ∃ bq, allNames (pieces 47 a0) = some bq ∧ (if bq = true then some (pieces 47 a0, (0 : Int)) else some ([], 8)) = some (r1, r2) := by
      unfold ppath_Parts.f at h
      rw [if_neg c1] at h
      exact Option.bind_eq_some_iff.1 h
    obtain ⟨bq, hq, hres⟩ := hm
    clear h
    obtain ⟨B, hB⟩ : ∃ B, w.heap.size = B := ⟨_, rfl⟩
    have bA := Boxed.new w 84 (.slice none 0 0)
    have bE := Boxed.new (w.alloc (.cells #[.slice none 0 0] 84)) 39 (.int .i64 0)
    have bL := Boxed.new ((w.alloc (.cells #[.slice none 0 0] 84)).alloc (.cells #[.int .i64 0] 39)) 84 (.slice none 0 0)
    have bS := Boxed.new (((w.alloc (.cells #[.slice none 0 0] 84)).alloc (.cells #[.int .i64 0] 39)).alloc (.cells #[.slice none 0 0] 84)) 9 (.string a0)
    have bP := Boxed.new ((((w.alloc (.cells #[.slice none 0 0] 84)).alloc (.cells #[.int .i64 0] 39)).alloc (.cells #[.slice none 0 0] 84)).alloc (.cells #[.string a0] 9)) 9 (.string ⟨#[47]⟩)
    have bZ := Boxed.new (((((w.alloc (.cells #[.slice none 0 0] 84)).alloc (.cells #[.int .i64 0] 39)).alloc (.cells #[.slice none 0 0] 84)).alloc (.cells #[.string a0] 9)).alloc (.cells #[.string ⟨#[47]⟩] 9)) 3 (.int .i64 0)
    have bA0 := ((((bA.alloc (.cells #[.int .i64 0] 39)).alloc (.cells #[.slice none 0 0] 84)).alloc (.cells #[.string a0] 9)).alloc (.cells #[.string ⟨#[47]⟩] 9)).alloc (.cells #[.int .i64 0] 3)
    have bE0 := (((bE.alloc (.cells #[.slice none 0 0] 84)).alloc (.cells #[.string a0] 9)).alloc (.cells #[.string ⟨#[47]⟩] 9)).alloc (.cells #[.int .i64 0] 3)
    have bL0 := ((bL.alloc (.cells #[.string a0] 9)).alloc (.cells #[.string ⟨#[47]⟩] 9)).alloc (.cells #[.int .i64 0] 3)
    have bS0 := (bS.alloc (.cells #[.string ⟨#[47]⟩] 9)).alloc (.cells #[.int .i64 0] 3)
    have bP0 := bP.alloc (.cells #[.int .i64 0] 3)
    have hbel := ((((((Below.refl w.heap.size w).alloc (Nat.le_refl _) (.cells #[.slice none 0 0] 84)).alloc (by simp) (.cells #[.int .i64 0] 39)).alloc (by simp; omega) (.cells #[.slice none 0 0] 84)).alloc (by simp; omega) (.cells #[.string a0] 9)).alloc (by simp; omega) (.cells #[.string ⟨#[47]⟩] 9)).alloc (by simp; omega) (.cells #[.int .i64 0] 3)
    have hsz : ((((((w.alloc (.cells #[.slice none 0 0] 84)).alloc (.cells #[.int .i64 0] 39)).alloc (.cells #[.slice none 0 0] 84)).alloc (.cells #[.string a0] 9)).alloc (.cells #[.string ⟨#[47]⟩] 9)).alloc (.cells #[.int .i64 0] 3)).heap.size = B + 6 := by simp; omega
    simp only [World.size_alloc, hB] at bA0 bE0 bL0 bS0 bP0 bZ hbel
    generalize ((((((w.alloc (.cells #[.slice none 0 0] 84)).alloc (.cells #[.int .i64 0] 39)).alloc (.cells #[.slice none 0 0] 84)).alloc (.cells #[.string a0] 9)).alloc (.cells #[.string ⟨#[47]⟩] 9)).alloc (.cells #[.int .i64 0] 3)) = W0 at *
    rw [hB]
    clear bA bE bL bS bP
    have hbx : Boxes W0 (B + 4) (B + 3) (B + 5) 47 a0 := ⟨bP0.cell, bS0.cell, bS0.frozen, bZ.cell⟩
    refine range_split 3 (B + 4) (B + 3) (B + 5) (by omega) (by omega) (by omega) (by omega) (by omega) (by omega) 47 a0 (by omega) rfl hbx (Held B w (pieces 47 a0) bq) (Left B w bq) (fun j W v h => h.keep (grownBy_setCell' W (B + 3) v) (by omega) (by omega)) (fun j W o h => h.alloc o)
      (fun j W k o h1 h2 h => h.keep (grownBy_putObj' W k o) (by omega) (by omega)) (fun c W k o h1 h2 h => h.keep (grownBy_putObj' W k o) (by omega)) ⟨⟨_, bA0, bE0, bL0, World.ownsRow_nil _ _ _ _⟩, hbel, hq⟩
      (fun x => { tmps := #[.string a0, undef, .pointer (some ⟨B, 0, none⟩), .pointer (some ⟨B + 1, 0, none⟩), .pointer (some ⟨B + 1 + 1, 0, none⟩), .string x, .string a0, .int .i64 a0.size, .bool false, .string a0, .func (.func 112) #[] #[.pointer (some ⟨B + 1 + 1 + 1 + 1, 0, none⟩), .pointer (some ⟨B + 1 + 1 + 1, 0, none⟩), .pointer (some ⟨B + 1 + 1 + 1 + 2, 0, none⟩)], .string x, undef, undef, undef, undef, undef, undef, undef, undef], defers := [] }) ?assign ?body ?done ?stop
    case assign =>
      intro l x W K hK
      gi_wp2
      exact hK
    case body =>
      rintro l j x W hx ⟨⟨v, hA, hE, hL, hrow⟩, hBl, hN⟩ hlt
      obtain ⟨hjl, hxe⟩ := List.getElem?_eq_some_iff.1 hx
      have hd : (pieces 47 a0).drop j = x :: (pieces 47 a0).drop (j + 1) := by rw [List.drop_eq_getElem_cons hjl, hxe]
      have htk : (pieces 47 a0).take (j + 1) = (pieces 47 a0).take j ++ [x] := by rw [List.take_add_one, hx]; rfl
      rw [hd] at hN
      obtain ⟨nb, hname, hN2⟩ := Option.bind_eq_some_iff.1 (show (ppath_Name.f 20 x).bind (fun b => if b = true then allNames ((pieces 47 a0).drop (j + 1)) else some false) = some bq from hN)
      have hplen : (pieces 47 a0).length ≤ 301 := by
        have h1 := Lib.splitB_all ⟨#[47]⟩ (Nat.le_refl 1) 0 (Lib.countB a0 ⟨#[47]⟩) a0 rfl
        have h2 := Lib.countB_le ⟨#[47]⟩ (Nat.le_refl 1) a0.size a0 (Nat.le_refl _)
        unfold pieces
        omega
      cases nb
      · simp only [Bool.false_eq_true, if_false, Option.some.injEq] at hN2
        subst hN2
        have hname' := Aside0.mk hname
        clear hname hN
        gi_wp2_with (refine ⟨trivial, ?_⟩; gi_at_call 81; refine (CallsIn.inRound l (callsIn_wide.2 (ppath_Name.calls 20 x false W hname'.out))).mono ?_; rintro e w2 ⟨rfl, hb2⟩; have hA2 := hA.below hb2; have hE2 := hE.below hb2; have cA2 := hA2.cell; have cE2 := hE2.cell; have fA2 := hA2.frozen; have fE2 := hE2.frozen)
        have hB6 : B ≤ W.heap.size := by omega
        have kp : ∀ k, k ≠ B → k ≠ B + 1 → k < W.heap.size → ((w2.setCell ⟨B, 0, none⟩ (.slice none 0 0)).setCell ⟨B + 1, 0, none⟩ (.int .i64 8)).heap[k]? = W.heap[k]? := fun k h1 h2 h3 => (Below.heap_setCell _ _ _ k h2).trans ((Below.heap_setCell _ _ _ k h1).trans (hb2.block k h3))
        rw [hsz] at hlt ⊢
        exact ⟨⟨kp _ (by omega) (by omega) (by omega), kp _ (by omega) (by omega) (by omega), kp _ (by omega) (by omega) (by omega), kp _ (by omega) (by omega) (by omega), kp _ (by omega) (by omega) (by omega)⟩, rfl, rfl,
          box_keep (hA2.set _) (grownBy_setCell' _ (B + 1) _) (by omega), (box_keep hE2 (grownBy_setCell' w2 B _) (by omega)).set _,
          ((hBl.trans (hb2.mono hB6)).setCell (p := ⟨B, 0, none⟩) (Nat.le_refl _) _).setCell (p := ⟨B + 1, 0, none⟩) (by simp) _⟩
      · simp only [if_true] at hN2
        have hname' := Aside0.mk hname
        have HN2 := Aside0.mk hN2
        obtain ⟨i0, hi, hz0, hz1, hz2⟩ := info_parts info_str
        have hrest := Aside0.mk hrow
        have hBl' := Aside0.mk hBl
        rw [hsz] at hlt
        clear hname hN hN2 hrow hBl
        gi_wp2_with (first
          | (refine ⟨trivial, ?_⟩; gi_at_call 81; refine (CallsIn.inRound l (callsIn_wide.2 (ppath_Name.calls 20 x true W hname'.out))).mono ?_; rintro e w2 ⟨rfl, hb2⟩; have hA2 := hA.below hb2; have hE2 := hE.below hb2; have hL2 := hL.below hb2; have cL2 := hL2.cell; have hs2 := hb2.size)
          | (gi_at_builtin; refine wpListIn_append_own _ rfl _ _ 84 rfl (B + 8) 9 i0 (.string ByteArray.empty) 1 16 Tryz.underlying84 hi hz0 hz1 hz2 rfl (by decide) _ _ _ rfl ((own_below hrest.out hb2).alloc _) ⟨w2.heap.size, 0, none⟩ 1 1 [.string x] rfl rfl (cell_one_new _ _ _) (by simp [Value.oneCell']) (by simp only [maxLen]; omega) (by omega) (by simp; omega) ?_; intro v' w3 hown' hgrow _; obtain ⟨g', cap', rfl⟩ := ownsRow_succ hown'; have hne := own_far hrest.out; have hL3 := (hL2.alloc _).kept hgrow (hne (B + 2) (by omega)); have cL3 := hL3.cell; have fL3 := hL3.frozen))
        have hgrow2 : (w2.alloc (.cells #[.string x] 9)).grownBy w3 v.ownBlock := hgrow
        have hB6 : B ≤ W.heap.size := by omega
        have kp : ∀ k, k ≠ B + 2 → k < B + 8 → (w3.setCell ⟨B + 2, 0, none⟩ (.slice (some ⟨g', 0, none⟩) (j + 1) cap')).heap[k]? = W.heap[k]? := fun k h1 h2 => (Below.heap_setCell _ _ _ k h1).trans ((hgrow2.block k (by simp; omega) (hne k h2)).trans ((Below.heap_alloc w2 _ k (by omega)).trans (hb2.block k (by omega))))
        have hbelow : Below B w w3 := ((hBl'.out.trans (hb2.mono hB6)).alloc (by omega) (.cells #[.string x] 9)).grown hgrow2 (by simp; omega) (fun i e => by
          rcases Nat.lt_or_ge i (B + 8) with h | h
          · exact absurd e.symm (hne i h)
          · omega)
        rw [hsz]
        refine ⟨⟨kp _ (by omega) (by omega), kp _ (by omega) (by omega), kp _ (by omega) (by omega), kp _ (by omega) (by omega), kp _ (by omega) (by omega)⟩,
          ⟨⟨_, box_keep ((hA2.alloc _).kept hgrow2 (hne B (by omega))) (grownBy_setCell' w3 (B + 2) _) (by omega), box_keep ((hE2.alloc _).kept hgrow2 (hne (B + 1) (by omega))) (grownBy_setCell' w3 (B + 2) _) (by omega), hL3.set _, ?_⟩,
            hbelow.setCell (p := ⟨B + 2, 0, none⟩) (by simp) _, HN2.out⟩⟩
        rw [htk, List.map_append]
        exact row_keep hown' (grownBy_setCell' w3 (B + 2) _) (by omega)
    case done =>
      rintro W ⟨⟨v, hA, hE, hL, hrow⟩, hBl, hN⟩ hK
      rw [List.drop_length] at hN
      have hbq : true = bq := Option.some.inj hN
      subst hbq
      rw [if_pos rfl] at hres
      simp only [Option.some.injEq, Prod.mk.injEq] at hres
      obtain ⟨rfl, rfl⟩ := hres
      have cA := hA.cell
      have fA := hA.frozen
      have cE := hE.cell
      have fE := hE.frozen
      have cL := hL.cell
      obtain ⟨Av, cv, rfl⟩ := own_slice hrow
      have hrow' := Aside0.mk hrow
      clear hrow
      rw [hsz] at hK ⊢
      gi_wp2
      have hK2 : ((W.setCell ⟨B, 0, none⟩ (.slice Av (pieces 47 a0).length cv)).setCell ⟨B + 1, 0, none⟩ (.int .i64 0)).heap[B + 6]? = some (.deferred (some [])) := (Below.heap_setCell _ _ _ (B + 6) (by simp)).trans ((Below.heap_setCell _ _ _ (B + 6) (by simp)).trans hK)
      refine ⟨by simp, .inl ⟨_, _, rfl, run_takeDeferred hK2, ?_⟩⟩
      have hgr := grownBy_putObj' ((W.setCell ⟨B, 0, none⟩ (.slice Av (pieces 47 a0).length cv)).setCell ⟨B + 1, 0, none⟩ (.int .i64 0)) (B + 6) (.deferred none)
      have hA2 := box_keep (box_keep (hA.set (.slice Av (pieces 47 a0).length cv)) (grownBy_setCell' _ (B + 1) (.int .i64 0)) (by omega)) hgr (by omega)
      have hE2 := box_keep ((box_keep hE (grownBy_setCell' W B (.slice Av (pieces 47 a0).length cv)) (by omega)).set (.int .i64 0)) hgr (by omega)
      have hrow2 := row_keep (row_keep (row_keep hrow'.out (grownBy_setCell' W B (.slice Av (pieces 47 a0).length cv)) (by omega)) (grownBy_setCell' _ (B + 1) (.int .i64 0)) (by omega)) hgr (by omega)
      have hBl2 := ((hBl.setCell (p := ⟨B, 0, none⟩) (Nat.le_refl _) (.slice Av (pieces 47 a0).length cv)).setCell (p := ⟨B + 1, 0, none⟩) (by simp) (.int .i64 0)).grown hgr (by simp; have := hL.lt; omega) (fun i e => by cases e; omega)
      refine ⟨_, parts_results _ _ B _ 0 Av _ cv rfl rfl rfl hA2.cell hE2.cell, _, rfl, Kd.R_of_own ?_ (fun _ _ => trivial), by rw [hB]; exact hBl2⟩
      rw [List.take_length] at hrow2
      rw [hB]
      exact own_weaken hrow2 (by omega)
    case stop =>
      rintro c W ⟨rfl, hbq, hA, hE, hBl⟩ hK
      subst hbq
      rw [if_neg (by decide)] at hres
      simp only [Option.some.injEq, Prod.mk.injEq] at hres
      obtain ⟨rfl, rfl⟩ := hres
      rw [hsz] at hK ⊢
      gi_wp2
      refine ⟨by simp, .inl ⟨_, _, rfl, run_takeDeferred hK, ?_⟩⟩
      have hgr := grownBy_putObj' W (B + 6) (.deferred none)
      have hltk : B + 6 < W.heap.size := (Array.getElem?_eq_some_iff.1 hK).1
      refine ⟨_, parts_results _ _ B _ 8 none 0 0 rfl rfl rfl (box_keep hA hgr (by omega)).cell (box_keep hE hgr (by omega)).cell, _, rfl, Kd.R_nil _ _ _ _ _, ?_⟩
      rw [hB]
      exact hBl.grown hgr (by omega) (fun i e => by cases e; omega)
end Go.Proofs.YtjidenkhgeoaiaaGreatDoor.Hand

namespace Go.Proofs.YtjidenkhgeoaiaaGreatDoor.P
open Go.RowKit Go.Proofs.YtjidenkhgeoaiaaGreatDoorW.PrintWords Go.Proofs.YtjidenkhgeoaiaaGreatDoorW.PrintLast Go.Proofs.YtjidenkhgeoaiaaGreatDoorW.PrintMore Go.Proofs.YtjidenkhgeoaiaaGreatDoor.Hand
attribute [local go_sem] max2_int min2_int max_two min_two max_three min_three max_four min_four   -- for this text's walks alone
set_option linter.unusedVariables false
set_option linter.unusedSimpArgs false

/-! ### ppath_May: function 43 -/
def ppath_May.f (a0 : ByteArray) : Option (Bool) := (ppath_Parts.f a0).bind fun bt109 => (some (bt109.2 == 0))
set_option maxHeartbeats 8000000 in
set_option maxRecDepth 100000 in
theorem ppath_May.calls (a0 : ByteArray) (r : Bool) (w : World) (h : ppath_May.f a0 = some r) :
  Calls Tryz.prog 43 #[.string a0] w fun e w' => e = .returned (.bool r) ∧ Below w.heap.size w w' := by
 have HB := Aside0.mk (Below.refl w.heap.size w)
 have H : ((ppath_Parts.f a0).bind fun bt109 => (some (bt109.2 == 0))) = some r := h
 clear h
 replace H := Option.bind_eq_some_iff.mp H
 obtain ⟨⟨t109, t110⟩, A20, H⟩ := H
 try dsimp only at H
 have A2 := Aside0.mk A20
 clear A20
 obtain rfl := Option.some.inj H
 go_enter Tryz.func43, Tryz.ntmps43
 go_wp2_with (first | ((with_reducible refine gate_callee (f := 62) rfl ?_); refine goesA_ (some 7) Tryz.func62 #[.string a0] ?_; (with_reducible refine (ppath_Parts.calls a0 t109 t110 _ A2.out).mono ?_); rintro e w3 ⟨v111, rfl, ho0, hb⟩; refine ⟨_, rfl, ?_⟩; have n0_ := Aside0.mk (Kd.R_lower ho0 bsize_); have n1_ := Aside0.mk (bstep_ hb); clear HB; have HO112 := n0_; have HB := n1_; clear n0_ n1_; (try clear hb); (try clear hb2); (try clear hk); (try clear hi); (try clear ho0)))
 go_ret
 exact finA_

/-- THE ONE PURE STATEMENT of ppath_May: yours. -/
def ppath_May.Pure : Prop := ∀ (a0 : ByteArray), a0.size ≤ 140737488351232 → ppath_May.f a0 = some true
theorem ppath_May.walk (P : ppath_May.Pure) (a0 : ByteArray) (w : World) (w0 : a0.size ≤ 140737488351232) :
  Calls Tryz.prog 43 #[.string a0] w fun e w' => e = .returned (.bool true) ∧ Below w.heap.size w w' := by
 have h := P a0 w0
 refine (ppath_May.calls a0 true w h).mono ?_
 rintro e w' ⟨rfl, hd⟩
 exact ⟨rfl, hd⟩


/-! ### memb_within: function 63 -/
def memb_within.f (a0 : Int) (a1 : Int) (a2 : Int) : Option (Bool) := if a0 ≥ a1 then (some (decide (a0 ≤ a2))) else (some false)
set_option maxHeartbeats 8000000 in
set_option maxRecDepth 100000 in
theorem memb_within.calls (a0 : Int) (a1 : Int) (a2 : Int) (r : Bool) (w : World) (h : memb_within.f a0 a1 a2 = some r) :
  Calls Tryz.prog 63 #[.int .i64 a0, .int .i64 a1, .int .i64 a2] w fun e w' => e = .returned (.bool r) ∧ Drawn0 w w' := by
 have H : (if a0 ≥ a1 then (some (decide (a0 ≤ a2))) else (some false)) = some r := h
 clear h
 by_cases c4 : a0 ≥ a1
 ·rw [if_pos c4] at H
  have c4b0 : decide (a1 ≤ a0) = true := decide_eq_true c4
  clear c4
  obtain rfl := Option.some.inj H
  go_enter Tryz.func63, Tryz.ntmps63
  go_wp2
  go_ret
  exact ⟨by first | rfl | (simp; done) | (simp [*]; done), by repeat (first | exact Drawn0.refl _ | apply Drawn0.step)⟩
 ·rw [if_neg c4] at H
  have c4b0 : decide (a1 ≤ a0) = false := decide_eq_false c4
  clear c4
  obtain rfl := Option.some.inj H
  go_enter Tryz.func63, Tryz.ntmps63
  go_wp2
  go_ret
  exact ⟨by first | rfl | (simp; done) | (simp [*]; done), by repeat (first | exact Drawn0.refl _ | apply Drawn0.step)⟩


/-! ### memb_numbers: function 44 -/
def memb_numbers.f (a0_0 : Int) (a0_1 : Int) (a0_2 : Int) (a0_3 : Int) : Option (Bool) := (memb_within.f a0_0 0 4095).bind fun t114 => (if t114 = true then ((memb_within.f a0_1 0 1099511627775).bind fun t115 => (if t115 = true then ((memb_within.f a0_2 0 1099511627775).bind fun t116 => (if t116 = true then ((memb_within.f a0_3 (-1125899906842624) 1125899906842624).bind fun t117 => (some t117)) else (some false))) else (some false))) else (some false))
set_option maxHeartbeats 8000000 in
set_option maxRecDepth 100000 in
theorem memb_numbers.calls (a0_0 : Int) (a0_1 : Int) (a0_2 : Int) (a0_3 : Int) (r : Bool) (w : World) (h : memb_numbers.f a0_0 a0_1 a0_2 a0_3 = some r) :
  Calls Tryz.prog 44 #[.agg #[.int .i64 a0_0, .int .i64 a0_1, .int .i64 a0_2, .int .i64 a0_3]] w fun e w' => e = .returned (.bool r) ∧ Below w.heap.size w w' := by
 have hu36 := Tryz.underlying36
 have HB := Aside0.mk (Below.refl w.heap.size w)
 have H : ((memb_within.f a0_0 0 4095).bind fun t114 => (if t114 = true then ((memb_within.f a0_1 0 1099511627775).bind fun t115 => (if t115 = true then ((memb_within.f a0_2 0 1099511627775).bind fun t116 => (if t116 = true then ((memb_within.f a0_3 (-1125899906842624) 1125899906842624).bind fun t117 => (some t117)) else (some false))) else (some false))) else (some false))) = some r := h
 clear h
 replace H := Option.bind_eq_some_iff.mp H
 obtain ⟨t114, A20, H⟩ := H
 try dsimp only at H
 have A2 := Aside0.mk A20
 clear A20
 by_cases c3 : t114 = true
 ·subst c3
  have H1 := H; rw [if_pos rfl] at H1
  clear H
  have H := H1
  clear H1
  replace H := Option.bind_eq_some_iff.mp H
  obtain ⟨t115, A40, H⟩ := H
  try dsimp only at H
  have A4 := Aside0.mk A40
  clear A40
  by_cases c5 : t115 = true
  ·subst c5
   have H1 := H; rw [if_pos rfl] at H1
   clear H
   have H := H1
   clear H1
   replace H := Option.bind_eq_some_iff.mp H
   obtain ⟨t116, A60, H⟩ := H
   try dsimp only at H
   have A6 := Aside0.mk A60
   clear A60
   by_cases c7 : t116 = true
   ·subst c7
    have H1 := H; rw [if_pos rfl] at H1
    clear H
    have H := H1
    clear H1
    replace H := Option.bind_eq_some_iff.mp H
    obtain ⟨t117, A80, H⟩ := H
    try dsimp only at H
    have A8 := Aside0.mk A80
    clear A80
    obtain rfl := Option.some.inj H
    go_enter Tryz.func44, Tryz.ntmps44
    go_wp2_with (first | ((with_reducible refine gate_dst (N := 1) rfl ?_); refine boxA_ 1 36 #[.int .i64 a0_0, .int .i64 a0_1, .int .i64 a0_2, .int .i64 a0_3] ?_; intro gb113 hg w9 hbox hb; have n0_ := Aside0.mk (bstep_ hb); have n1_ := Aside0.mk (hbox); have n2_ := Aside0.mk ((by rw [hg]; exact bsize_ : w.heap.size ≤ gb113)); have n3_ := Aside0.mk ((by rw [hg]; exact bsize_ : w.heap.size ≤ gb113)); clear HB; have HB := n0_; have BK113 := n1_; have GW113 := n2_; have GE113 := n3_; clear n0_ n1_ n2_ n3_; clear hb hbox hg; obtain ⟨hcz10_0, hcz10_1, hcz10_2, hcz10_3, hfz10_0, hfz10_1, hfz10_2, hfz10_3⟩ := blk_all4 BK113.out) | ((with_reducible refine gate_callee (f := 63) rfl ?_); refine goesA_ (some 5) Tryz.func63 #[.int .i64 a0_0, .int .i64 0, .int .i64 4095] ?_; (with_reducible refine (memb_within.calls a0_0 0 4095 true _ A2.out).mono ?_); rintro e w' ⟨rfl, ⟨nd, rfl⟩⟩; refine ⟨_, rfl, ?_⟩) | (go_at_call 63; (with_reducible refine (memb_within.calls a0_1 0 1099511627775 true _ A4.out).mono ?_); rintro e w' ⟨rfl, ⟨nd, rfl⟩⟩) | (go_at_call 63; (with_reducible refine (memb_within.calls a0_2 0 1099511627775 true _ A6.out).mono ?_); rintro e w' ⟨rfl, ⟨nd, rfl⟩⟩) | (go_at_call 63; (with_reducible refine (memb_within.calls a0_3 (-1125899906842624) 1125899906842624 t117 _ A8.out).mono ?_); rintro e w' ⟨rfl, ⟨nd, rfl⟩⟩))
    go_ret
    exact finA_
   ·replace c7 := Bool.eq_false_iff.mpr c7
    subst c7
    have H1 := H; rw [if_neg (show ¬ (false = true) by decide)] at H1
    clear H
    have H := H1
    clear H1
    obtain rfl := Option.some.inj H
    go_enter Tryz.func44, Tryz.ntmps44
    go_wp2_with (first | ((with_reducible refine gate_dst (N := 1) rfl ?_); refine boxA_ 1 36 #[.int .i64 a0_0, .int .i64 a0_1, .int .i64 a0_2, .int .i64 a0_3] ?_; intro gb113 hg w11 hbox hb; have n0_ := Aside0.mk (bstep_ hb); have n1_ := Aside0.mk (hbox); have n2_ := Aside0.mk ((by rw [hg]; exact bsize_ : w.heap.size ≤ gb113)); have n3_ := Aside0.mk ((by rw [hg]; exact bsize_ : w.heap.size ≤ gb113)); clear HB; have HB := n0_; have BK113 := n1_; have GW113 := n2_; have GE113 := n3_; clear n0_ n1_ n2_ n3_; clear hb hbox hg; obtain ⟨hcz12_0, hcz12_1, hcz12_2, hcz12_3, hfz12_0, hfz12_1, hfz12_2, hfz12_3⟩ := blk_all4 BK113.out) | ((with_reducible refine gate_callee (f := 63) rfl ?_); refine goesA_ (some 5) Tryz.func63 #[.int .i64 a0_0, .int .i64 0, .int .i64 4095] ?_; (with_reducible refine (memb_within.calls a0_0 0 4095 true _ A2.out).mono ?_); rintro e w' ⟨rfl, ⟨nd, rfl⟩⟩; refine ⟨_, rfl, ?_⟩) | (go_at_call 63; (with_reducible refine (memb_within.calls a0_1 0 1099511627775 true _ A4.out).mono ?_); rintro e w' ⟨rfl, ⟨nd, rfl⟩⟩) | (go_at_call 63; (with_reducible refine (memb_within.calls a0_2 0 1099511627775 false _ A6.out).mono ?_); rintro e w' ⟨rfl, ⟨nd, rfl⟩⟩))
    go_ret
    exact finA_
  ·replace c5 := Bool.eq_false_iff.mpr c5
   subst c5
   have H1 := H; rw [if_neg (show ¬ (false = true) by decide)] at H1
   clear H
   have H := H1
   clear H1
   obtain rfl := Option.some.inj H
   go_enter Tryz.func44, Tryz.ntmps44
   go_wp2_with (first | ((with_reducible refine gate_dst (N := 1) rfl ?_); refine boxA_ 1 36 #[.int .i64 a0_0, .int .i64 a0_1, .int .i64 a0_2, .int .i64 a0_3] ?_; intro gb113 hg w13 hbox hb; have n0_ := Aside0.mk (bstep_ hb); have n1_ := Aside0.mk (hbox); have n2_ := Aside0.mk ((by rw [hg]; exact bsize_ : w.heap.size ≤ gb113)); have n3_ := Aside0.mk ((by rw [hg]; exact bsize_ : w.heap.size ≤ gb113)); clear HB; have HB := n0_; have BK113 := n1_; have GW113 := n2_; have GE113 := n3_; clear n0_ n1_ n2_ n3_; clear hb hbox hg; obtain ⟨hcz14_0, hcz14_1, hcz14_2, hcz14_3, hfz14_0, hfz14_1, hfz14_2, hfz14_3⟩ := blk_all4 BK113.out) | ((with_reducible refine gate_callee (f := 63) rfl ?_); refine goesA_ (some 5) Tryz.func63 #[.int .i64 a0_0, .int .i64 0, .int .i64 4095] ?_; (with_reducible refine (memb_within.calls a0_0 0 4095 true _ A2.out).mono ?_); rintro e w' ⟨rfl, ⟨nd, rfl⟩⟩; refine ⟨_, rfl, ?_⟩) | (go_at_call 63; (with_reducible refine (memb_within.calls a0_1 0 1099511627775 false _ A4.out).mono ?_); rintro e w' ⟨rfl, ⟨nd, rfl⟩⟩))
   go_ret
   exact finA_
 ·replace c3 := Bool.eq_false_iff.mpr c3
  subst c3
  have H1 := H; rw [if_neg (show ¬ (false = true) by decide)] at H1
  clear H
  have H := H1
  clear H1
  obtain rfl := Option.some.inj H
  go_enter Tryz.func44, Tryz.ntmps44
  go_wp2_with (first | ((with_reducible refine gate_dst (N := 1) rfl ?_); refine boxA_ 1 36 #[.int .i64 a0_0, .int .i64 a0_1, .int .i64 a0_2, .int .i64 a0_3] ?_; intro gb113 hg w15 hbox hb; have n0_ := Aside0.mk (bstep_ hb); have n1_ := Aside0.mk (hbox); have n2_ := Aside0.mk ((by rw [hg]; exact bsize_ : w.heap.size ≤ gb113)); have n3_ := Aside0.mk ((by rw [hg]; exact bsize_ : w.heap.size ≤ gb113)); clear HB; have HB := n0_; have BK113 := n1_; have GW113 := n2_; have GE113 := n3_; clear n0_ n1_ n2_ n3_; clear hb hbox hg; obtain ⟨hcz16_0, hcz16_1, hcz16_2, hcz16_3, hfz16_0, hfz16_1, hfz16_2, hfz16_3⟩ := blk_all4 BK113.out) | ((with_reducible refine gate_callee (f := 63) rfl ?_); refine goesA_ (some 5) Tryz.func63 #[.int .i64 a0_0, .int .i64 0, .int .i64 4095] ?_; (with_reducible refine (memb_within.calls a0_0 0 4095 false _ A2.out).mono ?_); rintro e w' ⟨rfl, ⟨nd, rfl⟩⟩; refine ⟨_, rfl, ?_⟩))
  go_ret
  exact finA_


/-! ### memb_Type: function 6 -/
def memb_Type.f (a0 : Int) : Option (Int) := if a0 < 1 then (some 0) else (if a0 > 4 then (some 0) else (if 0 ≤ (wrap64 (a0 - 1)) then (if (wrap64 (a0 - 1)) < 4 then (some (bt (⟨#[48, 49, 50, 53]⟩ : ByteArray) (wrap64 (a0 - 1)))) else (none)) else (none)))
set_option maxHeartbeats 8000000 in
set_option maxRecDepth 100000 in
theorem memb_Type.calls (a0 : Int) (r : Int) (w : World) (h : memb_Type.f a0 = some r) :
  Calls Tryz.prog 6 #[.int .i64 a0] w fun e w' => e = .returned (.int .u8 r) ∧ Drawn0 w w' := by
 have H : (if a0 < 1 then (some 0) else (if a0 > 4 then (some 0) else (if 0 ≤ (wrap64 (a0 - 1)) then (if (wrap64 (a0 - 1)) < 4 then (some (bt (⟨#[48, 49, 50, 53]⟩ : ByteArray) (wrap64 (a0 - 1)))) else (none)) else (none)))) = some r := h
 clear h
 by_cases c2 : a0 < 1
 ·rw [if_pos c2] at H
  have c2b0 : decide (a0 < 1) = true := decide_eq_true c2
  clear c2
  obtain rfl := Option.some.inj H
  go_enter Tryz.func6, Tryz.ntmps6
  go_wp2
  go_ret
  exact ⟨by first | rfl | (simp; done) | (simp [*]; done), by repeat (first | exact Drawn0.refl _ | apply Drawn0.step)⟩
 ·rw [if_neg c2] at H
  have c2b0 : decide (a0 < 1) = false := decide_eq_false c2
  clear c2
  by_cases c3 : a0 > 4
  ·rw [if_pos c3] at H
   have c3b0 : decide (4 < a0) = true := decide_eq_true c3
   clear c3
   obtain rfl := Option.some.inj H
   go_enter Tryz.func6, Tryz.ntmps6
   go_wp2
   go_ret
   exact ⟨by first | rfl | (simp; done) | (simp [*]; done), by repeat (first | exact Drawn0.refl _ | apply Drawn0.step)⟩
  ·rw [if_neg c3] at H
   have c3b0 : decide (4 < a0) = false := decide_eq_false c3
   clear c3
   obtain ⟨ji4, hji4⟩ : ∃ j_ : Int, (wrap64 (a0 - 1)) = j_ := ⟨_, rfl⟩
   replace H : (if 0 ≤ (ji4) then (if (ji4) < 4 then (some (bt (⟨#[48, 49, 50, 53]⟩ : ByteArray) (ji4))) else (none)) else (none)) = some r := by first | (rw [hji4] at H; exact H) | (simp only [hji4] at H ⊢; exact H)
   have hji4w : (IntKind.i64.wrap (a0 - 1)) = ji4 := (i64_w _).trans hji4
   by_cases c5 : 0 ≤ (ji4)
   ·rw [if_pos c5] at H
    have c5b0 : decide (0 ≤ (ji4)) = true := decide_eq_true c5
    clear c5
    by_cases c6 : (ji4) < 4
    ·rw [if_pos c6] at H
     have c6b0 : decide ((ji4) < 4) = true := decide_eq_true c6
     clear c6
     obtain rfl := Option.some.inj H
     have p7 : 0 ≤ ((ji4) : Int) := of_decide_eq_true (by first | (with_reducible assumption) | assumption)
     have q7 : (ji4) < (4 : Int) := of_decide_eq_true (by first | (with_reducible assumption) | assumption)
     have hx7 := bt_at (⟨#[48, 49, 50, 53]⟩ : ByteArray) (ji4)
     replace p7 := eq_true p7
     replace q7 := eq_true q7
     go_enter Tryz.func6, Tryz.ntmps6
     go_wp2
     go_ret
     exact ⟨by first | rfl | (simp; done) | (simp only [← hji4] <;> (first | rfl | simp)) | (simp [*]; done), by repeat (first | exact Drawn0.refl _ | apply Drawn0.step)⟩
    ·rw [if_neg c6] at H
     exact absurd H (by simp)
   ·rw [if_neg c5] at H
    exact absurd H (by simp)

end Go.Proofs.YtjidenkhgeoaiaaGreatDoor.P

/- Contract, by hand, of memb.isKind (printed by genkind.py). -/
namespace Go.Proofs.YtjidenkhgeoaiaaGreatDoor.Hand
open Go.RowKit Go.Proofs.YtjidenkhgeoaiaaGreatDoor.P Go.Proofs.YtjidenkhgeoaiaaGreatDoorW Go.Proofs.YtjidenkhgeoaiaaGreatDoorW.PrintWords Go.Proofs.YtjidenkhgeoaiaaGreatDoorW.PrintLast Go.Proofs.YtjidenkhgeoaiaaGreatDoorW.PrintMore
set_option linter.unusedVariables false
set_option linter.unusedSimpArgs false
theorem drawnK {w w' : World} (h : Drawn0 w w') : Below w.heap.size w w' := by
  obtain ⟨n, rfl⟩ := h
  exact pw_below_drewN (Below.refl _ _) n
/-- memb.isKind: kind, link, how many bytes. -/
def memb_isKind.f (a0 : ByteArray) (a1 a2 a3 a4 a5 : Int) (a6 : ByteArray) (l7 : List Int) : Option Int :=
  if a1 = 1 then (if (4096 : Int) < (l7.length : Int) then some 10 else if a6.toList = ([] : List UInt8) then some 0 else some 3)
  else if a1 = 4 then (if a6.toList = ([] : List UInt8) then (if (0 : Int) < (l7.length : Int) then some 3 else some 0) else some 3)
  else if a1 = 2 then (ppath_May.f a6).bind fun b => if b = true then (if (0 : Int) < (l7.length : Int) then some 3 else some 0) else some 8
  else if a1 = 3 then (if a6.toList = ([] : List UInt8) then some 3 else (strings_Contains.f a6 (⟨#[0]⟩ : ByteArray)).bind fun b => if b = true then some 3 else if (300 : Int) < (a6.size : Int) then some 10 else if (0 : Int) < (l7.length : Int) then some 3 else some 0)
  else some 11

set_option maxHeartbeats 4000000 in
set_option maxRecDepth 100000 in
theorem isKind_file_big (a0 : ByteArray) (a2 a3 a4 a5 : Int) (a6 : ByteArray) (A7 : Option Addr) (c7 : Nat) (l7 : List Int) (hl : (4096 : Int) < (l7.length : Int)) (w : World) :
    Calls Tryz.prog 45 #[.agg #[.string a0, .int .i64 1, .int .i64 a2, .int .i64 a3, .int .i64 a4, .int .i64 a5, .string a6, .slice A7 l7.length c7]] w fun e w' => e = .returned (.int .i64 10) ∧ Below w.heap.size w w' := by
  have d7 : decide ((4096 : Int) < (l7.length : Int)) = true := decide_eq_true hl
  have d8 : decide (4096 < l7.length) = true := by (apply decide_eq_true; omega)
  clear hl
  go_enter Tryz.func45, Tryz.ntmps45
  go_wp2_with (first | ((with_reducible refine gate_dst (N := 1) rfl ?_); refine box_event ?hg (N := 1) ?hd (cs := #[.string a0, .int .i64 1, .int .i64 a2, .int .i64 a3, .int .i64 a4, .int .i64 a5, .string a6, .slice A7 l7.length c7]) (t := 38) ?hr ?_; (case hd => rfl); (case hg => rfl); (case hr => first | (go_simp; done) | (go_simp; rfl)); intro gg hg w1 hbox hb; have HB := Aside0.mk hb; have BG := Aside0.mk hbox; have GG := Aside0.mk (Nat.le_of_eq hg.symm); clear hb hbox hg; obtain ⟨-, hg1, -, -, -, -, hg6, hg7, -, fg1, -, -, -, -, fg6, fg7⟩ := blk_all8 BG.out))
  go_ret
  exact ⟨rfl, by repeat (first | exact HB.out | apply below_alloc | apply pw_below_drewN | apply below_drew1 | refine below_set ?_ GG.out)⟩
set_option maxHeartbeats 4000000 in
set_option maxRecDepth 100000 in
theorem isKind_file_link (a0 : ByteArray) (a2 a3 a4 a5 : Int) (a6 : ByteArray) (A7 : Option Addr) (c7 : Nat) (l7 : List Int) (hl : ¬ (4096 : Int) < (l7.length : Int)) (h6 : ¬ a6.toList = ([] : List UInt8)) (w : World) :
    Calls Tryz.prog 45 #[.agg #[.string a0, .int .i64 1, .int .i64 a2, .int .i64 a3, .int .i64 a4, .int .i64 a5, .string a6, .slice A7 l7.length c7]] w fun e w' => e = .returned (.int .i64 3) ∧ Below w.heap.size w w' := by
  have d7 : decide ((4096 : Int) < (l7.length : Int)) = false := decide_eq_false hl
  have d8 : decide (4096 < l7.length) = false := by (apply decide_eq_false; omega)
  clear hl
  have e0 : (a6.toList == ([] : List UInt8)) = false := beq_eq_false_iff_ne.mpr h6
  have e1 : (a6.toList != ([] : List UInt8)) = true := bne_iff_ne.mpr h6
  clear h6
  go_enter Tryz.func45, Tryz.ntmps45
  go_wp2_with (first | ((with_reducible refine gate_dst (N := 1) rfl ?_); refine box_event ?hg (N := 1) ?hd (cs := #[.string a0, .int .i64 1, .int .i64 a2, .int .i64 a3, .int .i64 a4, .int .i64 a5, .string a6, .slice A7 l7.length c7]) (t := 38) ?hr ?_; (case hd => rfl); (case hg => rfl); (case hr => first | (go_simp; done) | (go_simp; rfl)); intro gg hg w1 hbox hb; have HB := Aside0.mk hb; have BG := Aside0.mk hbox; have GG := Aside0.mk (Nat.le_of_eq hg.symm); clear hb hbox hg; obtain ⟨-, hg1, -, -, -, -, hg6, hg7, -, fg1, -, -, -, -, fg6, fg7⟩ := blk_all8 BG.out))
  go_ret
  exact ⟨rfl, by repeat (first | exact HB.out | apply below_alloc | apply pw_below_drewN | apply below_drew1 | refine below_set ?_ GG.out)⟩
set_option maxHeartbeats 4000000 in
set_option maxRecDepth 100000 in
theorem isKind_file_ok (a0 : ByteArray) (a2 a3 a4 a5 : Int) (a6 : ByteArray) (A7 : Option Addr) (c7 : Nat) (l7 : List Int) (hl : ¬ (4096 : Int) < (l7.length : Int)) (h6 : a6.toList = ([] : List UInt8)) (w : World) :
    Calls Tryz.prog 45 #[.agg #[.string a0, .int .i64 1, .int .i64 a2, .int .i64 a3, .int .i64 a4, .int .i64 a5, .string a6, .slice A7 l7.length c7]] w fun e w' => e = .returned (.int .i64 0) ∧ Below w.heap.size w w' := by
  have d7 : decide ((4096 : Int) < (l7.length : Int)) = false := decide_eq_false hl
  have d8 : decide (4096 < l7.length) = false := by (apply decide_eq_false; omega)
  clear hl
  have e0 : (a6.toList == ([] : List UInt8)) = true := beq_iff_eq.mpr h6
  have e1 : (a6.toList != ([] : List UInt8)) = false := bne_eq_false_iff_eq.mpr h6
  clear h6
  go_enter Tryz.func45, Tryz.ntmps45
  go_wp2_with (first | ((with_reducible refine gate_dst (N := 1) rfl ?_); refine box_event ?hg (N := 1) ?hd (cs := #[.string a0, .int .i64 1, .int .i64 a2, .int .i64 a3, .int .i64 a4, .int .i64 a5, .string a6, .slice A7 l7.length c7]) (t := 38) ?hr ?_; (case hd => rfl); (case hg => rfl); (case hr => first | (go_simp; done) | (go_simp; rfl)); intro gg hg w1 hbox hb; have HB := Aside0.mk hb; have BG := Aside0.mk hbox; have GG := Aside0.mk (Nat.le_of_eq hg.symm); clear hb hbox hg; obtain ⟨-, hg1, -, -, -, -, hg6, hg7, -, fg1, -, -, -, -, fg6, fg7⟩ := blk_all8 BG.out))
  go_ret
  exact ⟨rfl, by repeat (first | exact HB.out | apply below_alloc | apply pw_below_drewN | apply below_drew1 | refine below_set ?_ GG.out)⟩
set_option maxHeartbeats 4000000 in
set_option maxRecDepth 100000 in
theorem isKind_dir_link (a0 : ByteArray) (a2 a3 a4 a5 : Int) (a6 : ByteArray) (A7 : Option Addr) (c7 : Nat) (l7 : List Int) (h6 : ¬ a6.toList = ([] : List UInt8)) (w : World) :
    Calls Tryz.prog 45 #[.agg #[.string a0, .int .i64 4, .int .i64 a2, .int .i64 a3, .int .i64 a4, .int .i64 a5, .string a6, .slice A7 l7.length c7]] w fun e w' => e = .returned (.int .i64 3) ∧ Below w.heap.size w w' := by
  have e0 : (a6.toList == ([] : List UInt8)) = false := beq_eq_false_iff_ne.mpr h6
  have e1 : (a6.toList != ([] : List UInt8)) = true := bne_iff_ne.mpr h6
  clear h6
  go_enter Tryz.func45, Tryz.ntmps45
  go_wp2_with (first | ((with_reducible refine gate_dst (N := 1) rfl ?_); refine box_event ?hg (N := 1) ?hd (cs := #[.string a0, .int .i64 4, .int .i64 a2, .int .i64 a3, .int .i64 a4, .int .i64 a5, .string a6, .slice A7 l7.length c7]) (t := 38) ?hr ?_; (case hd => rfl); (case hg => rfl); (case hr => first | (go_simp; done) | (go_simp; rfl)); intro gg hg w1 hbox hb; have HB := Aside0.mk hb; have BG := Aside0.mk hbox; have GG := Aside0.mk (Nat.le_of_eq hg.symm); clear hb hbox hg; obtain ⟨-, hg1, -, -, -, -, hg6, hg7, -, fg1, -, -, -, -, fg6, fg7⟩ := blk_all8 BG.out))
  go_ret
  exact ⟨rfl, by repeat (first | exact HB.out | apply below_alloc | apply pw_below_drewN | apply below_drew1 | refine below_set ?_ GG.out)⟩
set_option maxHeartbeats 4000000 in
set_option maxRecDepth 100000 in
theorem isKind_dir_data (a0 : ByteArray) (a2 a3 a4 a5 : Int) (a6 : ByteArray) (A7 : Option Addr) (c7 : Nat) (l7 : List Int) (h6 : a6.toList = ([] : List UInt8)) (hl : (0 : Int) < (l7.length : Int)) (w : World) :
    Calls Tryz.prog 45 #[.agg #[.string a0, .int .i64 4, .int .i64 a2, .int .i64 a3, .int .i64 a4, .int .i64 a5, .string a6, .slice A7 l7.length c7]] w fun e w' => e = .returned (.int .i64 3) ∧ Below w.heap.size w w' := by
  have e0 : (a6.toList == ([] : List UInt8)) = true := beq_iff_eq.mpr h6
  have e1 : (a6.toList != ([] : List UInt8)) = false := bne_eq_false_iff_eq.mpr h6
  clear h6
  have d7 : decide ((0 : Int) < (l7.length : Int)) = true := decide_eq_true hl
  have d8 : decide (0 < l7.length) = true := by simpa using hl
  clear hl
  go_enter Tryz.func45, Tryz.ntmps45
  go_wp2_with (first | ((with_reducible refine gate_dst (N := 1) rfl ?_); refine box_event ?hg (N := 1) ?hd (cs := #[.string a0, .int .i64 4, .int .i64 a2, .int .i64 a3, .int .i64 a4, .int .i64 a5, .string a6, .slice A7 l7.length c7]) (t := 38) ?hr ?_; (case hd => rfl); (case hg => rfl); (case hr => first | (go_simp; done) | (go_simp; rfl)); intro gg hg w1 hbox hb; have HB := Aside0.mk hb; have BG := Aside0.mk hbox; have GG := Aside0.mk (Nat.le_of_eq hg.symm); clear hb hbox hg; obtain ⟨-, hg1, -, -, -, -, hg6, hg7, -, fg1, -, -, -, -, fg6, fg7⟩ := blk_all8 BG.out))
  go_ret
  exact ⟨rfl, by repeat (first | exact HB.out | apply below_alloc | apply pw_below_drewN | apply below_drew1 | refine below_set ?_ GG.out)⟩
set_option maxHeartbeats 4000000 in
set_option maxRecDepth 100000 in
theorem isKind_dir_ok (a0 : ByteArray) (a2 a3 a4 a5 : Int) (a6 : ByteArray) (A7 : Option Addr) (c7 : Nat) (l7 : List Int) (h6 : a6.toList = ([] : List UInt8)) (hl : ¬ (0 : Int) < (l7.length : Int)) (w : World) :
    Calls Tryz.prog 45 #[.agg #[.string a0, .int .i64 4, .int .i64 a2, .int .i64 a3, .int .i64 a4, .int .i64 a5, .string a6, .slice A7 l7.length c7]] w fun e w' => e = .returned (.int .i64 0) ∧ Below w.heap.size w w' := by
  have e0 : (a6.toList == ([] : List UInt8)) = true := beq_iff_eq.mpr h6
  have e1 : (a6.toList != ([] : List UInt8)) = false := bne_eq_false_iff_eq.mpr h6
  clear h6
  have d7 : decide ((0 : Int) < (l7.length : Int)) = false := decide_eq_false hl
  have d8 : decide (0 < l7.length) = false := by simpa using hl
  clear hl
  go_enter Tryz.func45, Tryz.ntmps45
  go_wp2_with (first | ((with_reducible refine gate_dst (N := 1) rfl ?_); refine box_event ?hg (N := 1) ?hd (cs := #[.string a0, .int .i64 4, .int .i64 a2, .int .i64 a3, .int .i64 a4, .int .i64 a5, .string a6, .slice A7 l7.length c7]) (t := 38) ?hr ?_; (case hd => rfl); (case hg => rfl); (case hr => first | (go_simp; done) | (go_simp; rfl)); intro gg hg w1 hbox hb; have HB := Aside0.mk hb; have BG := Aside0.mk hbox; have GG := Aside0.mk (Nat.le_of_eq hg.symm); clear hb hbox hg; obtain ⟨-, hg1, -, -, -, -, hg6, hg7, -, fg1, -, -, -, -, fg6, fg7⟩ := blk_all8 BG.out))
  go_ret
  exact ⟨rfl, by repeat (first | exact HB.out | apply below_alloc | apply pw_below_drewN | apply below_drew1 | refine below_set ?_ GG.out)⟩
set_option maxHeartbeats 4000000 in
set_option maxRecDepth 100000 in
theorem isKind_hard_path (a0 : ByteArray) (a2 a3 a4 a5 : Int) (a6 : ByteArray) (A7 : Option Addr) (c7 : Nat) (l7 : List Int) (hm : ppath_May.f a6 = some false) (w : World) :
    Calls Tryz.prog 45 #[.agg #[.string a0, .int .i64 2, .int .i64 a2, .int .i64 a3, .int .i64 a4, .int .i64 a5, .string a6, .slice A7 l7.length c7]] w fun e w' => e = .returned (.int .i64 8) ∧ Below w.heap.size w w' := by
  have HM := Aside0.mk hm
  clear hm
  go_enter Tryz.func45, Tryz.ntmps45
  go_wp2_with (first | ((with_reducible refine gate_dst (N := 1) rfl ?_); refine box_event ?hg (N := 1) ?hd (cs := #[.string a0, .int .i64 2, .int .i64 a2, .int .i64 a3, .int .i64 a4, .int .i64 a5, .string a6, .slice A7 l7.length c7]) (t := 38) ?hr ?_; (case hd => rfl); (case hg => rfl); (case hr => first | (go_simp; done) | (go_simp; rfl)); intro gg hg w1 hbox hb; have HB := Aside0.mk hb; have BG := Aside0.mk hbox; have GG := Aside0.mk (Nat.le_of_eq hg.symm); clear hb hbox hg; obtain ⟨-, hg1, -, -, -, -, hg6, hg7, -, fg1, -, -, -, -, fg6, fg7⟩ := blk_all8 BG.out) | (go_at_call 43; (with_reducible refine (ppath_May.calls a6 false _ HM.out).mono ?_); rintro e w2 ⟨rfl, hd⟩; clear hg1 fg1 hg6 fg6 hg7 fg7; have hb := hd; have n0_ := Aside0.mk (below_step HB.out hb); have n1_ := Aside0.mk (blk_below BG.out hb); clear HB BG hb hd; have HB := n0_; have BG := n1_; clear n0_ n1_; obtain ⟨-, hg1, -, -, -, -, hg6, hg7, -, fg1, -, -, -, -, fg6, fg7⟩ := blk_all8 BG.out))
  go_ret
  exact ⟨rfl, by repeat (first | exact HB.out | apply below_alloc | apply pw_below_drewN | apply below_drew1 | refine below_set ?_ GG.out)⟩
set_option maxHeartbeats 4000000 in
set_option maxRecDepth 100000 in
theorem isKind_hard_data (a0 : ByteArray) (a2 a3 a4 a5 : Int) (a6 : ByteArray) (A7 : Option Addr) (c7 : Nat) (l7 : List Int) (hm : ppath_May.f a6 = some true) (hl : (0 : Int) < (l7.length : Int)) (w : World) :
    Calls Tryz.prog 45 #[.agg #[.string a0, .int .i64 2, .int .i64 a2, .int .i64 a3, .int .i64 a4, .int .i64 a5, .string a6, .slice A7 l7.length c7]] w fun e w' => e = .returned (.int .i64 3) ∧ Below w.heap.size w w' := by
  have HM := Aside0.mk hm
  clear hm
  have d7 : decide ((0 : Int) < (l7.length : Int)) = true := decide_eq_true hl
  have d8 : decide (0 < l7.length) = true := by simpa using hl
  clear hl
  go_enter Tryz.func45, Tryz.ntmps45
  go_wp2_with (first | ((with_reducible refine gate_dst (N := 1) rfl ?_); refine box_event ?hg (N := 1) ?hd (cs := #[.string a0, .int .i64 2, .int .i64 a2, .int .i64 a3, .int .i64 a4, .int .i64 a5, .string a6, .slice A7 l7.length c7]) (t := 38) ?hr ?_; (case hd => rfl); (case hg => rfl); (case hr => first | (go_simp; done) | (go_simp; rfl)); intro gg hg w1 hbox hb; have HB := Aside0.mk hb; have BG := Aside0.mk hbox; have GG := Aside0.mk (Nat.le_of_eq hg.symm); clear hb hbox hg; obtain ⟨-, hg1, -, -, -, -, hg6, hg7, -, fg1, -, -, -, -, fg6, fg7⟩ := blk_all8 BG.out) | (go_at_call 43; (with_reducible refine (ppath_May.calls a6 true _ HM.out).mono ?_); rintro e w2 ⟨rfl, hd⟩; clear hg1 fg1 hg6 fg6 hg7 fg7; have hb := hd; have n0_ := Aside0.mk (below_step HB.out hb); have n1_ := Aside0.mk (blk_below BG.out hb); clear HB BG hb hd; have HB := n0_; have BG := n1_; clear n0_ n1_; obtain ⟨-, hg1, -, -, -, -, hg6, hg7, -, fg1, -, -, -, -, fg6, fg7⟩ := blk_all8 BG.out))
  go_ret
  exact ⟨rfl, by repeat (first | exact HB.out | apply below_alloc | apply pw_below_drewN | apply below_drew1 | refine below_set ?_ GG.out)⟩
set_option maxHeartbeats 4000000 in
set_option maxRecDepth 100000 in
theorem isKind_hard_ok (a0 : ByteArray) (a2 a3 a4 a5 : Int) (a6 : ByteArray) (A7 : Option Addr) (c7 : Nat) (l7 : List Int) (hm : ppath_May.f a6 = some true) (hl : ¬ (0 : Int) < (l7.length : Int)) (w : World) :
    Calls Tryz.prog 45 #[.agg #[.string a0, .int .i64 2, .int .i64 a2, .int .i64 a3, .int .i64 a4, .int .i64 a5, .string a6, .slice A7 l7.length c7]] w fun e w' => e = .returned (.int .i64 0) ∧ Below w.heap.size w w' := by
  have HM := Aside0.mk hm
  clear hm
  have d7 : decide ((0 : Int) < (l7.length : Int)) = false := decide_eq_false hl
  have d8 : decide (0 < l7.length) = false := by simpa using hl
  clear hl
  go_enter Tryz.func45, Tryz.ntmps45
  go_wp2_with (first | ((with_reducible refine gate_dst (N := 1) rfl ?_); refine box_event ?hg (N := 1) ?hd (cs := #[.string a0, .int .i64 2, .int .i64 a2, .int .i64 a3, .int .i64 a4, .int .i64 a5, .string a6, .slice A7 l7.length c7]) (t := 38) ?hr ?_; (case hd => rfl); (case hg => rfl); (case hr => first | (go_simp; done) | (go_simp; rfl)); intro gg hg w1 hbox hb; have HB := Aside0.mk hb; have BG := Aside0.mk hbox; have GG := Aside0.mk (Nat.le_of_eq hg.symm); clear hb hbox hg; obtain ⟨-, hg1, -, -, -, -, hg6, hg7, -, fg1, -, -, -, -, fg6, fg7⟩ := blk_all8 BG.out) | (go_at_call 43; (with_reducible refine (ppath_May.calls a6 true _ HM.out).mono ?_); rintro e w2 ⟨rfl, hd⟩; clear hg1 fg1 hg6 fg6 hg7 fg7; have hb := hd; have n0_ := Aside0.mk (below_step HB.out hb); have n1_ := Aside0.mk (blk_below BG.out hb); clear HB BG hb hd; have HB := n0_; have BG := n1_; clear n0_ n1_; obtain ⟨-, hg1, -, -, -, -, hg6, hg7, -, fg1, -, -, -, -, fg6, fg7⟩ := blk_all8 BG.out))
  go_ret
  exact ⟨rfl, by repeat (first | exact HB.out | apply below_alloc | apply pw_below_drewN | apply below_drew1 | refine below_set ?_ GG.out)⟩
set_option maxHeartbeats 4000000 in
set_option maxRecDepth 100000 in
theorem isKind_sym_none (a0 : ByteArray) (a2 a3 a4 a5 : Int) (a6 : ByteArray) (A7 : Option Addr) (c7 : Nat) (l7 : List Int) (h6 : a6.toList = ([] : List UInt8)) (w : World) :
    Calls Tryz.prog 45 #[.agg #[.string a0, .int .i64 3, .int .i64 a2, .int .i64 a3, .int .i64 a4, .int .i64 a5, .string a6, .slice A7 l7.length c7]] w fun e w' => e = .returned (.int .i64 3) ∧ Below w.heap.size w w' := by
  have e0 : (a6.toList == ([] : List UInt8)) = true := beq_iff_eq.mpr h6
  have e1 : (a6.toList != ([] : List UInt8)) = false := bne_eq_false_iff_eq.mpr h6
  clear h6
  go_enter Tryz.func45, Tryz.ntmps45
  go_wp2_with (first | ((with_reducible refine gate_dst (N := 1) rfl ?_); refine box_event ?hg (N := 1) ?hd (cs := #[.string a0, .int .i64 3, .int .i64 a2, .int .i64 a3, .int .i64 a4, .int .i64 a5, .string a6, .slice A7 l7.length c7]) (t := 38) ?hr ?_; (case hd => rfl); (case hg => rfl); (case hr => first | (go_simp; done) | (go_simp; rfl)); intro gg hg w1 hbox hb; have HB := Aside0.mk hb; have BG := Aside0.mk hbox; have GG := Aside0.mk (Nat.le_of_eq hg.symm); clear hb hbox hg; obtain ⟨-, hg1, -, -, -, -, hg6, hg7, -, fg1, -, -, -, -, fg6, fg7⟩ := blk_all8 BG.out))
  go_ret
  exact ⟨rfl, by repeat (first | exact HB.out | apply below_alloc | apply pw_below_drewN | apply below_drew1 | refine below_set ?_ GG.out)⟩
set_option maxHeartbeats 4000000 in
set_option maxRecDepth 100000 in
theorem isKind_sym_zero (a0 : ByteArray) (a2 a3 a4 a5 : Int) (a6 : ByteArray) (A7 : Option Addr) (c7 : Nat) (l7 : List Int) (h6 : ¬ a6.toList = ([] : List UInt8)) (hm : strings_Contains.f a6 (⟨#[0]⟩ : ByteArray) = some true) (w : World) :
    Calls Tryz.prog 45 #[.agg #[.string a0, .int .i64 3, .int .i64 a2, .int .i64 a3, .int .i64 a4, .int .i64 a5, .string a6, .slice A7 l7.length c7]] w fun e w' => e = .returned (.int .i64 3) ∧ Below w.heap.size w w' := by
  have e0 : (a6.toList == ([] : List UInt8)) = false := beq_eq_false_iff_ne.mpr h6
  have e1 : (a6.toList != ([] : List UInt8)) = true := bne_iff_ne.mpr h6
  clear h6
  have HM := Aside0.mk hm
  clear hm
  go_enter Tryz.func45, Tryz.ntmps45
  go_wp2_with (first | ((with_reducible refine gate_dst (N := 1) rfl ?_); refine box_event ?hg (N := 1) ?hd (cs := #[.string a0, .int .i64 3, .int .i64 a2, .int .i64 a3, .int .i64 a4, .int .i64 a5, .string a6, .slice A7 l7.length c7]) (t := 38) ?hr ?_; (case hd => rfl); (case hg => rfl); (case hr => first | (go_simp; done) | (go_simp; rfl)); intro gg hg w1 hbox hb; have HB := Aside0.mk hb; have BG := Aside0.mk hbox; have GG := Aside0.mk (Nat.le_of_eq hg.symm); clear hb hbox hg; obtain ⟨-, hg1, -, -, -, -, hg6, hg7, -, fg1, -, -, -, -, fg6, fg7⟩ := blk_all8 BG.out) | (go_at_call 64; (with_reducible refine (strings_Contains.calls a6 (⟨#[0]⟩ : ByteArray) true _ HM.out).mono ?_); rintro e w2 ⟨rfl, hd⟩; clear hg1 fg1 hg6 fg6 hg7 fg7; have hb := drawnK hd; have n0_ := Aside0.mk (below_step HB.out hb); have n1_ := Aside0.mk (blk_below BG.out hb); clear HB BG hb hd; have HB := n0_; have BG := n1_; clear n0_ n1_; obtain ⟨-, hg1, -, -, -, -, hg6, hg7, -, fg1, -, -, -, -, fg6, fg7⟩ := blk_all8 BG.out))
  go_ret
  exact ⟨rfl, by repeat (first | exact HB.out | apply below_alloc | apply pw_below_drewN | apply below_drew1 | refine below_set ?_ GG.out)⟩
set_option maxHeartbeats 4000000 in
set_option maxRecDepth 100000 in
theorem isKind_sym_big (a0 : ByteArray) (a2 a3 a4 a5 : Int) (a6 : ByteArray) (A7 : Option Addr) (c7 : Nat) (l7 : List Int) (h6 : ¬ a6.toList = ([] : List UInt8)) (hm : strings_Contains.f a6 (⟨#[0]⟩ : ByteArray) = some false) (hs : (300 : Int) < (a6.size : Int)) (w : World) :
    Calls Tryz.prog 45 #[.agg #[.string a0, .int .i64 3, .int .i64 a2, .int .i64 a3, .int .i64 a4, .int .i64 a5, .string a6, .slice A7 l7.length c7]] w fun e w' => e = .returned (.int .i64 10) ∧ Below w.heap.size w w' := by
  have e0 : (a6.toList == ([] : List UInt8)) = false := beq_eq_false_iff_ne.mpr h6
  have e1 : (a6.toList != ([] : List UInt8)) = true := bne_iff_ne.mpr h6
  clear h6
  have HM := Aside0.mk hm
  clear hm
  have d6 : decide ((300 : Int) < (a6.size : Int)) = true := decide_eq_true hs
  have d5 : decide (300 < a6.size) = true := by (apply decide_eq_true; omega)
  clear hs
  go_enter Tryz.func45, Tryz.ntmps45
  go_wp2_with (first | ((with_reducible refine gate_dst (N := 1) rfl ?_); refine box_event ?hg (N := 1) ?hd (cs := #[.string a0, .int .i64 3, .int .i64 a2, .int .i64 a3, .int .i64 a4, .int .i64 a5, .string a6, .slice A7 l7.length c7]) (t := 38) ?hr ?_; (case hd => rfl); (case hg => rfl); (case hr => first | (go_simp; done) | (go_simp; rfl)); intro gg hg w1 hbox hb; have HB := Aside0.mk hb; have BG := Aside0.mk hbox; have GG := Aside0.mk (Nat.le_of_eq hg.symm); clear hb hbox hg; obtain ⟨-, hg1, -, -, -, -, hg6, hg7, -, fg1, -, -, -, -, fg6, fg7⟩ := blk_all8 BG.out) | (go_at_call 64; (with_reducible refine (strings_Contains.calls a6 (⟨#[0]⟩ : ByteArray) false _ HM.out).mono ?_); rintro e w2 ⟨rfl, hd⟩; clear hg1 fg1 hg6 fg6 hg7 fg7; have hb := drawnK hd; have n0_ := Aside0.mk (below_step HB.out hb); have n1_ := Aside0.mk (blk_below BG.out hb); clear HB BG hb hd; have HB := n0_; have BG := n1_; clear n0_ n1_; obtain ⟨-, hg1, -, -, -, -, hg6, hg7, -, fg1, -, -, -, -, fg6, fg7⟩ := blk_all8 BG.out))
  go_ret
  exact ⟨rfl, by repeat (first | exact HB.out | apply below_alloc | apply pw_below_drewN | apply below_drew1 | refine below_set ?_ GG.out)⟩
set_option maxHeartbeats 4000000 in
set_option maxRecDepth 100000 in
theorem isKind_sym_data (a0 : ByteArray) (a2 a3 a4 a5 : Int) (a6 : ByteArray) (A7 : Option Addr) (c7 : Nat) (l7 : List Int) (h6 : ¬ a6.toList = ([] : List UInt8)) (hm : strings_Contains.f a6 (⟨#[0]⟩ : ByteArray) = some false) (hs : ¬ (300 : Int) < (a6.size : Int)) (hl : (0 : Int) < (l7.length : Int)) (w : World) :
    Calls Tryz.prog 45 #[.agg #[.string a0, .int .i64 3, .int .i64 a2, .int .i64 a3, .int .i64 a4, .int .i64 a5, .string a6, .slice A7 l7.length c7]] w fun e w' => e = .returned (.int .i64 3) ∧ Below w.heap.size w w' := by
  have e0 : (a6.toList == ([] : List UInt8)) = false := beq_eq_false_iff_ne.mpr h6
  have e1 : (a6.toList != ([] : List UInt8)) = true := bne_iff_ne.mpr h6
  clear h6
  have HM := Aside0.mk hm
  clear hm
  have d6 : decide ((300 : Int) < (a6.size : Int)) = false := decide_eq_false hs
  have d5 : decide (300 < a6.size) = false := by (apply decide_eq_false; omega)
  clear hs
  have d7 : decide ((0 : Int) < (l7.length : Int)) = true := decide_eq_true hl
  have d8 : decide (0 < l7.length) = true := by simpa using hl
  clear hl
  go_enter Tryz.func45, Tryz.ntmps45
  go_wp2_with (first | ((with_reducible refine gate_dst (N := 1) rfl ?_); refine box_event ?hg (N := 1) ?hd (cs := #[.string a0, .int .i64 3, .int .i64 a2, .int .i64 a3, .int .i64 a4, .int .i64 a5, .string a6, .slice A7 l7.length c7]) (t := 38) ?hr ?_; (case hd => rfl); (case hg => rfl); (case hr => first | (go_simp; done) | (go_simp; rfl)); intro gg hg w1 hbox hb; have HB := Aside0.mk hb; have BG := Aside0.mk hbox; have GG := Aside0.mk (Nat.le_of_eq hg.symm); clear hb hbox hg; obtain ⟨-, hg1, -, -, -, -, hg6, hg7, -, fg1, -, -, -, -, fg6, fg7⟩ := blk_all8 BG.out) | (go_at_call 64; (with_reducible refine (strings_Contains.calls a6 (⟨#[0]⟩ : ByteArray) false _ HM.out).mono ?_); rintro e w2 ⟨rfl, hd⟩; clear hg1 fg1 hg6 fg6 hg7 fg7; have hb := drawnK hd; have n0_ := Aside0.mk (below_step HB.out hb); have n1_ := Aside0.mk (blk_below BG.out hb); clear HB BG hb hd; have HB := n0_; have BG := n1_; clear n0_ n1_; obtain ⟨-, hg1, -, -, -, -, hg6, hg7, -, fg1, -, -, -, -, fg6, fg7⟩ := blk_all8 BG.out))
  go_ret
  exact ⟨rfl, by repeat (first | exact HB.out | apply below_alloc | apply pw_below_drewN | apply below_drew1 | refine below_set ?_ GG.out)⟩
set_option maxHeartbeats 4000000 in
set_option maxRecDepth 100000 in
theorem isKind_sym_ok (a0 : ByteArray) (a2 a3 a4 a5 : Int) (a6 : ByteArray) (A7 : Option Addr) (c7 : Nat) (l7 : List Int) (h6 : ¬ a6.toList = ([] : List UInt8)) (hm : strings_Contains.f a6 (⟨#[0]⟩ : ByteArray) = some false) (hs : ¬ (300 : Int) < (a6.size : Int)) (hl : ¬ (0 : Int) < (l7.length : Int)) (w : World) :
    Calls Tryz.prog 45 #[.agg #[.string a0, .int .i64 3, .int .i64 a2, .int .i64 a3, .int .i64 a4, .int .i64 a5, .string a6, .slice A7 l7.length c7]] w fun e w' => e = .returned (.int .i64 0) ∧ Below w.heap.size w w' := by
  have e0 : (a6.toList == ([] : List UInt8)) = false := beq_eq_false_iff_ne.mpr h6
  have e1 : (a6.toList != ([] : List UInt8)) = true := bne_iff_ne.mpr h6
  clear h6
  have HM := Aside0.mk hm
  clear hm
  have d6 : decide ((300 : Int) < (a6.size : Int)) = false := decide_eq_false hs
  have d5 : decide (300 < a6.size) = false := by (apply decide_eq_false; omega)
  clear hs
  have d7 : decide ((0 : Int) < (l7.length : Int)) = false := decide_eq_false hl
  have d8 : decide (0 < l7.length) = false := by simpa using hl
  clear hl
  go_enter Tryz.func45, Tryz.ntmps45
  go_wp2_with (first | ((with_reducible refine gate_dst (N := 1) rfl ?_); refine box_event ?hg (N := 1) ?hd (cs := #[.string a0, .int .i64 3, .int .i64 a2, .int .i64 a3, .int .i64 a4, .int .i64 a5, .string a6, .slice A7 l7.length c7]) (t := 38) ?hr ?_; (case hd => rfl); (case hg => rfl); (case hr => first | (go_simp; done) | (go_simp; rfl)); intro gg hg w1 hbox hb; have HB := Aside0.mk hb; have BG := Aside0.mk hbox; have GG := Aside0.mk (Nat.le_of_eq hg.symm); clear hb hbox hg; obtain ⟨-, hg1, -, -, -, -, hg6, hg7, -, fg1, -, -, -, -, fg6, fg7⟩ := blk_all8 BG.out) | (go_at_call 64; (with_reducible refine (strings_Contains.calls a6 (⟨#[0]⟩ : ByteArray) false _ HM.out).mono ?_); rintro e w2 ⟨rfl, hd⟩; clear hg1 fg1 hg6 fg6 hg7 fg7; have hb := drawnK hd; have n0_ := Aside0.mk (below_step HB.out hb); have n1_ := Aside0.mk (blk_below BG.out hb); clear HB BG hb hd; have HB := n0_; have BG := n1_; clear n0_ n1_; obtain ⟨-, hg1, -, -, -, -, hg6, hg7, -, fg1, -, -, -, -, fg6, fg7⟩ := blk_all8 BG.out))
  go_ret
  exact ⟨rfl, by repeat (first | exact HB.out | apply below_alloc | apply pw_below_drewN | apply below_drew1 | refine below_set ?_ GG.out)⟩
set_option maxHeartbeats 4000000 in
set_option maxRecDepth 100000 in
theorem isKind_none (a0 : ByteArray) (a2 a3 a4 a5 : Int) (a6 : ByteArray) (A7 : Option Addr) (c7 : Nat) (l7 : List Int) (a1 : Int) (h1 : ¬ a1 = 1) (h4 : ¬ a1 = 4) (h2 : ¬ a1 = 2) (h3 : ¬ a1 = 3) (w : World) :
    Calls Tryz.prog 45 #[.agg #[.string a0, .int .i64 a1, .int .i64 a2, .int .i64 a3, .int .i64 a4, .int .i64 a5, .string a6, .slice A7 l7.length c7]] w fun e w' => e = .returned (.int .i64 11) ∧ Below w.heap.size w w' := by
  have k1 : ((a1 : Int) == 1) = false := beq_eq_false_iff_ne.mpr h1
  have k4 : ((a1 : Int) == 4) = false := beq_eq_false_iff_ne.mpr h4
  have k2 : ((a1 : Int) == 2) = false := beq_eq_false_iff_ne.mpr h2
  have k3 : ((a1 : Int) == 3) = false := beq_eq_false_iff_ne.mpr h3
  clear h1 h4 h2 h3
  go_enter Tryz.func45, Tryz.ntmps45
  go_wp2_with (first | ((with_reducible refine gate_dst (N := 1) rfl ?_); refine box_event ?hg (N := 1) ?hd (cs := #[.string a0, .int .i64 a1, .int .i64 a2, .int .i64 a3, .int .i64 a4, .int .i64 a5, .string a6, .slice A7 l7.length c7]) (t := 38) ?hr ?_; (case hd => rfl); (case hg => rfl); (case hr => first | (go_simp; done) | (go_simp; rfl)); intro gg hg w1 hbox hb; have HB := Aside0.mk hb; have BG := Aside0.mk hbox; have GG := Aside0.mk (Nat.le_of_eq hg.symm); clear hb hbox hg; obtain ⟨-, hg1, -, -, -, -, hg6, hg7, -, fg1, -, -, -, -, fg6, fg7⟩ := blk_all8 BG.out))
  go_ret
  exact ⟨rfl, by repeat (first | exact HB.out | apply below_alloc | apply pw_below_drewN | apply below_drew1 | refine below_set ?_ GG.out)⟩

theorem memb_isKind.calls (a0 : ByteArray) (a1 a2 a3 a4 a5 : Int) (a6 : ByteArray) (A7 : Option Addr) (c7 : Nat) (l7 : List Int) (r : Int) (w : World) (hr7 : Kd.C (Kd.int .u8) w A7 l7.length l7) (hc7 : l7.length ≤ c7) (h : memb_isKind.f a0 a1 a2 a3 a4 a5 a6 l7 = some r) :
    Calls Tryz.prog 45 #[.agg #[.string a0, .int .i64 a1, .int .i64 a2, .int .i64 a3, .int .i64 a4, .int .i64 a5, .string a6, .slice A7 l7.length c7]] w fun e w' => e = .returned (.int .i64 r) ∧ Below w.heap.size w w' := by
  clear hr7 hc7
  unfold memb_isKind.f at h
  by_cases h1 : a1 = 1
  · subst h1
    rw [if_pos rfl] at h
    by_cases hl : (4096 : Int) < (l7.length : Int)
    · rw [if_pos hl] at h; cases h; exact isKind_file_big _ _ _ _ _ _ _ _ _ hl w
    rw [if_neg hl] at h
    by_cases h6 : a6.toList = ([] : List UInt8)
    · rw [if_pos h6] at h; cases h; exact isKind_file_ok _ _ _ _ _ _ _ _ _ hl h6 w
    · rw [if_neg h6] at h; cases h; exact isKind_file_link _ _ _ _ _ _ _ _ _ hl h6 w
  rw [if_neg h1] at h
  by_cases h4 : a1 = 4
  · subst h4
    rw [if_pos rfl] at h
    by_cases h6 : a6.toList = ([] : List UInt8)
    · rw [if_pos h6] at h
      by_cases hl : (0 : Int) < (l7.length : Int)
      · rw [if_pos hl] at h; cases h; exact isKind_dir_data _ _ _ _ _ _ _ _ _ h6 hl w
      · rw [if_neg hl] at h; cases h; exact isKind_dir_ok _ _ _ _ _ _ _ _ _ h6 hl w
    · rw [if_neg h6] at h; cases h; exact isKind_dir_link _ _ _ _ _ _ _ _ _ h6 w
  rw [if_neg h4] at h
  by_cases h2 : a1 = 2
  · subst h2
    rw [if_pos rfl] at h
    obtain ⟨b, hm, h⟩ := Option.bind_eq_some_iff.mp h
    cases b with
    | false => rw [if_neg (by decide)] at h; cases h; exact isKind_hard_path _ _ _ _ _ _ _ _ _ hm w
    | true =>
      rw [if_pos rfl] at h
      by_cases hl : (0 : Int) < (l7.length : Int)
      · rw [if_pos hl] at h; cases h; exact isKind_hard_data _ _ _ _ _ _ _ _ _ hm hl w
      · rw [if_neg hl] at h; cases h; exact isKind_hard_ok _ _ _ _ _ _ _ _ _ hm hl w
  rw [if_neg h2] at h
  by_cases h3 : a1 = 3
  · subst h3
    rw [if_pos rfl] at h
    by_cases h6 : a6.toList = ([] : List UInt8)
    · rw [if_pos h6] at h; cases h; exact isKind_sym_none _ _ _ _ _ _ _ _ _ h6 w
    rw [if_neg h6] at h
    obtain ⟨b, hm, h⟩ := Option.bind_eq_some_iff.mp h
    cases b with
    | true => rw [if_pos rfl] at h; cases h; exact isKind_sym_zero _ _ _ _ _ _ _ _ _ h6 hm w
    | false =>
      rw [if_neg (by decide)] at h
      by_cases hs : (300 : Int) < (a6.size : Int)
      · rw [if_pos hs] at h; cases h; exact isKind_sym_big _ _ _ _ _ _ _ _ _ h6 hm hs w
      rw [if_neg hs] at h
      by_cases hl : (0 : Int) < (l7.length : Int)
      · rw [if_pos hl] at h; cases h; exact isKind_sym_data _ _ _ _ _ _ _ _ _ h6 hm hs hl w
      · rw [if_neg hl] at h; cases h; exact isKind_sym_ok _ _ _ _ _ _ _ _ _ h6 hm hs hl w
  rw [if_neg h3] at h
  cases h
  exact isKind_none _ _ _ _ _ _ _ _ _ _ h1 h4 h2 h3 w
end Go.Proofs.YtjidenkhgeoaiaaGreatDoor.Hand

namespace Go.Proofs.YtjidenkhgeoaiaaGreatDoor.P
open Go.RowKit Go.Proofs.YtjidenkhgeoaiaaGreatDoorW.PrintWords Go.Proofs.YtjidenkhgeoaiaaGreatDoorW.PrintLast Go.Proofs.YtjidenkhgeoaiaaGreatDoorW.PrintMore Go.Proofs.YtjidenkhgeoaiaaGreatDoor.Hand
attribute [local go_sem] max2_int min2_int max_two min_two max_three min_three max_four min_four   -- for this text's walks alone
set_option linter.unusedVariables false
set_option linter.unusedSimpArgs false

/-! ### memb_May: function 24 -/
def memb_May.f (a0_0 : ByteArray) (a0_1 : Int) (a0_2 : Int) (a0_3 : Int) (a0_4 : Int) (a0_5 : Int) (a0_6 : ByteArray) (l0_7 : List Int) : Option (Int) := (ppath_May.f a0_0).bind fun t119 => (if t119 = true then ((memb_Type.f a0_1).bind fun t120 => (if t120 = 0 then (some 11) else ((memb_numbers.f a0_2 a0_3 a0_4 a0_5).bind fun t121 => (if t121 = true then ((memb_isKind.f a0_0 a0_1 a0_2 a0_3 a0_4 a0_5 a0_6 l0_7).bind fun t122 => (some t122)) else (some 10))))) else (some 8))
set_option maxHeartbeats 8000000 in
set_option maxRecDepth 100000 in
theorem memb_May.calls (a0_0 : ByteArray) (a0_1 : Int) (a0_2 : Int) (a0_3 : Int) (a0_4 : Int) (a0_5 : Int) (a0_6 : ByteArray) (A0_7 : Option Addr) (c0_7 : Nat) (l0_7 : List Int) (r : Int) (w : World) (hr0_7 : Kd.C (Kd.int .u8) w A0_7 l0_7.length l0_7) (hc0_7 : l0_7.length ≤ c0_7) (h : memb_May.f a0_0 a0_1 a0_2 a0_3 a0_4 a0_5 a0_6 l0_7 = some r) :
  Calls Tryz.prog 24 #[.agg #[.string a0_0, .int .i64 a0_1, .int .i64 a0_2, .int .i64 a0_3, .int .i64 a0_4, .int .i64 a0_5, .string a0_6, .slice A0_7 l0_7.length c0_7]] w fun e w' => e = .returned (.int .i64 r) ∧ Below w.heap.size w w' := by
 have hu38 := Tryz.underlying38
 have hu36 := Tryz.underlying36
 have HR0_7 := Aside0.mk hr0_7
 have HC0_7 := Aside0.mk hc0_7
 clear hr0_7 hc0_7
 have HB := Aside0.mk (Below.refl w.heap.size w)
 have H : ((ppath_May.f a0_0).bind fun t119 => (if t119 = true then ((memb_Type.f a0_1).bind fun t120 => (if t120 = 0 then (some 11) else ((memb_numbers.f a0_2 a0_3 a0_4 a0_5).bind fun t121 => (if t121 = true then ((memb_isKind.f a0_0 a0_1 a0_2 a0_3 a0_4 a0_5 a0_6 l0_7).bind fun t122 => (some t122)) else (some 10))))) else (some 8))) = some r := h
 clear h
 replace H := Option.bind_eq_some_iff.mp H
 obtain ⟨t119, A20, H⟩ := H
 try dsimp only at H
 have A2 := Aside0.mk A20
 clear A20
 by_cases c3 : t119 = true
 ·subst c3
  have H1 := H; rw [if_pos rfl] at H1
  clear H
  have H := H1
  clear H1
  replace H := Option.bind_eq_some_iff.mp H
  obtain ⟨t120, A40, H⟩ := H
  try dsimp only at H
  have A4 := Aside0.mk A40
  clear A40
  by_cases c5 : t120 = 0
  ·rw [if_pos c5] at H
   have c5b0 : (t120 == 0) = true := beq_iff_eq.mpr c5
   have c5b1 : (t120 != 0) = false := bne_eq_false_iff_eq.mpr c5
   clear c5
   obtain rfl := Option.some.inj H
   go_enter Tryz.func24, Tryz.ntmps24
   go_wp2_with (first | ((with_reducible refine gate_dst (N := 1) rfl ?_); refine boxA_ 1 38 #[.string a0_0, .int .i64 a0_1, .int .i64 a0_2, .int .i64 a0_3, .int .i64 a0_4, .int .i64 a0_5, .string a0_6, .slice A0_7 l0_7.length c0_7] ?_; intro gb118 hg w6 hbox hb; have n0_ := Aside0.mk (bstep_ hb); have n1_ := Aside0.mk (hbox); have n2_ := Aside0.mk ((by rw [hg]; exact bsize_ : w.heap.size ≤ gb118)); have n3_ := Aside0.mk ((by rw [hg]; exact bsize_ : w.heap.size ≤ gb118)); clear HB; have HB := n0_; have BK118 := n1_; have GW118 := n2_; have GE118 := n3_; clear n0_ n1_ n2_ n3_; clear hb hbox hg; obtain ⟨hcz7_0, hcz7_1, hcz7_2, hcz7_3, hcz7_4, hcz7_5, hcz7_6, hcz7_7, hfz7_0, hfz7_1, hfz7_2, hfz7_3, hfz7_4, hfz7_5, hfz7_6, hfz7_7⟩ := blk_all8 BK118.out) | ((with_reducible refine gate_callee (f := 43) rfl ?_); refine goesA_ (some 6) Tryz.func43 #[.string a0_0] ?_; (with_reducible refine (ppath_May.calls a0_0 true _ A2.out).mono ?_); rintro e w8 ⟨rfl, hb⟩; refine ⟨_, rfl, ?_⟩; have n0_ := Aside0.mk (blkB_ BK118.out hb); have n1_ := Aside0.mk (bstep_ hb); clear BK118; clear HB; have BK118 := n0_; have HB := n1_; clear n0_ n1_; (try clear hb); (try clear hb2); (try clear hk); (try clear hi); obtain ⟨hcz9_0, hcz9_1, hcz9_2, hcz9_3, hcz9_4, hcz9_5, hcz9_6, hcz9_7, hfz9_0, hfz9_1, hfz9_2, hfz9_3, hfz9_4, hfz9_5, hfz9_6, hfz9_7⟩ := blk_all8 BK118.out) | ((with_reducible refine gate_callee (f := 6) rfl ?_); refine goesA_ (some 11) Tryz.func6 #[.int .i64 a0_1] ?_; (with_reducible refine (memb_Type.calls a0_1 t120 _ A4.out).mono ?_); rintro e w' ⟨rfl, ⟨nd, rfl⟩⟩; refine ⟨_, rfl, ?_⟩))
   go_ret
   exact finA_
  ·rw [if_neg c5] at H
   have c5b0 : (t120 == 0) = false := beq_eq_false_iff_ne.mpr c5
   have c5b1 : (t120 != 0) = true := bne_iff_ne.mpr c5
   replace H := Option.bind_eq_some_iff.mp H
   obtain ⟨t121, A100, H⟩ := H
   try dsimp only at H
   have A10 := Aside0.mk A100
   clear A100
   by_cases c11 : t121 = true
   ·subst c11
    have H1 := H; rw [if_pos rfl] at H1
    clear H
    have H := H1
    clear H1
    replace H := Option.bind_eq_some_iff.mp H
    obtain ⟨t122, A120, H⟩ := H
    try dsimp only at H
    have A12 := Aside0.mk A120
    clear A120
    obtain rfl := Option.some.inj H
    go_enter Tryz.func24, Tryz.ntmps24
    go_wp2_with (first | ((with_reducible refine gate_dst (N := 1) rfl ?_); refine boxA_ 1 38 #[.string a0_0, .int .i64 a0_1, .int .i64 a0_2, .int .i64 a0_3, .int .i64 a0_4, .int .i64 a0_5, .string a0_6, .slice A0_7 l0_7.length c0_7] ?_; intro gb118 hg w13 hbox hb; have n0_ := Aside0.mk (bstep_ hb); have n1_ := Aside0.mk (hbox); have n2_ := Aside0.mk ((by rw [hg]; exact bsize_ : w.heap.size ≤ gb118)); have n3_ := Aside0.mk ((by rw [hg]; exact bsize_ : w.heap.size ≤ gb118)); clear HB; have HB := n0_; have BK118 := n1_; have GW118 := n2_; have GE118 := n3_; clear n0_ n1_ n2_ n3_; clear hb hbox hg; obtain ⟨hcz14_0, hcz14_1, hcz14_2, hcz14_3, hcz14_4, hcz14_5, hcz14_6, hcz14_7, hfz14_0, hfz14_1, hfz14_2, hfz14_3, hfz14_4, hfz14_5, hfz14_6, hfz14_7⟩ := blk_all8 BK118.out) | ((with_reducible refine gate_callee (f := 43) rfl ?_); refine goesA_ (some 6) Tryz.func43 #[.string a0_0] ?_; (with_reducible refine (ppath_May.calls a0_0 true _ A2.out).mono ?_); rintro e w15 ⟨rfl, hb⟩; refine ⟨_, rfl, ?_⟩; have n0_ := Aside0.mk (blkB_ BK118.out hb); have n1_ := Aside0.mk (bstep_ hb); clear BK118; clear HB; have BK118 := n0_; have HB := n1_; clear n0_ n1_; (try clear hb); (try clear hb2); (try clear hk); (try clear hi); obtain ⟨hcz16_0, hcz16_1, hcz16_2, hcz16_3, hcz16_4, hcz16_5, hcz16_6, hcz16_7, hfz16_0, hfz16_1, hfz16_2, hfz16_3, hfz16_4, hfz16_5, hfz16_6, hfz16_7⟩ := blk_all8 BK118.out) | ((with_reducible refine gate_callee (f := 6) rfl ?_); refine goesA_ (some 11) Tryz.func6 #[.int .i64 a0_1] ?_; (with_reducible refine (memb_Type.calls a0_1 t120 _ A4.out).mono ?_); rintro e w' ⟨rfl, ⟨nd, rfl⟩⟩; refine ⟨_, rfl, ?_⟩) | ((with_reducible refine gate_callee (f := 44) rfl ?_); refine goesA_ (some 16) Tryz.func44 #[.agg #[.int .i64 a0_2, .int .i64 a0_3, .int .i64 a0_4, .int .i64 a0_5]] ?_; (with_reducible refine (memb_numbers.calls a0_2 a0_3 a0_4 a0_5 true _ A10.out).mono ?_); rintro e w17 ⟨rfl, hb⟩; refine ⟨_, rfl, ?_⟩; have n0_ := Aside0.mk (blkB_ BK118.out hb); have n1_ := Aside0.mk (bstep_ hb); clear BK118; clear HB; have BK118 := n0_; have HB := n1_; clear n0_ n1_; (try clear hb); (try clear hb2); (try clear hk); (try clear hi); obtain ⟨hcz18_0, hcz18_1, hcz18_2, hcz18_3, hcz18_4, hcz18_5, hcz18_6, hcz18_7, hfz18_0, hfz18_1, hfz18_2, hfz18_3, hfz18_4, hfz18_5, hfz18_6, hfz18_7⟩ := blk_all8 BK118.out) | ((with_reducible refine gate_callee (f := 45) rfl ?_); refine goesA_ (some 19) Tryz.func45 #[.agg #[.string a0_0, .int .i64 a0_1, .int .i64 a0_2, .int .i64 a0_3, .int .i64 a0_4, .int .i64 a0_5, .string a0_6, .slice A0_7 l0_7.length c0_7]] ?_; (with_reducible refine (memb_isKind.calls a0_0 a0_1 a0_2 a0_3 a0_4 a0_5 a0_6 _ _ l0_7 t122 _ ?side1 ?side2 A12.out).mono ?_); (case side1 => repeat (first | exact (Kd.C_below HR0_7.out HB.out) | (with_reducible refine Kd.C_alloc ?_ _) | (with_reducible refine Kd.C_drewN ?_ _) | (with_reducible refine Kd.C_drew ?_))); (case side2 => exact HC0_7.out); rintro e w19 ⟨rfl, hb⟩; refine ⟨_, rfl, ?_⟩; have n0_ := Aside0.mk (blkB_ BK118.out hb); have n1_ := Aside0.mk (bstep_ hb); clear BK118; clear HB; have BK118 := n0_; have HB := n1_; clear n0_ n1_; (try clear hb); (try clear hb2); (try clear hk); (try clear hi)))
    go_ret
    exact finA_
   ·replace c11 := Bool.eq_false_iff.mpr c11
    subst c11
    have H1 := H; rw [if_neg (show ¬ (false = true) by decide)] at H1
    clear H
    have H := H1
    clear H1
    obtain rfl := Option.some.inj H
    go_enter Tryz.func24, Tryz.ntmps24
    go_wp2_with (first | ((with_reducible refine gate_dst (N := 1) rfl ?_); refine boxA_ 1 38 #[.string a0_0, .int .i64 a0_1, .int .i64 a0_2, .int .i64 a0_3, .int .i64 a0_4, .int .i64 a0_5, .string a0_6, .slice A0_7 l0_7.length c0_7] ?_; intro gb118 hg w20 hbox hb; have n0_ := Aside0.mk (bstep_ hb); have n1_ := Aside0.mk (hbox); have n2_ := Aside0.mk ((by rw [hg]; exact bsize_ : w.heap.size ≤ gb118)); have n3_ := Aside0.mk ((by rw [hg]; exact bsize_ : w.heap.size ≤ gb118)); clear HB; have HB := n0_; have BK118 := n1_; have GW118 := n2_; have GE118 := n3_; clear n0_ n1_ n2_ n3_; clear hb hbox hg; obtain ⟨hcz21_0, hcz21_1, hcz21_2, hcz21_3, hcz21_4, hcz21_5, hcz21_6, hcz21_7, hfz21_0, hfz21_1, hfz21_2, hfz21_3, hfz21_4, hfz21_5, hfz21_6, hfz21_7⟩ := blk_all8 BK118.out) | ((with_reducible refine gate_callee (f := 43) rfl ?_); refine goesA_ (some 6) Tryz.func43 #[.string a0_0] ?_; (with_reducible refine (ppath_May.calls a0_0 true _ A2.out).mono ?_); rintro e w22 ⟨rfl, hb⟩; refine ⟨_, rfl, ?_⟩; have n0_ := Aside0.mk (blkB_ BK118.out hb); have n1_ := Aside0.mk (bstep_ hb); clear BK118; clear HB; have BK118 := n0_; have HB := n1_; clear n0_ n1_; (try clear hb); (try clear hb2); (try clear hk); (try clear hi); obtain ⟨hcz23_0, hcz23_1, hcz23_2, hcz23_3, hcz23_4, hcz23_5, hcz23_6, hcz23_7, hfz23_0, hfz23_1, hfz23_2, hfz23_3, hfz23_4, hfz23_5, hfz23_6, hfz23_7⟩ := blk_all8 BK118.out) | ((with_reducible refine gate_callee (f := 6) rfl ?_); refine goesA_ (some 11) Tryz.func6 #[.int .i64 a0_1] ?_; (with_reducible refine (memb_Type.calls a0_1 t120 _ A4.out).mono ?_); rintro e w' ⟨rfl, ⟨nd, rfl⟩⟩; refine ⟨_, rfl, ?_⟩) | ((with_reducible refine gate_callee (f := 44) rfl ?_); refine goesA_ (some 16) Tryz.func44 #[.agg #[.int .i64 a0_2, .int .i64 a0_3, .int .i64 a0_4, .int .i64 a0_5]] ?_; (with_reducible refine (memb_numbers.calls a0_2 a0_3 a0_4 a0_5 false _ A10.out).mono ?_); rintro e w24 ⟨rfl, hb⟩; refine ⟨_, rfl, ?_⟩; have n0_ := Aside0.mk (blkB_ BK118.out hb); have n1_ := Aside0.mk (bstep_ hb); clear BK118; clear HB; have BK118 := n0_; have HB := n1_; clear n0_ n1_; (try clear hb); (try clear hb2); (try clear hk); (try clear hi)))
    go_ret
    exact finA_
 ·replace c3 := Bool.eq_false_iff.mpr c3
  subst c3
  have H1 := H; rw [if_neg (show ¬ (false = true) by decide)] at H1
  clear H
  have H := H1
  clear H1
  obtain rfl := Option.some.inj H
  go_enter Tryz.func24, Tryz.ntmps24
  go_wp2_with (first | ((with_reducible refine gate_dst (N := 1) rfl ?_); refine boxA_ 1 38 #[.string a0_0, .int .i64 a0_1, .int .i64 a0_2, .int .i64 a0_3, .int .i64 a0_4, .int .i64 a0_5, .string a0_6, .slice A0_7 l0_7.length c0_7] ?_; intro gb118 hg w25 hbox hb; have n0_ := Aside0.mk (bstep_ hb); have n1_ := Aside0.mk (hbox); have n2_ := Aside0.mk ((by rw [hg]; exact bsize_ : w.heap.size ≤ gb118)); have n3_ := Aside0.mk ((by rw [hg]; exact bsize_ : w.heap.size ≤ gb118)); clear HB; have HB := n0_; have BK118 := n1_; have GW118 := n2_; have GE118 := n3_; clear n0_ n1_ n2_ n3_; clear hb hbox hg; obtain ⟨hcz26_0, hcz26_1, hcz26_2, hcz26_3, hcz26_4, hcz26_5, hcz26_6, hcz26_7, hfz26_0, hfz26_1, hfz26_2, hfz26_3, hfz26_4, hfz26_5, hfz26_6, hfz26_7⟩ := blk_all8 BK118.out) | ((with_reducible refine gate_callee (f := 43) rfl ?_); refine goesA_ (some 6) Tryz.func43 #[.string a0_0] ?_; (with_reducible refine (ppath_May.calls a0_0 false _ A2.out).mono ?_); rintro e w27 ⟨rfl, hb⟩; refine ⟨_, rfl, ?_⟩; have n0_ := Aside0.mk (blkB_ BK118.out hb); have n1_ := Aside0.mk (bstep_ hb); clear BK118; clear HB; have BK118 := n0_; have HB := n1_; clear n0_ n1_; (try clear hb); (try clear hb2); (try clear hk); (try clear hi)))
  go_ret
  exact finA_

end Go.Proofs.YtjidenkhgeoaiaaGreatDoor.P

/- Contracts, by hand, of strings.LastIndex at one byte, strings.CutPrefix, strings.IndexByte, in the printer's form. -/
namespace Go.Proofs.YtjidenkhgeoaiaaGreatDoor.Hand
open Go.RowKit Go.Proofs.YtjidenkhgeoaiaaGreatDoorW.PrintWords Go.Proofs.YtjidenkhgeoaiaaGreatDoorW.PrintLast Go.Proofs.YtjidenkhgeoaiaaGreatDoorW.PrintMore
set_option linter.unusedVariables false
set_option linter.unusedSimpArgs false

def strings_IndexByte.f (s : ByteArray) (c : Int) : Option Int := some (Lib.indexByte s.data.toList c.toNat.toUInt8)
theorem strings_IndexByte.calls (a0 : ByteArray) (a1 : Int) (r : Int) (w : World) (h : strings_IndexByte.f a0 a1 = some r) :
    Calls Tryz.prog 19 #[.string a0, .int .u8 a1] w fun e w' => e = .returned (.int .i64 r) ∧ Below w.heap.size w w' := by
  simp only [strings_IndexByte.f, Option.some.injEq] at h
  subst h
  exact (Tryz.strings_IndexByte a0 a1 w).mono fun e w' h => ⟨h.1, by rw [h.2]; exact Below.refl _ _⟩
end Go.Proofs.YtjidenkhgeoaiaaGreatDoor.Hand

namespace Go.Proofs.YtjidenkhgeoaiaaGreatDoor.P
open Go.RowKit Go.Proofs.YtjidenkhgeoaiaaGreatDoorW.PrintWords Go.Proofs.YtjidenkhgeoaiaaGreatDoorW.PrintLast Go.Proofs.YtjidenkhgeoaiaaGreatDoorW.PrintMore Go.Proofs.YtjidenkhgeoaiaaGreatDoor.Hand
attribute [local go_sem] max2_int min2_int max_two min_two max_three min_three max_four min_four   -- for this text's walks alone
set_option linter.unusedVariables false
set_option linter.unusedSimpArgs false

/-! ### memb_Kind: function 7 -/
def memb_Kind.f (a0 : Int) : Option (Int) := (strings_IndexByte.f (⟨#[48, 49, 50, 53]⟩ : ByteArray) a0).bind fun t101 => (some (wrap64 (t101 + 1)))
set_option maxHeartbeats 8000000 in
set_option maxRecDepth 100000 in
theorem memb_Kind.calls (a0 : Int) (r : Int) (w : World) (h : memb_Kind.f a0 = some r) :
  Calls Tryz.prog 7 #[.int .u8 a0] w fun e w' => e = .returned (.int .i64 r) ∧ Below w.heap.size w w' := by
 have HB := Aside0.mk (Below.refl w.heap.size w)
 have H : ((strings_IndexByte.f (⟨#[48, 49, 50, 53]⟩ : ByteArray) a0).bind fun t101 => (some (wrap64 (t101 + 1)))) = some r := h
 clear h
 replace H := Option.bind_eq_some_iff.mp H
 obtain ⟨t101, A20, H⟩ := H
 try dsimp only at H
 have A2 := Aside0.mk A20
 clear A20
 obtain rfl := Option.some.inj H
 go_enter Tryz.func7, Tryz.ntmps7
 go_wp2_with (first | ((with_reducible refine gate_callee (f := 19) rfl ?_); refine goesA_ (some 4) Tryz.func19 #[.string (⟨#[48, 49, 50, 53]⟩ : ByteArray), .int .u8 a0] ?_; (with_reducible refine (strings_IndexByte.calls (⟨#[48, 49, 50, 53]⟩ : ByteArray) a0 t101 _ A2.out).mono ?_); rintro e w3 ⟨rfl, hb⟩; refine ⟨_, rfl, ?_⟩; have n0_ := Aside0.mk (bstep_ hb); clear HB; have HB := n0_; clear n0_; (try clear hb); (try clear hb2); (try clear hk); (try clear hi)))
 go_ret
 exact finA_

end Go.Proofs.YtjidenkhgeoaiaaGreatDoor.P

/- Contract of bytes.Clone, out of the shelf's: a nil slice stays one; the rest is a new row. -/
namespace Go.Proofs.YtjidenkhgeoaiaaGreatDoor.Hand
open Go.RowKit Go.Proofs.YtjidenkhgeoaiaaGreatDoorW Go.Proofs.YtjidenkhgeoaiaaGreatDoorW.PrintWords Go.Proofs.YtjidenkhgeoaiaaGreatDoorW.PrintLast Go.Proofs.YtjidenkhgeoaiaaGreatDoorW.PrintMore
set_option linter.unusedVariables false
set_option linter.unusedSimpArgs false
def bytes_Clone.f (l0 : List Int) : Option (List Int) := if l0.length ≤ 140737488355328 then some l0 else none
theorem bytes_Clone.calls (A0 : Option Addr) (c0 : Nat) (l0 r : List Int) (w : World) (hr0 : Kd.C (Kd.int .u8) w A0 l0.length l0) (hc0 : l0.length ≤ c0) (h : bytes_Clone.f l0 = some r) :
    Calls Tryz.prog 23 #[.slice A0 l0.length c0] w fun e w' => ∃ v0_ : Value, e = .returned v0_ ∧ Kd.R (Kd.int .u8) 5 w' w.heap.size (fun _ => True) v0_ r ∧ Below w.heap.size w w' := by
  unfold bytes_Clone.f at h
  split at h
  rotate_left
  · cases h
  rename_i hl
  cases h
  obtain ⟨_, hle, hcl⟩ := Kd.reads_of_C (enc := Value.int .u8) (d := 0) (h1 := fun _ => rfl) hr0
  cases A0 with
  | none =>
    have h0 : l0 = [] := by
      cases l0 with
      | nil => rfl
      | cons x l => obtain ⟨ad, e, _⟩ := hcl (by simp); cases e
    refine (Tryz.bytes_Clone_nil l0.length c0 w).mono ?_
    rintro e w' ⟨rfl, rfl⟩
    subst h0
    exact ⟨_, rfl, Kd.R_of_own (enc := Value.int .u8) (h1 := fun _ => rfl) (own_nil _ _ _ _) (fun _ _ => trivial), Below.refl _ _⟩
  | some a =>
    refine (Tryz.bytes_Clone_at a l0.length c0 l0 w rfl hl ?_).mono ?_
    · intro i hi
      obtain ⟨ad, e, hcl⟩ := hcl (by omega)
      cases e
      exact hcl i hi
    · rintro e w' ⟨v', rfl, hown, _, hb⟩
      exact ⟨_, rfl, Kd.R_of_own (enc := Value.int .u8) (h1 := fun _ => rfl) hown (fun _ _ => trivial), hb⟩
end Go.Proofs.YtjidenkhgeoaiaaGreatDoor.Hand

/- recs.Find ('for _, r := range slices.Backward(l)'): the iterator's contract, a law for the caller's statement, and the function's contract. -/
namespace Go.Proofs.YtjidenkhgeoaiaaGreatDoor.Hand
open Go.RowKit Go.Shelf Go.Proofs.YtjidenkhgeoaiaaGreatDoorW Go.Proofs.YtjidenkhgeoaiaaGreatDoor.P Go.Proofs.YtjidenkhgeoaiaaGreatDoorW.PrintWords Go.Proofs.YtjidenkhgeoaiaaGreatDoorW.PrintLast
attribute [local go_sem] Oper.semAt_some
set_option linter.unusedVariables false
set_option linter.unusedSimpArgs false

abbrev S := S35
abbrev kS : Kd S := k35
abbrev rdS (xs : List S) (i : Int) : S := rd_T35 xs i
def backM : Value → Nat
  | .int _ i => (i + 1).toNat
  | _ => 0
set_option maxHeartbeats 4000000 in
set_option maxRecDepth 1000000 in
theorem back_body (F : Fence) (n : Nat) (hF : F.fn 61) (hro : F.round = none) (hn : 1 ≤ n) (hd : F.depth = none)
    (l b1 : Nat) (A : Option Addr) (c : Nat) (xs : List S) (hlen : xs.length ≤ 4611686018427387904) (I : Nat → World → Prop) (Ix : World → Prop)
    (hI : ∀ m W, I m W → W.cell? ⟨b1, 0, none⟩ = some (.slice A xs.length c) ∧ Kd.C kS W A xs.length xs)
    (hY : ∀ m W, m < xs.length → I (m + 1) W → YieldAt F (n - 1) Tryz.prog l #[.int .i64 m, .agg #[.string (rdS xs m).f0, .string (rdS xs m).f1]] W fun e W' => (e = .returned (.bool true) ∧ I m W') ∨ (e = .returned (.bool false) ∧ Ix W'))
    (W : World) (h0 : I xs.length W) :
    CallsIn F n Tryz.prog 61 #[.func (.yield l) #[] #[], .pointer (some ⟨b1, 0, none⟩)] W fun e W' => (∃ v, e = .returned v) ∧ (I 0 W' ∨ Ix W') := by
  have hu := Tryz.underlying35
  refine callsIn_of_wp Tryz.func61 rfl hF ?_ hro
  simp only [Tryz.ntmps61, List.size_toArray, List.length_cons, List.length_nil, Nat.reduceAdd, Nat.reduceSub, Array.replicate_succ, Array.replicate_zero, List.push_toArray, List.append_toArray, List.nil_append, List.cons_append]
  obtain ⟨hc1, hr1⟩ := hI _ _ h0
  have hr1' := Aside0.mk hr1
  clear hr1
  have hw0 : IntKind.i64.wrap ((xs.length : Int) - 1) = (xs.length : Int) - 1 := IntWalk.i64_in _ (by omega)
  gi_wp2
  gi_loopw [3] (fun v wr => ∃ m : Nat, v = .int .i64 ((m : Int) - 1) ∧ Aside0 (m ≤ xs.length) ∧ Aside0 (I m wr)) (fun v wr => backM v)
  case atStart => exact ⟨xs.length, rfl, ⟨Nat.le_refl _⟩, ⟨h0⟩⟩
  case round =>
    obtain ⟨m, rfl, hm, hi⟩ := hrel
    clear hc1 hr1' h0
    obtain ⟨hc1, hr1⟩ := hI _ _ hi.out
    have hr1' := Aside0.mk hr1
    clear hr1
    cases m with
    | zero =>
      have d1 : decide ((0 : Int) ≤ ((0 : Nat) : Int) - 1) = false := by decide
      gi_wp2
      go_end0
      exact ⟨⟨_, rfl⟩, .inl hi.out⟩
    | succ m =>
      have hml := hm.out
      have e1 : (((m + 1 : Nat) : Int) - 1) = (m : Int) := by omega
      simp only [e1] at *
      have d1 : decide ((0 : Int) ≤ (m : Int)) = true := decide_eq_true (by omega)
      have p1 : (0 : Int) ≤ (m : Int) := by omega
      have q1 : (m : Int) < (xs.length : Int) := by omega
      have q2 : m < xs.length := by omega
      obtain ⟨ad, ead, hx0, hx1⟩ := at_T35 hr1'.out m p1 (by omega)
      subst ead
      rw [Int.toNat_natCast] at hx0 hx1
      obtain ⟨fn, tmps, assign, body, hy, hR⟩ := hY m wr q2 hi.out
      have hw1 : IntKind.i64.wrap ((m : Int) - 1) = (m : Int) - 1 := IntWalk.i64_in _ (by omega)
      gi_wp2
      refine hR.mono ?_
      rintro e W3 (⟨rfl, hJ3⟩ | ⟨rfl, hJx3⟩)
      · clear hc1 hr1'
        gi_wp2
        go_roundw
        case rel => exact ⟨m, rfl, ⟨by omega⟩, ⟨hJ3⟩⟩
        case measure => simp only [backM]; omega
      · gi_wp2
        refine bodyPost_ret (results_none rfl _ _ _) rfl ?_
        exact ⟨⟨_, rfl⟩, .inr hJx3⟩

def KeepB2 (B : Nat) (W W' : World) : Prop := W'.heap[B]? = W.heap[B]? ∧ W'.heap[B + 1]? = W.heap[B + 1]?
def roundWay2 (B : Nat) (U : World → Prop) (Ux : Code → World → Prop) (W : World) : Exit → Act → World → Prop
  | .normal, _, W' => KeepB2 B W W' ∧ U W'
  | .ret, _, W' => KeepB2 B W W' ∧ Ux .ret W'
  | .exit id, _, W' => KeepB2 B W W' ∧ Ux (.exit id) W'
  | .goto t, _, W' => KeepB2 B W W' ∧ Ux (.goto t) W'
  | .panic _, _, _ => False
  | .outgrown, _, _ => False
def Rec1 (g : Nat) (x : S) (W : World) : Prop := W.heap[g]? = some (.cells #[.string x.f0, .string x.f1] 35 (0, 0))

set_option maxHeartbeats 4000000 in
/-- The statement 'for _, r := range slices.Backward(l) { body }', by what each round does. -/
theorem range_back {g : Operand} {p1 p2 : Tmp} {assign body : Code} {Q : Exit → Act → World → Prop} {a : Act} {w : World} (n b1 : Nat) (hn : 2 ≤ n) (A : Option Addr) (c : Nat) (xs : List S) (hlen : xs.length ≤ 4611686018427387904)
    (hg : a.eval g = .func (.func 61) #[] #[.pointer (some ⟨b1, 0, none⟩)])
    (U : Nat → World → Prop) (Ux : Code → World → Prop)
    (hUr : ∀ m W, U m W → W.cell? ⟨b1, 0, none⟩ = some (.slice A xs.length c) ∧ Kd.C kS W A xs.length xs)
    (hUb : ∀ m W W', Below W.heap.size W W' → U m W → U m W')
    (hUp : ∀ m W k o, w.heap.size ≤ k → k ≤ w.heap.size + 1 → U m W → U m (W.putObj k o)) (hXp : ∀ c W k o, w.heap.size ≤ k → k ≤ w.heap.size + 1 → Ux c W → Ux c (W.putObj k o)) (h0 : U xs.length w) (a₁ : Nat → Int → S → Act)
    (hassign : ∀ (l : Nat) (i : Int) (x : S) (W : World) (K : Act → World → Prop), (∀ W', Below W.heap.size W W' → Rec1 W.heap.size x W' → K (a₁ W.heap.size i x) W') → assign.wpIn (Fence.wide.inRound l) (n - 1 - 1) Tryz.prog (Exit.then K (fun _ _ _ => False)) { tmps := (#[p1, p2].zip #[Value.int .i64 i, Value.agg #[.string x.f0, .string x.f1]]).foldl (fun t (p, v) => t.setIfInBounds p v) a.tmps, defers := [] } W)
    (hbody : ∀ (l m g : Nat) (W : World), m < xs.length → U (m + 1) W → w.heap.size + 1 < g → Rec1 g (rdS xs m) W → body.wpIn (Fence.wide.inRound l) (n - 1 - 1) Tryz.prog (roundWay2 w.heap.size (U m) Ux W) (a₁ g m (rdS xs m)) W)
    (hdone : ∀ (W : World), U 0 W → W.heap[w.heap.size]? = some (.deferred (some [])) → Q .normal { a with defers := { target := .collected w.heap.size, args := #[] } :: a.defers } W)
    (hstop : ∀ (c : Code) (W : World), Ux c W → W.heap[w.heap.size]? = some (.deferred (some [])) → c.wpIn Fence.wide n Tryz.prog Q { a with defers := { target := .collected w.heap.size, args := #[] } :: a.defers } W) :
    (Code.rangeFunc g #[p1, p2] assign body).wpIn Fence.wide n Tryz.prog Q a w := by
  refine wpIn_rangeFunc ?_
  intro fn hfn
  let rec_ : LoopState → Option Code → Loop := fun st pe => { state := st, pending := pe, fn, tmps := a.tmps, params := #[p1, p2], assign, body, defers := w.heap.size }
  have hsz1 : (w.alloc (.deferred (some []))).heap.size = w.heap.size + 1 := by simp
  let W1 := (w.alloc (.deferred (some []))).alloc (.loop (rec_ .ready none))
  have hL1 : W1.heap[w.heap.size + 1]? = some (.loop (rec_ .ready none)) := by
    have := World.alloc_heap_new (w.alloc (.deferred (some []))) (.loop (rec_ .ready none)); rwa [hsz1] at this
  have hK1 : W1.heap[w.heap.size]? = some (.deferred (some [])) := (Below.heap_alloc _ _ _ (by simp)).trans (World.alloc_heap_new w _)
  have hb1 : Below w.heap.size w W1 := ((Below.refl w.heap.size w).alloc (Nat.le_refl _) _).alloc (by simp) _
  refine ⟨w.heap.size + 1, [{ target := .collected w.heap.size, args := #[] }], W1, { target := .fn (.func 61) #[.pointer (some ⟨b1, 0, none⟩)], args := #[.func (.yield (w.heap.size + 1)) #[] #[]] }, W1, 61, #[.func (.yield (w.heap.size + 1)) #[] #[], .pointer (some ⟨b1, 0, none⟩)], W1, run_enterLoop_outer _ _ _ _ _, ?_, ?_, ?_, fun _ => by omega, ?_⟩
  · simp only [resolve, hg]
    simp [go_sem]
  · intro f' _; trivial
  · simp only [invoke]
    exact enters_of Tryz.func61 (by kernel_rfl) rfl _ _
  · have hput : ∀ (W : World) (o : Obj), W.heap[w.heap.size]? = some (.deferred (some [])) → (W.putObj (w.heap.size + 1) o).heap[w.heap.size]? = some (.deferred (some [])) := fun W o h => (World.putObj_heap_other (by omega)).trans h
    refine (back_body Fence.wide (n - 1) trivial rfl (by omega) rfl (w.heap.size + 1) b1 A c xs hlen
      (fun m W => U m W ∧ W.heap[w.heap.size + 1]? = some (.loop (rec_ .ready none)) ∧ W.heap[w.heap.size]? = some (.deferred (some [])))
      (fun W => ∃ c, Ux c W ∧ W.heap[w.heap.size + 1]? = some (.loop (rec_ .done (some c))) ∧ W.heap[w.heap.size]? = some (.deferred (some [])))
      (fun m W h => hUr m W h.1) ?_ W1 ⟨hUb _ _ _ hb1 h0, hL1, hK1⟩).mono ?_
    · rintro m W hm ⟨hu, hl, hk⟩
      have hlt : w.heap.size + 1 < W.heap.size := (Array.getElem?_eq_some_iff.1 hl).1
      refine ⟨fn, _, assign, body, run_yield (P := Tryz.prog) (args := #[.int .i64 m, .agg #[.string (rdS xs m).f0, .string (rdS xs m).f1]]) hl rfl, roundIn_of_wpIn hfn ?_⟩
      refine hassign _ m (rdS xs m) W _ ?_
      intro Wa hba hga
      have hla : Wa.heap[w.heap.size + 1]? = some (.loop (rec_ .ready none)) := (hba.block _ hlt).trans hl
      have hka : Wa.heap[w.heap.size]? = some (.deferred (some [])) := (hba.block _ (by omega)).trans hk
      have hlta : w.heap.size + 1 < Wa.heap.size := (Array.getElem?_eq_some_iff.1 hla).1
      have hl2' : (Wa.putObj (w.heap.size + 1) (.loop (rec_ .busy none))).heap[w.heap.size + 1]? = some (.loop (rec_ .busy none)) := World.putObj_heap_same hlta
      refine ⟨_, run_beginRound hla rfl, ?_⟩
      refine wpIn_mono (hbody _ m W.heap.size _ hm (hUp _ _ _ _ (by omega) (by omega) (hUb _ _ _ hba hu)) (by omega) ((World.putObj_heap_other (by omega)).trans hga)) ?_
      have fin : ∀ (jump : Option Code) (W3 : World), KeepB2 w.heap.size (Wa.putObj (w.heap.size + 1) (.loop (rec_ .busy none))) W3 →
          (Instr.endRound (w.heap.size + 1) jump).run Tryz.prog W3 = .ok (.bool jump.isNone) (W3.putObj (w.heap.size + 1) (.loop (rec_ (if jump.isNone then .ready else .done) jump))) ∧
          (W3.putObj (w.heap.size + 1) (.loop (rec_ (if jump.isNone then .ready else .done) jump))).heap[w.heap.size + 1]? = some (.loop (rec_ (if jump.isNone then .ready else .done) jump)) ∧
          (W3.putObj (w.heap.size + 1) (.loop (rec_ (if jump.isNone then .ready else .done) jump))).heap[w.heap.size]? = some (.deferred (some [])) := by
        rintro jump W3 ⟨k1, k2⟩
        have hl3 := k2.trans hl2'
        exact ⟨run_endRound jump hl3, World.putObj_heap_same (Array.getElem?_eq_some_iff.1 hl3).1, hput _ _ (k1.trans (hput _ _ hka))⟩
      rintro e a3 W3 hp
      cases e with
      | normal =>
        obtain ⟨hk3, hu3⟩ := hp
        obtain ⟨hr, hl4, hk4⟩ := fin none W3 hk3
        exact ⟨_, _, hr, .inl ⟨rfl, hUp _ _ _ _ (by omega) (by omega) hu3, hl4, hk4⟩⟩
      | ret =>
        obtain ⟨hk3, hu3⟩ := hp
        obtain ⟨hr, hl4, hk4⟩ := fin (some .ret) W3 hk3
        exact ⟨_, _, hr, .inr ⟨rfl, .ret, hXp _ _ _ _ (by omega) (by omega) hu3, hl4, hk4⟩⟩
      | exit id =>
        obtain ⟨hk3, hu3⟩ := hp
        obtain ⟨hr, hl4, hk4⟩ := fin (some (.exit id)) W3 hk3
        exact ⟨_, _, hr, .inr ⟨rfl, .exit id, hXp _ _ _ _ (by omega) (by omega) hu3, hl4, hk4⟩⟩
      | goto t =>
        obtain ⟨hk3, hu3⟩ := hp
        obtain ⟨hr, hl4, hk4⟩ := fin (some (.goto t)) W3 hk3
        exact ⟨_, _, hr, .inr ⟨rfl, .goto t, hXp _ _ _ _ (by omega) (by omega) hu3, hl4, hk4⟩⟩
      | panic ch => exact hp.elim
      | outgrown => exact hp.elim
    · rintro e W2 ⟨⟨v, rfl⟩, (⟨hu, hl, hk⟩ | ⟨c, hu, hl, hk⟩)⟩
      · exact ⟨none, _, run_endLoop hl (show LoopState.ready ≠ LoopState.busy by decide), hdone _ (hUp _ _ _ _ (by omega) (by omega) hu) (hput _ _ hk)⟩
      · exact ⟨some c, _, run_endLoop hl (show LoopState.done ≠ LoopState.busy by decide), hstop c _ (hXp _ _ _ _ (by omega) (by omega) hu) (hput _ _ hk)⟩

/-- The last record of that key among the first m. -/
def lastOf (xs : List S) (key : ByteArray) : Nat → ByteArray × Bool
  | 0 => (⟨#[]⟩, false)
  | m + 1 => if (rdS xs m).f0.toList = key.toList then ((rdS xs m).f1, true) else lastOf xs key m
def recs_Find.f (l0 : List S) (a1 : ByteArray) : Option (ByteArray × Bool) :=
  if l0.length ≤ 4611686018427387904 then some (lastOf l0 a1 l0.length) else none

theorem bx_keep {W W' : World} {B k : Nat} {t : TypeId} {v : Value} (h : Boxed W B t v) (hg : W.grownBy W' (some k)) (hk : B ≠ k) : Boxed W' B t v := h.kept hg (fun e => hk (Option.some.inj e))
def HeldF (B : Nat) (w : World) (A : Option Addr) (c : Nat) (xs : List S) (key : ByteArray) (r : ByteArray × Bool) (m : Nat) (W : World) : Prop :=
  Boxed W B 9 (.string key) ∧ Boxed W (B + 1) 9 (.string ⟨#[]⟩) ∧ Boxed W (B + 2) 4 (.bool false) ∧ Boxed W (B + 3) 32 (.slice A xs.length c) ∧ Below B w W ∧ lastOf xs key m = r
def LeftF (B : Nat) (w : World) (r : ByteArray × Bool) (c : Code) (W : World) : Prop :=
  c = .ret ∧ Boxed W (B + 1) 9 (.string r.1) ∧ Boxed W (B + 2) 4 (.bool r.2) ∧ Below B w W
theorem find_results (tmps : Array Value) (W : World) (B : Nat) (s : ByteArray) (b : Bool) (h4 : tmps[4]?.getD undef = .pointer (some ⟨B + 1, 0, none⟩)) (h5 : tmps[5]?.getD undef = .pointer (some ⟨B + 2, 0, none⟩)) (hS : W.cell? ⟨B + 1, 0, none⟩ = some (.string s)) (hb : W.cell? ⟨B + 2, 0, none⟩ = some (.bool b)) :
    (results Tryz.f22 tmps).run Tryz.prog W = .ok (.tuple #[.string s, .bool b]) W := by
  have hr : Tryz.f22.results = #[.cell 4 9, .cell 5 4] := rfl
  simp only [results, hr]
  simp [Sem.run_bind, Result.andThen, h4, h5]
  go_simp
  try simp [hS, hb]

theorem back_made (A : Option Addr) (n c : Nat) (w : World) :
    CallsIn Fence.wide 2 Tryz.prog 42 #[.slice A n c] w fun e w' => e = .returned (.func (.func 61) #[] #[.pointer (some ⟨w.heap.size, 0, none⟩)]) ∧ w' = w.alloc (.cells #[.slice A n c] 32) := by
  refine callsIn_wide.2 ?_
  go_enter Tryz.func42, Tryz.ntmps42
  go_wp2
  go_ret
  exact ⟨rfl, rfl⟩
theorem HeldF.keep {B k m : Nat} {w W W' : World} {A : Option Addr} {c : Nat} {xs : List S} {key : ByteArray} {r : ByteArray × Bool} (h : HeldF B w A c xs key r m W) (hg : W.grownBy W' (some k)) (h1 : B + 3 < k) : HeldF B w A c xs key r m W' := by
  obtain ⟨hK, hS, hO, hL, hb, hn⟩ := h
  exact ⟨bx_keep hK hg (by omega), bx_keep hS hg (by omega), bx_keep hO hg (by omega), bx_keep hL hg (by omega), hb.grown hg (Nat.le_of_lt hK.lt) (fun i e => by cases e; omega), hn⟩
theorem LeftF.keep {B k : Nat} {w W W' : World} {r : ByteArray × Bool} {c : Code} (h : LeftF B w r c W) (hg : W.grownBy W' (some k)) (h1 : B + 3 < k) : LeftF B w r c W' := by
  obtain ⟨hc, hS, hO, hb⟩ := h
  exact ⟨hc, bx_keep hS hg (by omega), bx_keep hO hg (by omega), hb.grown hg (by have := hS.lt; omega) (fun i e => by cases e; omega)⟩
theorem bx_below {W W' : World} {B : Nat} {t : TypeId} {v : Value} (h : Boxed W B t v) (hb : Below W.heap.size W W') : Boxed W' B t v := (hb.block B h.lt).trans h
theorem HeldF.below {B m : Nat} {w W W' : World} {A : Option Addr} {c : Nat} {xs : List S} {key : ByteArray} {r : ByteArray × Bool} (h : HeldF B w A c xs key r m W) (hb : Below W.heap.size W W') : HeldF B w A c xs key r m W' := by
  obtain ⟨hK, hS, hO, hL, hl, hn⟩ := h
  exact ⟨bx_below hK hb, bx_below hS hb, bx_below hO hb, bx_below hL hb, hl.trans (hb.mono (Nat.le_of_lt hK.lt)), hn⟩

set_option maxHeartbeats 4000000 in
set_option maxRecDepth 1000000 in
theorem recs_Find.calls (A0 : Option Addr) (c0 : Nat) (l0 : List S) (a1 r1 : ByteArray) (r2 : Bool) (w : World) (hr0 : Kd.C kS w A0 l0.length l0) (hc0 : l0.length ≤ c0) (h : recs_Find.f l0 a1 = some (r1, r2)) :
    Calls Tryz.prog 22 #[.slice A0 l0.length c0, .string a1] w fun e w' => e = .returned (.tuple #[.string r1, .bool r2]) ∧ Below w.heap.size w w' := by
  have hu := Tryz.underlying35
  unfold recs_Find.f at h
  split at h
  case isFalse => cases h
  rename_i hlen
  have hres := Aside0.mk (Option.some.inj h)
  have hr0' := Aside0.mk hr0
  clear h hr0
  refine (callsIn_wide (n := 3)).1 ?_
  refine callsIn_of_wp_marks Tryz.func22 rfl trivial ?_ rfl
  simp only [Tryz.ntmps22, List.size_toArray, List.length_cons, List.length_nil, Nat.reduceAdd, Nat.reduceSub, Array.replicate_succ, Array.replicate_zero, List.push_toArray, List.append_toArray, List.nil_append, List.cons_append]
  gi_wp2_with (refine ⟨trivial, ?_⟩; gi_at_call 42; refine (back_made _ _ _ _).mono ?_; rintro e w' ⟨rfl, rfl⟩)
  obtain ⟨B, hB⟩ : ∃ B, w.heap.size = B := ⟨_, rfl⟩
  have bK := Boxed.new w 9 (.string a1)
  have bS := Boxed.new (w.alloc (.cells #[.string a1] 9)) 9 (.string ⟨#[]⟩)
  have bO := Boxed.new ((w.alloc (.cells #[.string a1] 9)).alloc (.cells #[.string ⟨#[]⟩] 9)) 4 (.bool false)
  have bL := Boxed.new (((w.alloc (.cells #[.string a1] 9)).alloc (.cells #[.string ⟨#[]⟩] 9)).alloc (.cells #[.bool false] 4)) 32 (.slice A0 l0.length c0)
  have bK0 := ((bK.alloc (.cells #[.string ⟨#[]⟩] 9)).alloc (.cells #[.bool false] 4)).alloc (.cells #[.slice A0 l0.length c0] 32)
  have bS0 := (bS.alloc (.cells #[.bool false] 4)).alloc (.cells #[.slice A0 l0.length c0] 32)
  have bO0 := bO.alloc (.cells #[.slice A0 l0.length c0] 32)
  have hbel := ((((Below.refl w.heap.size w).alloc (Nat.le_refl _) (.cells #[.string a1] 9)).alloc (by simp) (.cells #[.string ⟨#[]⟩] 9)).alloc (by simp; omega) (.cells #[.bool false] 4)).alloc (by simp; omega) (.cells #[.slice A0 l0.length c0] 32)
  have hsz : ((((w.alloc (.cells #[.string a1] 9)).alloc (.cells #[.string ⟨#[]⟩] 9)).alloc (.cells #[.bool false] 4)).alloc (.cells #[.slice A0 l0.length c0] 32)).heap.size = B + 4 := by simp; omega
  simp only [World.size_alloc, hB] at bK0 bS0 bO0 bL hbel
  generalize ((((w.alloc (.cells #[.string a1] 9)).alloc (.cells #[.string ⟨#[]⟩] 9)).alloc (.cells #[.bool false] 4)).alloc (.cells #[.slice A0 l0.length c0] 32)) = W0 at *
  rw [hB]
  clear bK bS bO
  have hrd : ∀ W, Below B w W → Kd.C kS W A0 l0.length l0 := fun W hb => Kd.C_below hr0'.out (by rw [hB]; exact hb)
  refine range_back 3 (B + 1 + 1 + 1) (by omega) A0 c0 l0 hlen rfl (HeldF B w A0 c0 l0 a1 (r1, r2)) (LeftF B w (r1, r2)) (fun m W h => ⟨h.2.2.2.1.cell, hrd W h.2.2.2.2.1⟩) (fun m W W' hb h => h.below hb)
    (fun m W k o h1 h2 h => h.keep (grownBy_putObj' W k o) (by omega)) (fun c W k o h1 h2 h => h.keep (grownBy_putObj' W k o) (by omega)) ⟨bK0, bS0, bO0, bL, hbel, hres.out⟩
    (fun g i x => { tmps := #[.slice A0 l0.length c0, .string a1, undef, .pointer (some ⟨B, 0, none⟩), .pointer (some ⟨B + 1, 0, none⟩), .pointer (some ⟨B + 1 + 1, 0, none⟩), undef, .pointer (some ⟨g, 0, none⟩), .slice A0 l0.length c0, .func (.func 61) #[] #[.pointer (some ⟨B + 1 + 1 + 1, 0, none⟩)], .int .i64 i, .agg #[.string x.f0, .string x.f1], undef, undef, undef, undef, undef, undef], defers := [] }) ?assign ?bo ?done ?stop
  case assign =>
    intro l i x W K hK
    gi_wp2
    refine hK _ ?_ ?_
    · exact (Below.refl W.heap.size W).alloc (Nat.le_refl _) _
    · exact World.alloc_heap_new W _
  case bo =>
    rintro l m g W hm ⟨hK, hS, hO, hL, hbl, hn⟩ hg hrec
    have hc0 := hrec
    have hx0 : W.cell? ⟨g, 0, none⟩ = some (.string (rdS l0 m).f0) := (blk_cell hrec 0).trans rfl
    have hx1 : W.cell? ⟨g, 1, none⟩ = some (.string (rdS l0 m).f1) := (blk_cell hrec 1).trans rfl
    have cK := hK.cell
    have cS := hS.cell
    have fS := hS.frozen
    have cO := hO.cell
    have fO := hO.frozen
    have hbl' := Aside0.mk hbl
    have hn' := Aside0.mk hn
    have hrec' := Aside0.mk hrec
    clear hbl hn hrec hc0
    rw [hsz] at hg ⊢
    by_cases ck : (rdS l0 m).f0.toList = a1.toList
    · have hn2 : ((rdS l0 m).f1, true) = (r1, r2) := by
        have := hn'.out
        unfold lastOf at this
        rw [if_pos ck] at this
        exact this
      obtain ⟨rfl, rfl⟩ := Prod.mk.inj hn2
      have d1 : ((rdS l0 m).f0.toList == a1.toList) = true := beq_iff_eq.2 ck
      gi_wp2
      have hlt1 := hO.lt
      have kp : ∀ k, k ≠ B + 1 → k ≠ B + 2 → ((W.setCell ⟨B + 1, 0, none⟩ (.string (rdS l0 m).f1)).setCell ⟨B + 1 + 1, 0, none⟩ (.bool true)).heap[k]? = W.heap[k]? := fun k h1 h2 => (Below.heap_setCell _ _ _ k h2).trans (Below.heap_setCell _ _ _ k h1)
      have hgr := grownBy_setCell' (W.setCell ⟨B + 1, 0, none⟩ (.string (rdS l0 m).f1)) (B + 1 + 1) (.bool true)
      have hgs := grownBy_setCell' W (B + 1) (.string (rdS l0 m).f1)
      refine ⟨⟨kp _ (by omega) (by omega), kp _ (by omega) (by omega)⟩, rfl, bx_keep (hS.set _) hgr (by omega), (bx_keep hO hgs (by omega)).set _, ?_⟩
      exact (hbl'.out.setCell (p := ⟨B + 1, 0, none⟩) (Nat.le_add_right _ _) _).setCell (p := ⟨B + 1 + 1, 0, none⟩) (by simp only; omega) _
    · have hn2 : lastOf l0 a1 m = (r1, r2) := by
        have := hn'.out
        unfold lastOf at this
        rw [if_neg ck] at this
        exact this
      have d1 : ((rdS l0 m).f0.toList == a1.toList) = false := beq_eq_false_iff_ne.2 ck
      have hn3 := Aside0.mk hn2
      clear hn2
      gi_wp2
      exact ⟨⟨rfl, rfl⟩, hK, hS, hO, hL, hbl'.out, hn3.out⟩
  case done =>
    rintro W ⟨hK, hS, hO, hL, hbl, hn⟩ hKd
    obtain ⟨rfl, rfl⟩ := Prod.mk.inj (show ((⟨#[]⟩ : ByteArray), false) = (r1, r2) from hn)
    have cS := hS.cell
    have fS := hS.frozen
    have cO := hO.cell
    have fO := hO.frozen
    have hbl' := Aside0.mk hbl
    clear hbl hn
    rw [hsz] at hKd ⊢
    gi_wp2
    have hgs := grownBy_setCell' W (B + 1) (.string ⟨#[]⟩)
    have hgr := grownBy_setCell' (W.setCell ⟨B + 1, 0, none⟩ (.string ⟨#[]⟩)) (B + 1 + 1) (.bool false)
    have hS2 := bx_keep (hS.set (.string ⟨#[]⟩)) hgr (by omega)
    have hO2 := (bx_keep hO hgs (by omega)).set (.bool false)
    have hb2 := (hbl'.out.setCell (p := ⟨B + 1, 0, none⟩) (Nat.le_add_right _ _) (.string ⟨#[]⟩)).setCell (p := ⟨B + 1 + 1, 0, none⟩) (by simp only; omega) (.bool false)
    have hK2 : ((W.setCell ⟨B + 1, 0, none⟩ (.string ⟨#[]⟩)).setCell ⟨B + 1 + 1, 0, none⟩ (.bool false)).heap[B + 4]? = some (.deferred (some [])) := ((Below.heap_setCell _ _ _ (B + 4) (by simp)).trans (Below.heap_setCell _ _ _ (B + 4) (by simp))).trans hKd
    refine ⟨by simp, .inl ⟨_, _, rfl, run_takeDeferred hK2, ?_⟩⟩
    have hgp := grownBy_putObj' ((W.setCell ⟨B + 1, 0, none⟩ (.string ⟨#[]⟩)).setCell ⟨B + 1 + 1, 0, none⟩ (.bool false)) (B + 4) (.deferred none)
    have hltk : B + 4 < ((W.setCell ⟨B + 1, 0, none⟩ (.string ⟨#[]⟩)).setCell ⟨B + 1 + 1, 0, none⟩ (.bool false)).heap.size := (Array.getElem?_eq_some_iff.1 hK2).1
    refine ⟨_, find_results _ _ B ⟨#[]⟩ false rfl rfl (bx_keep hS2 hgp (by omega)).cell (bx_keep hO2 hgp (by omega)).cell, rfl, ?_⟩
    try rw [hB]
    exact hb2.grown hgp (by omega) (fun i e => by cases e; omega)
  case stop =>
    rintro c W ⟨rfl, hS, hO, hbl⟩ hKd
    have hbl' := Aside0.mk hbl
    clear hbl
    rw [hsz] at hKd ⊢
    gi_wp2
    refine ⟨by simp, .inl ⟨_, _, rfl, run_takeDeferred hKd, ?_⟩⟩
    have hgr := grownBy_putObj' W (B + 4) (.deferred none)
    have hltk : B + 4 < W.heap.size := (Array.getElem?_eq_some_iff.1 hKd).1
    refine ⟨_, find_results _ _ B r1 r2 rfl rfl (bx_keep hS hgr (by omega)).cell (bx_keep hO hgr (by omega)).cell, rfl, ?_⟩
    try rw [hB]
    exact hbl'.out.grown hgr (by omega) (fun i e => by cases e; omega)
end Go.Proofs.YtjidenkhgeoaiaaGreatDoor.Hand
