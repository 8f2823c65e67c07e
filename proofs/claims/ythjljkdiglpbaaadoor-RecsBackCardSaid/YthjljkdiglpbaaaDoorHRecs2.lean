/- Contract, by hand, of recs.One: a record's bytes, its length ahead. -/
import Derived.Test.YthjljkdiglpbaaaDoorHRecs
import Derived.Lib.AppendStr
namespace Go.Proofs.YthjljkdiglpbaaaDoor.Hand
open Go.RowKit Go.Shelf Go.Proofs.YthjljkdiglpbaaaDoor.P Go.Proofs.YthjljkdiglpbaaaDoorW Go.Proofs.YthjljkdiglpbaaaDoorW.PrintWords Go.Proofs.YthjljkdiglpbaaaDoorW.PrintLast Go.Proofs.YthjljkdiglpbaaaDoorW.PrintMore
attribute [local go_sem] Oper.semAt_some
set_option linter.unusedVariables false
set_option linter.unusedSimpArgs false

theorem step_append_str {P : Program} {ops : Array Oper} {o : Oper} {a : Act} {w : World} {K : Act → World → Prop} {Q : Exit → Act → World → Prop} {E : Prop} (hgd : o.guard = none) (sl x : Operand) (t u : TypeId)
    (ho : o.op = .call { callee := .builtin .append, args := #[sl, x], argTypes := #[t, u] })
    (base : Nat) (e : TypeId) (i : TypeInfo) (ht : P.underlying t = some (.slice e)) (hu : P.underlying u = some .string) (hi : P.info? e = some i) (hz : i.zero = some (.int .u8 0))
    (hsize : i.size = 1) (hby : i.bytes = 1)
    (v : Value) (n : Nat) (xs : List Value) (hs : a.eval sl = v) (hown : w.ownsRow base e 1 v n xs) (s : ByteArray) (hx : a.eval x = .string s)
    (h63 : n + s.size ≤ maxLen) (hbytes : n + s.size ≤ 140737488355328) (hbase : base ≤ w.heap.size)
    (h : ∀ v' w', w'.ownsRow base e 1 v' (n + s.size) (xs ++ Lib.strCells s) → w.grownBy w' v.ownBlock → K (a.put o.dst v') w') :
    if Region.wanted o (yielded ops a.tmps) = true then Oper.wp P o a w K Q else E := by
  have hw : Region.wanted o (yielded ops a.tmps) = true := by simp [Region.wanted, hgd]
  rw [if_pos hw]
  obtain ⟨v', w', hr, h2, h3, h4⟩ := Lib.run_append_own_string (P := P) w base t u o.type e i ht hu hi hz hsize hby v n xs hown s h63 hbytes hbase
  unfold Oper.wp execOp
  simp only [ho, resolve, invoke, builtin, Sem.run_bind, Sem.run_pure, Result.andThen_ok, List.map_toArray, List.map_cons, List.map_nil, hs, hx, hr]
  exact h v' w' h2 h3

theorem info5' : (Tryd.prog.info? 5).map (fun i => (i.zero, i.size, i.bytes)) = some (some (.int .u8 0), 1, 1) := by kernel_rfl
theorem own_below' {W W' : World} {base n : Nat} {e : TypeId} {v : Value} {xs : List Value} (h : W.ownsRow base e 1 v n xs) (hb : Below W.heap.size W W') : W'.ownsRow base e 1 v n xs := by
  refine ⟨h.1, ?_⟩
  rcases h.2 with h2 | ⟨g, cap, cur, h1, h2, h3, h4⟩
  · exact .inl h2
  · exact .inr ⟨g, cap, cur, h1, h2, (hb.block g (Array.getElem?_eq_some_iff.1 h3).1).trans h3, h4⟩
theorem own_base' {W : World} {base n : Nat} {e : TypeId} {v : Value} {xs : List Value} (h : W.ownsRow base e 1 v n xs) (i : Nat) (hi : v.ownBlock = some i) : base ≤ i := by
  rcases h.2 with ⟨rfl, _⟩ | ⟨g, cap, cur, rfl, hb, _⟩
  · cases hi
  · have : g = i := by simpa [Value.ownBlock] using hi
    omega
theorem own_ne {W : World} {base n g t : Nat} {e : TypeId} {v : Value} {xs : List Value} {cells : Array Value} (h : W.ownsRow base e 1 v n xs) (hb : W.heap[g]? = some (.cells cells t (0, 0))) (ht : e ≠ t) : some g ≠ v.ownBlock := by
  intro hi
  rcases h.2 with ⟨rfl, _⟩ | ⟨g1, cap, cur, rfl, _, hg, _⟩
  · cases hi
  · have : g = g1 := by simpa [Value.ownBlock] using hi
    subst this
    rw [hg] at hb
    simp only [Option.some.injEq, Obj.cells.injEq] at hb
    exact ht hb.2.1

/-- A number's digits, as numbers. -/
def digL (n : Int) : List Int := (Lib.itoa n).map fun b => (b.toNat : Int)
def recs_One.f (a0 a1 : ByteArray) : Option (List Int × Int) :=
  (recs_May.f 20 a0 a1).bind fun e => if e = 0 then (recs_Len.f a0 a1).bind fun n => (recs_text.f a0 a1).bind fun t =>
    (if -9223372036854775808 ≤ n ∧ n ≤ 9223372036854775807 ∧ t.size ≤ 100000 ∧ (Lib.itoa n).length ≤ 100 then some (digL n ++ bytesOf t, 0) else none) else some ([], e)

set_option maxHeartbeats 8000000 in
set_option maxRecDepth 1000000 in
theorem recs_One.calls (a0 a1 : ByteArray) (r1 : List Int) (r2 : Int) (w : World) (HTB : Aside0 (TabOk w)) (h : recs_One.f a0 a1 = some (r1, r2)) :
    Calls Tryd.prog 18 #[.agg #[.string a0, .string a1]] w fun e w' => ∃ v0_ : Value, e = .returned (.tuple #[v0_, .int .i64 r2]) ∧ Kd.R (Kd.int .u8) 5 w' w.heap.size (fun _ => True) v0_ r1 ∧ Below w.heap.size w w' := by
  have hu45 := Tryd.underlying45
  obtain ⟨ec, hM, h⟩ := Option.bind_eq_some_iff.1 h
  have HM := Aside0.mk hM
  clear hM
  by_cases c1 : ¬ ec = 0
  · rw [if_neg c1] at h
    obtain ⟨rfl, rfl⟩ := Prod.mk.inj (Option.some.inj h)
    have b1 : (ec != 0) = true := bne_iff_ne.2 c1
    clear c1 h
    go_enter Tryd.func18, Tryd.ntmps18
    go_wp2_with (go_at_call 21; (with_reducible refine (recs_May.calls 20 a0 a1 ec _ HM.out).mono ?_); rintro e w7 ⟨rfl, hb⟩; have HB := Aside0.mk (((Below.refl w.heap.size w).alloc (Nat.le_refl _) (.cells #[.string a0, .string a1] 45)).trans (hb.mono (by simp))))
    go_ret2
    exact ⟨_, rfl, Kd.R_nil _ _ _ _ _, HB.out⟩
  · have c2 := Decidable.of_not_not c1
    subst c2
    clear c1
    rw [if_pos rfl] at h
    obtain ⟨n, hL, h⟩ := Option.bind_eq_some_iff.1 h
    obtain ⟨tx, hT, h⟩ := Option.bind_eq_some_iff.1 h
    split at h
    case isFalse => cases h
    rename_i hsz
    obtain ⟨hr1, rfl⟩ := Prod.mk.inj (Option.some.inj h)
    have HT := Aside0.mk hT
    have HL := Aside0.mk hL
    have HZ := Aside0.mk hsz
    have HR1 := Aside0.mk hr1
    clear hT hL h hsz hr1
    go_enter Tryd.func18, Tryd.ntmps18
    go_wp2_with (go_at_call 21; (with_reducible refine (recs_May.calls 20 a0 a1 0 _ HM.out).mono ?_); rintro e w7 ⟨rfl, hb⟩; have HB := Aside0.mk (((Below.refl w.heap.size w).alloc (Nat.le_refl _) (.cells #[.string a0, .string a1] 45)).trans (hb.mono (by simp))); have BK := Aside0.mk ((hb.block w.heap.size (by simp)).trans (alloc_new w _)); clear hb)
    have n0_ := Aside0.mk (below_drew1 HB.out)
    have n1_ := Aside0.mk (blk_drew BK.out)
    clear HB BK
    have HB := n0_
    have BK := n1_
    clear n0_ n1_
    refine start_ (n := 8) (S := fun w' => w'.cell? ⟨w.heap.size, 0, none⟩ = some (.string a0) ∧ w'.cell? ⟨w.heap.size, 1, none⟩ = some (.string a1)) (ds := []) #[false, false, false, false, false, false, false, false] (by kernel_rfl) rfl rfl ⟨(blk_cell BK.out 0).trans rfl, (blk_cell BK.out 1).trans rfl⟩ (fun hHeld => ?_)
    generalize w7.drew = w8 at HB BK hHeld ⊢
    refine take_ (i := 0) (N := some 10) (v := ?_) (a' := ?_) #[true, false, false, false, false, false, false, false] rfl rfl (by kernel_rfl) (fun _ _ _ h => h) (Or.inl ⟨by rfl, ?_⟩) hHeld ?_ ?_
    rotate_left
    · rintro w' ⟨s0, s1⟩
      go_simp
      with_reducible rfl
    rotate_left
    · simp only [Act.put, List.setIfInBounds_toArray, List.set_cons_zero, List.set_cons_succ, i64_w, i32_w]
      rfl
    refine take_ (i := 3) (N := some 13) (v := ?_) (a' := ?_) #[true, false, false, true, false, false, false, false] rfl rfl (by kernel_rfl) (fun _ _ _ h => h) (Or.inl ⟨by rfl, ?_⟩) hHeld ?_ ?_
    rotate_left
    · rintro w' ⟨s0, s1⟩
      go_simp
      with_reducible rfl
    rotate_left
    · simp only [Act.put, List.setIfInBounds_toArray, List.set_cons_zero, List.set_cons_succ, i64_w, i32_w]
      rfl
    refine one_ (i := 1) (N := some 11) #[true, true, false, true, false, false, false, false] rfl rfl (by kernel_rfl) (by decide) (fun K hK => ?_)
    refine goes_ Tryd.func23 (by kernel_rfl) rfl #[.agg #[.string a0, .string a1]] (by rfl) rfl rfl (by (try simp only [List.map_toArray, List.map_cons, List.map_nil]); first | done | rfl) ?_
    with_reducible refine (recs_Len.calls a0 a1 n _ ⟨HTB.out.below HB.out⟩ HL.out).mono ?_
    rintro e w9 ⟨rfl, hb⟩
    refine ⟨_, rfl, ?_⟩
    have n0_ := Aside0.mk (below_step HB.out hb)
    have n1_ := Aside0.mk (blk_below (g := w.heap.size) (o := .cells #[.string a0, .string a1] 45 (0, 0)) BK.out hb)
    clear HB BK hb
    have HB := n0_
    have BK := n1_
    clear n0_ n1_
    refine hK.out _ _ ⟨(blk_cell BK.out 0).trans rfl, (blk_cell BK.out 1).trans rfl⟩ (fun hHeld => ?_)
    clear hK K
    refine norm_ (a' := ?_) ?_ ?_
    rotate_left
    · show Act.put _ (some 11) _ = _
      simp only [Act.put, List.setIfInBounds_toArray, List.set_cons_zero, List.set_cons_succ, i64_w, i32_w]
      rfl
    refine one_ (i := 2) (N := some 12) #[true, true, true, true, false, false, false, false] rfl rfl (by kernel_rfl) (by decide) (fun K hK => ?_)
    refine goes_ Tryd.func35 (by kernel_rfl) rfl #[.slice none 0 0, .int .i64 n, .int .i64 10] (by rfl) rfl rfl (by (try simp only [List.map_toArray, List.map_cons, List.map_nil]); first | done | rfl) ?_
    with_reducible refine (Tryd.strconv_AppendInt_10 w.heap.size 0 n HZ.out.1 HZ.out.2.1 (.slice none 0 0) [] _ (World.ownsRow_nil _ _ _ _) (below_size HB.out) (by omega) ((Lib.tabBelow_of_tabIs HTB.out).on HB.out)).mono ?_
    rintro e w10 ⟨v12, rfl, hown, hb, hok⟩
    refine ⟨_, rfl, ?_⟩
    have n0_ := Aside0.mk (HB.out.trans hb)
    have n1_ := Aside0.mk (hok w.heap.size _ BK.out (by simp) (by intro c fz h; simp at h))
    have HW := Aside0.mk hown
    clear HB BK hb hok hown
    have HB := n0_
    have BK := n1_
    clear n0_ n1_
    refine hK.out _ _ ⟨(blk_cell BK.out 0).trans rfl, (blk_cell BK.out 1).trans rfl⟩ (fun hHeld => ?_)
    clear hK K
    refine norm_ (a' := ?_) ?_ ?_
    rotate_left
    · show Act.put _ (some 12) _ = _
      simp only [Act.put, List.setIfInBounds_toArray, List.set_cons_zero, List.set_cons_succ, i64_w, i32_w]
      rfl
    refine one_ (i := 4) (N := some 14) #[true, true, true, true, true, false, false, false] rfl rfl (by kernel_rfl) (by decide) (fun K hK => ?_)
    refine goes_ Tryd.func36 (by kernel_rfl) rfl #[.agg #[.string a0, .string a1]] (by rfl) rfl rfl (by (try simp only [List.map_toArray, List.map_cons, List.map_nil]); first | done | rfl) ?_
    with_reducible refine (recs_text.calls a0 a1 tx _ HT.out).mono ?_
    rintro e w11 ⟨rfl, hb⟩
    refine ⟨_, rfl, ?_⟩
    have n0_ := Aside0.mk (below_step HB.out hb)
    have n1_ := Aside0.mk (blk_below (g := w.heap.size) (o := .cells #[.string a0, .string a1] 45 (0, 0)) BK.out hb)
    have n2_ := Aside0.mk (own_below' HW.out hb)
    clear HB BK hb HW
    have HB := n0_
    have BK := n1_
    have HW := n2_
    clear n0_ n1_ n2_
    refine hK.out _ _ ⟨(blk_cell BK.out 0).trans rfl, (blk_cell BK.out 1).trans rfl⟩ (fun hHeld => ?_)
    clear hK K
    refine norm_ (a' := ?_) ?_ ?_
    rotate_left
    · show Act.put _ (some 14) _ = _
      simp only [Act.put, List.setIfInBounds_toArray, List.set_cons_zero, List.set_cons_succ, i64_w, i32_w]
      rfl
    refine one_ (i := 5) (N := some 15) #[true, true, true, true, true, true, false, false] rfl rfl (by kernel_rfl) (by decide) (fun K hK => ?_)
    obtain ⟨i0, hi0, hz0, hz1, hz2⟩ := info_parts info5'
    refine step_append_str rfl (.tmp 12) (.tmp 14) 22 9 rfl w.heap.size 5 i0 Tryd.underlying22 Tryd.underlying9 hi0 hz0 hz1 hz2 v12 (0 + (Lib.itoa n).length) _ (by rfl) HW.out tx (by rfl) (by have := HZ.out; simp only [maxLen]; omega) (by have := HZ.out; omega) (below_size HB.out) ?_
    intro v15 w12 hown hg
    have n0_ := Aside0.mk (HB.out.grown hg (below_size HB.out) (fun i e => own_base' HW.out i e))
    have n1_ := Aside0.mk (blk_grown (g := w.heap.size) (o := .cells #[.string a0, .string a1] 45 (0, 0)) BK.out hg (own_ne HW.out BK.out (by decide)))
    have n2_ := Aside0.mk hown
    clear HB BK hg HW hown
    have HB := n0_
    have BK := n1_
    have HW := n2_
    clear n0_ n1_ n2_
    refine hK.out _ _ ⟨(blk_cell BK.out 0).trans rfl, (blk_cell BK.out 1).trans rfl⟩ (fun hHeld => ?_)
    clear hK K
    refine norm_ (a' := ?_) ?_ ?_
    rotate_left
    · show Act.put _ (some 15) _ = _
      simp only [Act.put, List.setIfInBounds_toArray, List.set_cons_zero, List.set_cons_succ, i64_w, i32_w]
      rfl
    refine pure_ (i := 6) (N := some 2) (v := ?_) (a' := ?_) #[true, true, true, true, true, true, true, false] rfl rfl (by kernel_rfl) (fun _ _ _ h => h) (Or.inl ⟨by rfl, ?_⟩) ?_ ?_
    rotate_left
    · intro w'
      go_simp
      with_reducible rfl
    rotate_left
    · simp only [Act.put, List.setIfInBounds_toArray, List.set_cons_zero, List.set_cons_succ, i64_w, i32_w]
      rfl
    refine pure_ (i := 7) (N := some 3) (v := ?_) (a' := ?_) #[true, true, true, true, true, true, true, true] rfl rfl (by kernel_rfl) (fun _ _ _ h => h) (Or.inl ⟨by rfl, ?_⟩) ?_ ?_
    rotate_left
    · intro w'
      go_simp
      with_reducible rfl
    rotate_left
    · simp only [Act.put, List.setIfInBounds_toArray, List.set_cons_zero, List.set_cons_succ, i64_w, i32_w]
      rfl
    refine done_ (by kernel_rfl) ?_
    go_wp2
    go_ret2
    refine ⟨_, rfl, ?_, HB.out⟩
    have hl : r1.length = 0 + (Lib.itoa n).length + tx.size := by rw [← HR1.out, List.length_append, bytesOf_length, digL, List.length_map]; omega
    refine Kd.R_of_own (enc := Value.int .u8) (h1 := fun _ => rfl) ?_ (fun _ _ => trivial)
    rw [hl, ← HR1.out]
    have := HW.out
    rw [show ([] ++ Lib.byteCells (Lib.itoa n) ++ Lib.strCells tx : List Value) = encs (Value.int .u8) (digL n ++ bytesOf tx) by simp [Lib.byteCells, Lib.strCells, encs, digL, bytesOf, Function.comp_def]] at this
    exact this
end Go.Proofs.YthjljkdiglpbaaaDoor.Hand
