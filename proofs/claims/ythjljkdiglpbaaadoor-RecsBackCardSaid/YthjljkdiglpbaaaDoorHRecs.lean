/- Contract, by hand, of recs.Len (a loop by goto): the least length that tells itself. -/
import Derived.Test.YthjljkdiglpbaaaDoorHTab
import Derived.Test.YthjljkdiglpbaaaDoorF21
import Derived.Test.YthjljkdiglpbaaaDoorF36
import Derived.ScopeJumps
import Derived.WalkMore
import Derived.Deep.LoopGhost
namespace Go.Proofs.YthjljkdiglpbaaaDoor.Hand
open Go.RowKit Go.Shelf Go.Proofs.YthjljkdiglpbaaaDoor.P Go.Proofs.YthjljkdiglpbaaaDoorW Go.Proofs.YthjljkdiglpbaaaDoorW.PrintWords Go.Proofs.YthjljkdiglpbaaaDoorW.PrintLast Go.Proofs.YthjljkdiglpbaaaDoorW.PrintMore
attribute [local go_sem] Oper.semAt_some
set_option linter.unusedVariables false
set_option linter.unusedSimpArgs false

/-- A scope with one label that is jumped back to, by a number that each pass lowers. -/
theorem wp_scope_ghost {P : Program} {Q : Exit → Act → World → Prop} {a : Act} {w : World} {c rest : Code} (l : Nat) (I : Nat → Act → World → Prop) (hf : findLabel c l = some (Code.skip.seq rest))
    (pass : ∀ n a w, I n a w → rest.wp P (Exit.jump l (fun a' w' => ∃ n', n' < n ∧ I n' a' w') Q) a w)
    (first : (∀ n a w, I n a w → rest.wp P (Exit.jump l (fun a w => ∃ n, I n a w) Q) a w) → c.wp P (Exit.jump l (fun a w => ∃ n, I n a w) Q) a w) : (Code.scope c).wp P Q a w := by
  have up : ∀ (X Y : Act → World → Prop), (∀ a w, X a w → Y a w) → ∀ e a w, Exit.jump l X Q e a w → Exit.jump l Y Q e a w := by
    intro X Y h e a w hq
    cases e with
    | goto l' => exact ⟨hq.1, h _ _ hq.2⟩
    | normal => exact hq
    | exit id => exact hq
    | ret => exact hq
    | panic ch => exact hq
    | outgrown => exact hq
  refine wp_scope_jumps l (fun a w => ∃ n, I n a w) (fun a w => leastOf (fun n => I n a w)) hf (first fun n a w h => wp_mono (pass n a w h) (up _ _ fun a w => fun ⟨n', _, h'⟩ => ⟨n', h'⟩)) ?_
  intro a w hI
  exact wp_mono (wp_seq (wp_skip (pass _ a w (leastOf_spec hI).1))) (up _ _ fun a' w' => fun ⟨n', hlt, hI'⟩ => ⟨⟨n', hI'⟩, Nat.lt_of_le_of_lt ((leastOf_spec ⟨n', hI'⟩).2 n' hI') hlt⟩)

theorem alloc_new (w : World) (o : Obj) : (w.alloc o).heap[w.heap.size]? = some o := by
  show (w.heap.push o)[w.heap.size]? = some o
  simp
/-- How many bytes a number's digits have. -/
def digs (n : Int) : Int := ((⟨(Lib.itoa n).toArray⟩ : ByteArray).size : Int)
def lenLoop : Nat → Int → Int → Option Int
  | 0, _, _ => none
  | k + 1, rest, m => if wrap64 (rest + digs m) = m then some m else lenLoop k rest (wrap64 (rest + digs m))
def recs_Len.f (a0 a1 : ByteArray) : Option Int :=
  (recs_May.f 20 a0 a1).bind fun e => if e = 0 then (recs_text.f a0 a1).bind fun t => (if t.size ≤ 9223372036854775807 then lenLoop 20 (t.size : Int) (t.size : Int) else none) else some 0

def lenInv (a0 a1 : ByteArray) (rest r : Int) (w : World) (n : Nat) (a' : Act) (w' : World) : Prop :=
  ∃ (gb : Nat) (u5 u6 u7 u8 u9 u10 u11 u12 u13 u14 u15 u16 u17 u18 u19 u20 u21 u22 : Value) (m : Int), (Aside0 (-9223372036854775808 ≤ m ∧ m ≤ 9223372036854775807) ∧ Aside0 (lenLoop n rest m = some r) ∧ Aside0 (Below w.heap.size w w')) ∧
    a' = { tmps := #[.agg #[.string a0, .string a1], .pointer (some ⟨gb, 0, none⟩), .int .i64 0, .int .i64 rest, .int .i64 m, u5, u6, u7, u8, u9, u10, u11, u12, u13, u14, u15, u16, u17, u18, u19, u20, u21, u22], defers := [] }

set_option maxHeartbeats 8000000 in
set_option maxRecDepth 1000000 in
theorem recs_Len.calls (a0 a1 : ByteArray) (r : Int) (w : World) (HTB : Aside0 (TabOk w)) (h : recs_Len.f a0 a1 = some r) :
    Calls Tryd.prog 23 #[.agg #[.string a0, .string a1]] w fun e w' => e = .returned (.int .i64 r) ∧ Below w.heap.size w w' := by
  have hu45 := Tryd.underlying45
  have HB := Aside0.mk (Below.refl w.heap.size w)
  obtain ⟨ec, hM, h⟩ := Option.bind_eq_some_iff.1 h
  have HM := Aside0.mk hM
  clear hM
  by_cases c1 : ¬ ec = 0
  · rw [if_neg c1] at h
    obtain rfl := Option.some.inj h
    have b1 : (ec != 0) = true := bne_iff_ne.2 c1
    clear c1
    go_enter Tryd.func23, Tryd.ntmps23
    go_wp2
    refine wp_scope_ghost 0 (fun _ _ _ => False) rfl (fun _ _ _ hf => hf.elim) (fun _ => ?_)
    go_wp2_with ((go_at_call 21; (with_reducible refine (recs_May.calls 20 a0 a1 ec _ HM.out).mono ?_); rintro e w7 ⟨rfl, hb⟩; have n0_ := Aside0.mk (((Below.refl w.heap.size w).alloc (Nat.le_refl _) (.cells #[.string a0, .string a1] 45)).trans (hb.mono (by simp))); have BK := Aside0.mk ((hb.block w.heap.size (by simp)).trans (alloc_new w _)); clear HB hb; have HB := n0_; clear n0_; have hcz0 : w7.cell? ⟨w.heap.size, 0, none⟩ = some (.string a0) := (blk_cell BK.out 0).trans rfl; have hcz1 : w7.cell? ⟨w.heap.size, 1, none⟩ = some (.string a1) := (blk_cell BK.out 1).trans rfl; have hfz0 := blk_frozen BK.out 0; have hfz1 := blk_frozen BK.out 1))
    simp only [Exit.jump]
    go_ret
    exact ⟨rfl, HB.out⟩
  · have c2 := Decidable.of_not_not c1
    subst c2
    clear c1
    rw [if_pos rfl] at h
    obtain ⟨tx, hT, h⟩ := Option.bind_eq_some_iff.1 h
    split at h
    case isFalse => cases h
    rename_i hsz
    have HT := Aside0.mk hT
    have HL := Aside0.mk h
    have HZ := Aside0.mk hsz
    clear hT h hsz
    go_enter Tryd.func23, Tryd.ntmps23
    go_wp2
    refine wp_scope_ghost 0 (lenInv a0 a1 (tx.size : Int) r w) rfl ?_ ?_
    · clear HB HL
      rintro n a' w' ⟨gb, u5, u6, u7, u8, u9, u10, u11, u12, u13, u14, u15, u16, u17, u18, u19, u20, u21, u22, m, ⟨hm, hA, HB⟩, rfl⟩
      cases n with
      | zero => cases hA.out
      | succ k =>
      have H := hA.out
      clear hA
      rw [lenLoop] at H
      unfold digs at H
      obtain ⟨s, hs⟩ : ∃ s : ByteArray, (⟨(Lib.itoa m).toArray⟩ : ByteArray) = s := ⟨_, rfl⟩
      rw [hs] at H
      have HS := Aside0.mk hs
      clear hs
      obtain ⟨x, hx⟩ : ∃ x : Int, wrap64 ((tx.size : Int) + (s.size : Int)) = x := ⟨_, rfl⟩
      rw [hx] at H
      have hxr : -9223372036854775808 ≤ x ∧ x ≤ 9223372036854775807 := by rw [← hx]; unfold wrap64; omega
      have hw : IntKind.i64.wrap ((tx.size : Int) + (s.size : Int)) = x := by rw [← hx]; exact i64_w _
      have HXR := Aside0.mk hxr
      have HX := Aside0.mk hx
      clear hxr hx
      by_cases c : x = m
      · rw [if_pos c] at H
        obtain rfl := Option.some.inj H
        have d : (x != m) = false := bne_eq_false_iff_eq.2 c
        clear H c
        go_wp2_with (go_at_call 39; (with_reducible refine (Tryd.strconv_Itoa m hm.out.1 hm.out.2 _ (HTB.out.below HB.out)).mono ?_); rintro e w9 ⟨rfl, kk, os, rfl⟩; rw [HS.out]; have n0_ := Aside0.mk (below_step HB.out (Lib.below_grow _ _ (Nat.le_refl _) kk os)); clear HB; have HB := n0_; clear n0_)
        simp only [Exit.jump]
        go_ret
        exact ⟨rfl, HB.out⟩
      · rw [if_neg c] at H
        have HL := Aside0.mk H
        have d : (x != m) = true := bne_iff_ne.2 c
        clear H c
        go_wp2_with (go_at_call 39; (with_reducible refine (Tryd.strconv_Itoa m hm.out.1 hm.out.2 _ (HTB.out.below HB.out)).mono ?_); rintro e w9 ⟨rfl, kk, os, rfl⟩; rw [HS.out]; have n0_ := Aside0.mk (below_step HB.out (Lib.below_grow _ _ (Nat.le_refl _) kk os)); clear HB; have HB := n0_; clear n0_)
        go_step3
        exact ⟨rfl, k, Nat.lt_succ_self k, gb, _, _, _, _, _, _, _, _, _, _, _, _, _, _, _, _, _, _, x, ⟨HXR, HL, HB⟩, rfl⟩
    · intro hp
      go_wp2_with (first | (go_at_call 21; (with_reducible refine (recs_May.calls 20 a0 a1 0 _ HM.out).mono ?_); rintro e w7 ⟨rfl, hb⟩; have n0_ := Aside0.mk (((Below.refl w.heap.size w).alloc (Nat.le_refl _) (.cells #[.string a0, .string a1] 45)).trans (hb.mono (by simp))); have BK := Aside0.mk ((hb.block w.heap.size (by simp)).trans (alloc_new w _)); clear HB hb; have HB := n0_; clear n0_; have hcz0 : w7.cell? ⟨w.heap.size, 0, none⟩ = some (.string a0) := (blk_cell BK.out 0).trans rfl; have hcz1 : w7.cell? ⟨w.heap.size, 1, none⟩ = some (.string a1) := (blk_cell BK.out 1).trans rfl; have hfz0 := blk_frozen BK.out 0; have hfz1 := blk_frozen BK.out 1) | (go_at_call 36; (with_reducible refine (recs_text.calls a0 a1 tx _ HT.out).mono ?_); rintro e w8 ⟨rfl, hb⟩; have n0_ := Aside0.mk (below_step HB.out hb); clear HB; have HB := n0_; clear n0_ hb))
      go_step3
      rename_i hk
      apply hk
      refine hp 20 _ _ ?_
      exact ⟨w.heap.size, _, _, _, _, _, _, _, _, _, _, _, _, _, _, _, _, _, _, (tx.size : Int), ⟨⟨by have := HZ.out; omega⟩, HL, HB⟩, rfl⟩
end Go.Proofs.YthjljkdiglpbaaaDoor.Hand
