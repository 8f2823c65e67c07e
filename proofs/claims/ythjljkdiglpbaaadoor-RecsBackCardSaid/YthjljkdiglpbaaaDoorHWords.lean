/- Words for the contracts by hand: copy from a text into a row of the call's own. -/
import Derived.Test.YthjljkdiglpbaaaDoorWWords
import Derived.Test.YthjljkdiglpbaaaDoorWRest
import Derived.Lib.BufferWrite
namespace Go.Proofs.YthjljkdiglpbaaaDoor.Hand
open Go.RowKit Go.Proofs.YthjljkdiglpbaaaDoorW.PrintWords Go.Proofs.YthjljkdiglpbaaaDoorW.PrintLast Go.Proofs.YthjljkdiglpbaaaDoorW.PrintMore
set_option linter.unusedVariables false
set_option linter.unusedSimpArgs false

theorem cell_fresh (w : World) (cs : Array Value) (t : TypeId) (fr : Nat × Nat) (j : Nat) : (w.alloc (.cells cs t fr)).cell? ⟨w.heap.size, j, none⟩ = cs[j]? := by
  unfold World.cell?
  rw [heap_alloc_new]
  rfl

theorem add_flat (b off i : Nat) : (⟨b, off, none⟩ : Addr).add i = ⟨b, off + i, none⟩ := by
  unfold Addr.add
  split
  · rename_i h; simp [h]
  · rfl
/-- An element of a row that is read. -/
theorem C_at {k : IntKind} {w : World} {A : Option Addr} {n : Nat} {xs : List Int} (h : Kd.C (Kd.int k) w A n xs) (i : Nat) (hi : i < xs.length) : ∃ b off, A = some ⟨b, off, none⟩ ∧ w.cell? ⟨b, off + i, none⟩ = some (.int k xs[i]) := by
  have hn := Kd.C_len h
  obtain ⟨ad, hA, hcell0⟩ := Kd.at_int h 0 (by omega) (by omega)
  obtain ⟨ad2, hA2, hcell⟩ := Kd.at_int h (i : Int) (by omega) (by omega)
  obtain rfl : ad = ad2 := Option.some.inj (hA.symm.trans hA2)
  obtain ⟨b, off, spot⟩ := ad
  rw [show ((0 : Int)).toNat = 0 from rfl, Addr.add_zero'] at hcell0
  obtain rfl : spot = none := by simpa using World.cell?_spot hcell0
  rw [Int.toNat_natCast, add_flat] at hcell
  refine ⟨b, off, hA, ?_⟩
  rw [hcell]
  simp [rd, List.getD_eq_getElem?_getD, hi]

section
variable {P : Program} {ops : Array Oper} {rest : List Oper} {o : Oper} {a : Act} {Q : Exit → Act → World → Prop}
/-- copy(v, s), s a text that fits, v a row of bytes of the call's own. -/
theorem R_copy_str {w0 W : World} (base : Nat) (hgd : o.guard = none) (s x : Operand) (t t' e : TypeId)
    (ho : o.op = .call { callee := .builtin .copy, args := #[s, x], argTypes := #[t, t'] }) (ht : P.underlying t = some (.slice e)) (hinfo : (P.info? e).map (·.size) = some 1)
    (v : Value) (xs : List Int) (y : ByteArray) (ok : Nat → Prop) (hs : a.eval s = v) (hx : a.eval x = .string y) (hfit : y.size ≤ xs.length)
    (HO : (Kd.int .u8).R e W base ok v xs) (HB : Below base w0 W) (hbase : base ≤ W.heap.size)
    (h : ∀ w1, (Kd.int .u8).R e w1 base ok v (bytesOf y ++ xs.drop y.size) → Below base w0 w1 → W.grownBy w1 v.ownBlock → wpList P ops Q rest (a.put o.dst (.int .i64 (y.size : Int))) w1) :
    wpList P ops Q (o :: rest) a W := by
  have hown := Kd.own_of_R HO
  have fin : ∀ w1, (Builtin.copy_ #[t, t'] o.type #[v, .string y]).run P W = .ok (goInt (y.size : Int)) w1 → (Kd.int .u8).R e w1 base ok v (bytesOf y ++ xs.drop y.size) → W.grownBy w1 v.ownBlock → wpList P ops Q (o :: rest) a W := by
    intro w1 hr hrow hg
    refine wpList_plain hgd fun K hK => ?_
    unfold Oper.wp execOp
    simp only [ho, resolve, invoke, builtin, Sem.run_bind, Sem.run_pure, Result.andThen_ok, List.map_toArray, List.map_cons, List.map_nil, hs, hx, hr]
    exact hK _ _ (h w1 hrow (HB.grown hg hbase (own_base hown)) hg)
  have hbl : (bytesOf y).length = y.size := bytesOf_length y
  rcases Nat.eq_zero_or_pos y.size with h0 | hp
  · obtain ⟨A', c', hv⟩ := own_slice hown
    refine fin W ?_ ?_ (World.grownBy.refl W _)
    · have hiss : ((P.info? e).map (·.size)).isSome = true := by rw [hinfo]; rfl
      rw [hv, h0]
      exact Lib.run_copy_empty_string W t t' o.type e A' xs.length c' y ht hiss h0
    · have : bytesOf y = [] := List.eq_nil_of_length_eq_zero (by omega)
      rw [this, h0, List.drop_zero, List.nil_append]; exact HO
  · rcases hown.2 with ⟨_, hx0⟩ | ⟨g, cap, cur, hv, hb, hh, hnc, hcm, hcs, htake⟩
    · omega
    have hcs1 : cur.size = cap := by omega
    have hr := Lib.run_copy_row_string (P := P) W t t' o.type e g 0 xs.length cap y cur e ht hinfo hh hfit (by omega)
    have hln : (bytesOf y ++ xs.drop y.size).length = xs.length := by
      rw [List.length_append, List.length_drop]; omega
    have hbc : Lib.byteCells y.data.toList = encs (Value.int .u8) (bytesOf y) := by
      simp [Lib.byteCells, encs, bytesOf, List.map_map]
    refine fin _ (by rw [hv]; exact hr) (Kd.R_of_own ?_ HO.1) ?_
    · rw [hln]
      refine ⟨by rw [encs_length, hln, Nat.mul_one], .inr ⟨g, cap, _, hv, hb, setRow_heap W g cur _ e (0, 0) hh, hnc, hcm, ?_, ?_⟩⟩
      · have hcl : cur.toList.length = cap := by simpa using hcs1
        simp only [List.size_toArray, List.length_append, List.length_take, List.length_drop, Lib.byteCells_length]
        have : y.data.toList.length = y.size := by simp
        omega
      · have htk : cur.toList.take xs.length = encs (Value.int .u8) xs := by rw [← htake, Nat.mul_one]
        have hcl : cur.toList.length = cap := by simpa using hcs1
        simp only [Nat.mul_one, Nat.zero_add, List.take_zero, List.nil_append]
        rw [hbc, encs_append, List.take_append, List.take_of_length_le (by rw [encs_length, hbl]; omega)]
        congr 1
        have hd : encs (Value.int .u8) (xs.drop y.size) = (encs (Value.int .u8) xs).drop y.size := by simp [encs, List.map_drop]
        rw [hd, ← htk, List.drop_take, encs_length, hbl]
    · exact ⟨rfl, rfl, rfl, by rw [size_setRow]; exact Nat.le_refl _, fun k _ hk => setRow_other _ _ _ _ (fun he => hk (by rw [hv, he]; simp [Value.ownBlock]))⟩
end
end Go.Proofs.YthjljkdiglpbaaaDoor.Hand
