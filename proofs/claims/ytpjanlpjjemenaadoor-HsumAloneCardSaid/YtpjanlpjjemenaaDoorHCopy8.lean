/- A copy of eight bytes into the place 148 of a row of one's own, as one step of a region that draws its order. -/
import Derived.Test.YtpjanlpjjemenaaDoorF0base
import Derived.Laws.CopyOwn
import Derived.Test.YtpjanlpjjemenaaDoorHWords
namespace Go.Proofs.YtpjanlpjjemenaaDoor.Hand
open Go.RowKit Go.Proofs.YtpjanlpjjemenaaDoorW.PrintWords Go.Proofs.YtpjanlpjjemenaaDoorW.PrintLast Go.Proofs.YtpjanlpjjemenaaDoorW.PrintMore
set_option linter.unusedVariables false
set_option linter.unusedSimpArgs false

/-- Bytes with eight other ones at the place 148. -/
def mid8 (a b : List Int) : List Int := a.take 148 ++ b ++ a.drop 156
theorem mid8_len (a b : List Int) (ha : 156 ≤ a.length) (hb : b.length = 8) : (mid8 a b).length = a.length := by
  unfold mid8; simp only [List.length_append, List.length_take, List.length_drop, hb]; omega
theorem take_mid (L : List Value) (xs ys : List Int) (n : Nat) (hn : xs.length = n) (h156 : 156 ≤ n) (h8 : ys.length = 8) (hL : L.take n = xs.map (Value.int .u8)) :
    (L.take 148 ++ (ys.map (Value.int .u8)) ++ L.drop (148 + (ys.map (Value.int .u8)).length)).take n = (mid8 xs ys).map (Value.int .u8) := by
  obtain ⟨T, rfl⟩ : ∃ T, L = xs.map (Value.int .u8) ++ T := ⟨L.drop n, by rw [← hL, List.take_append_drop]⟩
  have hx : (xs.map (Value.int .u8)).length = n := by rw [List.length_map, hn]
  have hc : (ys.map (Value.int .u8)).length = 8 := by rw [List.length_map, h8]
  unfold mid8
  rw [hc, List.take_append_of_le_length (i := 148) (by omega), List.drop_append_of_le_length (by omega), List.map_append, List.map_append, List.map_take, List.map_drop]
  rw [← List.append_assoc]
  exact List.take_left' (by simp only [List.length_append, List.length_take, List.length_drop, hx, hc]; omega)
theorem map_at' (l : List Int) (j : Nat) (v : Value) (h : (l.map (Value.int .u8))[j]? = some v) : Value.int .u8 (l.getD j 0) = v := by
  rw [List.getElem?_map] at h
  cases hx : l[j]? with
  | none => rw [hx] at h; cases h
  | some x => rw [hx] at h; rw [List.getD_eq_getElem?_getD, hx]; simpa using h
theorem grown_setRow (w : World) (g : Nat) (cs : Array Value) : w.grownBy (w.setRow g cs) (some g) :=
  ⟨rfl, rfl, rfl, by simp [World.setRow], fun k hk hne => setRow_other w g k cs (fun e => hne (by rw [e]))⟩

set_option maxHeartbeats 2000000 in
theorem copy_mid_step {ops : Array Oper} {o : Oper} {a : Act} {w : World} {K : Act → World → Prop} {Q : Exit → Act → World → Prop} {E : Prop} (hgd : o.guard = none) (d s : Operand)
    (ho : o.op = .call { callee := .builtin .copy, args := #[d, s], argTypes := #[22, 22] })
    (g cap n : Nat) (xs ys : List Int) (A' : Option Addr) (c' n' : Nat) (base : Nat) (ok : Nat → Prop) (dp : Option Addr) (dl dc : Nat)
    (hR : Kd.R (Kd.int .u8) 5 w base ok (.slice (some ⟨g, 0, none⟩) n cap) xs) (hn : 156 ≤ n)
    (hd : a.eval d = .slice dp dl dc) (hdp : dp = some ⟨g, 148, none⟩) (hdl : dl = 8)
    (hs : a.eval s = .slice A' n' c') (hS : Kd.C (Kd.int .u8) w A' n' ys) (hn' : n' = 8) (hys : ys.length = 8)
    (h : ∀ w', w.grownBy w' (some g) → Kd.R (Kd.int .u8) 5 w' base ok (.slice (some ⟨g, 0, none⟩) n cap) (mid8 xs ys) → K (a.put o.dst (.int .i64 8)) w') :
    if Region.wanted o (yielded ops a.tmps) = true then Oper.wp Tryd.prog o a w K Q else E := by
  subst hdp hdl hn'
  have hlen : xs.length = n := (Kd.R_reads' hR).1.symm
  have hown : w.ownsRow base 5 1 (.slice (some ⟨g, 0, none⟩) n cap) xs.length (xs.map (Value.int .u8)) := Kd.own_of_R (enc := Value.int .u8) (h1 := fun _ => rfl) hR
  rcases hown.2 with ⟨e, _⟩ | ⟨g1, cap1, cur, e, hge, hgh, hnc, hcm, hcs, htk⟩
  · cases e
  cases e
  rw [Nat.mul_one] at hcs htk
  have hcl : (ys.map (Value.int .u8)).length = 8 := by rw [List.length_map, hys]
  obtain ⟨_, _, hcl3⟩ := Kd.reads_of_C (enc := Value.int .u8) (d := 0) (h1 := fun _ => rfl) hS
  obtain ⟨ad, e, hcell⟩ := hcl3 (by omega)
  subst e
  have hsrc : ∀ j v, (ys.map (Value.int .u8))[j]? = some v → w.cell? (ad.add j) = some v := fun j v hj => by
    have hjl : j < 8 := by
      rcases Nat.lt_or_ge j 8 with h | h
      · exact h
      · rw [List.getElem?_eq_none (by rw [hcl]; exact h)] at hj; cases hj
    rw [hcell j hjl, map_at' _ j v hj]
  have hw : Region.wanted o (yielded ops a.tmps) = true := by simp [Region.wanted, hgd]
  rw [if_pos hw]
  have hrun := run_copy_row (P := Tryd.prog) w 22 22 o.type 5 g 148 8 dc ad 8 c' cur 5 (ys.map (Value.int .u8)) Tryd.underlying22 (by kernel_rfl) hgh (by rw [hcl]; rfl) hsrc (by rw [hcl, hcs]; omega) (by intro v hv; obtain ⟨x, _, rfl⟩ := List.mem_map.1 hv; rfl)
  unfold Oper.wp
  simp [execOp, ho, resolve, invoke, builtin, hd, hs, hrun, Result.andThen, hys]
  have hfin := h _ (grown_setRow w g (cur.toList.take 148 ++ (ys.map (Value.int .u8)) ++ cur.toList.drop (148 + (ys.map (Value.int .u8)).length)).toArray) (Kd.R_of_own (enc := Value.int .u8) (h1 := fun _ => rfl) ?_ hR.1)
  · have hfin' : K (a.put o.dst (Value.int IntKind.i64 8)) (w.setRow g (List.take 148 cur.toList ++ (List.map (Value.int IntKind.u8) ys ++ List.drop 156 cur.toList)).toArray) := by simpa [hcl, hys, goInt] using hfin
    exact hfin'
  · have hm : (mid8 xs ys).length = xs.length := mid8_len xs ys (by omega) hys
    rw [hm]
    refine ⟨by rw [encs_length, hm, Nat.mul_one], .inr ⟨g, cap, _, rfl, hge, setRow_heap w g _ _ _ _ hgh, by omega, hcm, ?_, ?_⟩⟩
    · rw [Nat.mul_one, List.size_toArray, List.length_append, List.length_append, List.length_take, List.length_drop, hcl, Array.length_toList]; omega
    · rw [Nat.mul_one]
      rw [hcl]
      have := take_mid cur.toList xs ys xs.length rfl hn hys htk
      rw [hcl] at this
      exact this
end Go.Proofs.YtpjanlpjjemenaaDoor.Hand
