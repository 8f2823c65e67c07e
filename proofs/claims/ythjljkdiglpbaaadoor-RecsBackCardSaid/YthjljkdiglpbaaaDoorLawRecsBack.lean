/- The statement of RecsBack for every input, out of its pure statement and the printed walk. -/
import Derived.Test.YthjljkdiglpbaaaDoorRows
import Derived.Test.YthjljkdiglpbaaaDoorF5
import Derived.Test.YthjljkdiglpbaaaDoorKRecsBack
import Derived.Test.YthjljkdiglpbaaaDoorPureRecsBack
import Derived.Test.YthjljkdiglpbaaaDoorHOpen
import Derived.Test.YthjljkdiglpbaaaDoorCards
import Derived.Test.YthjljkdiglpbaaaDoorTie
import Derived.Test.YthjljkdiglpbaaaDoorHTab
import Derived.WalkKit
import Derived.ProofKit
import Derived.OpenShut
import Derived.ShutString
import Derived.ChangeOld
import Derived.Below
import Derived.SizedLaws
import Derived.LaidMore
import Derived.Lay
import Derived.SevenTiedAt
import Derived.Stop.Joined
import Derived.Test.YthjljkdiglpbaaaDoorWSized
namespace Go.Proofs.YthjljkdiglpbaaaDoor.recsBack
open Go Go.ChangeShapes Go.WideShapes Go.ChangeAt Go.RowKit Go.Proofs.YthjljkdiglpbaaaDoorW.PrintWords
open Go.ChangeMaps (open_string shut_string)
set_option linter.unusedVariables false
set_option linter.unusedSimpArgs false
theorem own : ownKnob Tryd.prog.godebug = none := by kernel_rfl
theorem laidOut : laidOutB Tryd.prog = true := by kernel_rfl
set_option maxRecDepth 100000 in
theorem lifted (os : Os) (started : os.Started) (H : Type) (enc : TypeId × Value → H) :
    ReturnsInHanded {} Tryd.checked os 5 .any (fun w args => (Rows.recsBackSpec.pre enc Tryd.prog Tryd.f5 Rows.recsBackRow.domain false w args ∧ laidMetH Tryd.prog Rows.recsBackRow.laid w) ∧ sizedMet enc Tryd.prog Tryd.f5 (OpenSpec.ofChange Rows.recsBackSpec) false w args) (Rows.recsBackSpec.post enc Tryd.prog Tryd.f5 false true false false) := by
  refine returnsInHanded_of_change_and (C := Tryd.checked) (X := (fun w _ => laidMetH Tryd.prog Rows.recsBackRow.laid w)) (fun _ _ _ hh h => h.of_heap hh) own started (by kernel_rfl) Tryd.func5
    (ChangeSpec.witness_shaped (enc := enc) (C := Tryd.checked) (os := os) (X := (fun w _ => laidMetH Tryd.prog Rows.recsBackRow.laid w)) false (World.laidAll Tryd.prog os Rows.recsBackRow.laid) #[.slice none 0 0, .slice none 0 0] 8 (World.laidAll_os _ _ _)
      (World.shaped_of_ZipB (by kernel_rfl) (by kernel_rfl)) (by kernel_rfl) (by kernel_rfl) (by kernel_rfl)
      (by rw [MakeChecks.laidMetH_plain _ _ _ (by kernel_rfl)]; exact laidMet_laidAll _ (by kernel_rfl) (by kernel_rfl))) ?_
  intro W base args ds gs before hval0 hW hcnd hsz0 hX _
  have htab : Aside0 (Hand.TabOk W) := ⟨Hand.tab_of_laid hX (by rfl)⟩
  have hsz : (DataW.weightsEach Tryd.prog (Tryd.f5.params.toList ++ Rows.recsBackSpec.plain.varTypes Tryd.prog) (ds ++ gs)).all (· ≤ reachBytes) = true := hsz0
  have hval : ∀ (j : Nat) t v, Tryd.f5.params[j]? = some t → args[j]? = some v → Value.okWide Tryd.prog W .any base t v := hval0
  have hW' := hW
  obtain ⟨p, q, hA0, hV, rfl, hfz, hnd⟩ := hW
  have hA : DataW.TrodAll enc Tryd.prog W 0 (fun _ => true) true Tryd.f5.params.toList args.toList ds p := hA0
  rw [Tryd.params5] at hA hval hsz
  obtain ⟨v0, vs0, d0, ds0, p0, q0, hargs, rfl, rfl, h0, r0⟩ := trodAll_cons hA
  obtain ⟨v1, vs1, d1, ds1, p1, q1, rfl, rfl, rfl, h1, r1⟩ := trodAll_cons r0
  obtain ⟨rfl, rfl, rfl⟩ := trodAll_nil r1
  obtain rfl : args = #[v0, v1] := by cases args; simp_all
  obtain ⟨rfl, rfl⟩ := trodVars_none hV
  obtain ⟨a0, len0, cap0, rfl⟩ := okWide_slice Tryd.underlying28 (hval 0 28 v0 rfl rfl)
  have k0 := h0
  have lt0 : ∀ x ∈ p0, x.block < W.heap.size := by obtain ⟨m, hm⟩ := k0; exact DataW.trod_lt m _ _ _ hm
  obtain ⟨l0, rfl, hc0, hm0, hr0, hw0⟩ : ∃ l : List P.S43, len0 = l.length ∧ l.length ≤ cap0 ∧ l.length ≤ 9223372036854775807 ∧ Kd.C P.k43 W a0 l.length l ∧ (∀ x ∈ l, (x.f0.size ≤ 9223372036854775807) ∧ (x.f1.size ≤ 9223372036854775807)) := by
    obtain ⟨fuel, hf⟩ := h0
    obtain ⟨A, c, l, he, x1, x2, x3, x4⟩ := Open.row Tryd.underlying28 (Open.iso (Open.struct (d := (Kd.pair Kd.string Kd.string)) Tryd.underlying43 (by kernel_rfl) (show Open.Part _ _ 0 ([_] ++ ([_])) _ from (Open.part_pair (Open.part_one (Open.string Tryd.underlying9 (by kernel_rfl)) rfl) (Open.part_one (Open.string Tryd.underlying9 (by kernel_rfl)) rfl)))) (fun x : P.S43 => (x.f0, x.f1)) (fun p => ⟨p.1, p.2⟩) (fun _ => rfl)) hf
    simp [Value.cells] at he
    obtain ⟨rfl, rfl, rfl⟩ := he
    exact ⟨l, rfl, x1, x2, x3, x4⟩
  obtain ⟨a1, len1, cap1, rfl⟩ := okWide_slice Tryd.underlying22 (hval 1 22 v1 rfl rfl)
  have k1 := h1
  have lt1 : ∀ x ∈ p1, x.block < W.heap.size := by obtain ⟨m, hm⟩ := k1; exact DataW.trod_lt m _ _ _ hm
  obtain ⟨l1, rfl, hc1, hm1, hr1, hw1⟩ : ∃ l : List Int, len1 = l.length ∧ l.length ≤ cap1 ∧ l.length ≤ 9223372036854775807 ∧ Kd.C (Kd.int .u8) W a1 l.length l ∧ (∀ x ∈ l, (Lit.int .u8 x).wf = true) := by
    obtain ⟨fuel, hf⟩ := h1
    obtain ⟨A, c, l, he, x1, x2, x3, x4⟩ := Open.row Tryd.underlying22 (Open.int Tryd.underlying5 (by kernel_rfl)) hf
    simp [Value.cells] at he
    obtain ⟨rfl, rfl, rfl⟩ := he
    exact ⟨l, rfl, x1, x2, x3, x4⟩
  clear hA0 hval0 hsz0 hsz
  obtain ⟨k, hk⟩ := Pure.RecsBack l0 l1 hm0 hw0 hm1 hw1
  refine (P.thwartlaw06_RecsBack.calls k a0 cap0 l0 a1 cap1 l1 true W htab hr0 hc0 hr1 hc1 hk).mono fun e W' ⟨he, bel⟩ => ?_
  subst he
  exact ⟨_, rfl, _, _, _, [], _, [], hW', trodAll_mk1 (shut_bool Tryd.underlying4 _), (trodAll_cons_mk (Below.trod laidOut (by kernel_rfl) (of_decide_eq_true (by kernel_rfl)) k0 bel lt0) (trodAll_cons_mk (Below.trod laidOut (by kernel_rfl) (of_decide_eq_true (by kernel_rfl)) k1 bel lt1) trodAll_mk0)), rfl, bel.frame _, fun h => by cases h⟩
theorem over : Rows.recsBackRow.holds Tryd.pinned (OpenSpec.ofChange Rows.recsBackSpec) :=
  OpenClaim.holds_of_wide 5 Tryd.f5 rfl rfl rfl rfl rfl rfl rfl ⟨rfl, rfl, rfl, rfl, rfl⟩ rfl rfl rfl rfl rfl (by kernel_rfl) Tryd.func5 (by kernel_rfl)
    (of_decide_eq_true (by kernel_rfl)) (by unfold Func.isWrapper; first | (rw [if_pos (by decide +kernel)]; kernel_rfl) | (rw [if_neg (by decide +kernel)]; exact ⟨rfl, rfl⟩))
    (fun os started H enc _ => lifted os started H enc)
theorem proved : Rows.RecsBackSaid := over
theorem card_proved : Rows.RecsBackCardSaid :=
  Claim7.holds_tied_plain_at .later [] [.data, .data, .data] true (true, "4736eb45092c931fc3f01c3f33e8d27b2de14d841cfc6fc2c5de26f593404c56") false proved (fun _ h => by cases h) (by kernel_rfl) (fun _ h => by cases h) recsBack_row_tie rfl ⟨rfl, rfl⟩ (by kernel_rfl) rfl
    (fun f fn hf hfn => by
      obtain rfl : f = 5 := Option.some.inj ((show Tryd.prog.funcNamed "thwart/thwartlaw06.RecsBack" = some 5 by kernel_rfl).symm.trans hf) |>.symm
      obtain rfl : fn = Tryd.f5 := (Option.some.inj (Tryd.func5.symm.trans hfn)).symm
      exact ⟨by kernel_rfl, fun j t ht => by
        rw [Tryd.params5] at ht
        have hm : t ∈ [28, 22] := by simpa using Array.mem_of_getElem? ht
        have hall : ([28, 22].all fun u => !Tryd.prog.wantsStandIn u) = true := by kernel_rfl
        exact (show Tryd.prog.wantsStandIn t = false by simpa using List.all_eq_true.1 hall t hm)⟩)
    (by kernel_rfl)
#print axioms card_proved
end Go.Proofs.YthjljkdiglpbaaaDoor.recsBack
namespace Go.Proofs.YthjljkdiglpbaaaDoor
/-- The statement, under a short name, for the claim. -/
theorem recsBack_holds : Rows.RecsBackCardSaid := recsBack.card_proved
end Go.Proofs.YthjljkdiglpbaaaDoor
