/- The statement of HsumAlone for every input, out of its pure statement and the walk. Two slices in an array are opened one by one. -/
import Derived.Test.YtpjanlpjjemenaaDoorRows
import Derived.Test.YtpjanlpjjemenaaDoorF7
import Derived.Test.YtpjanlpjjemenaaDoorPureHsumAlone
import Derived.Test.YtpjanlpjjemenaaDoorCards
import Derived.Test.YtpjanlpjjemenaaDoorTie
import Derived.WalkKit
import Derived.ProofKit
import Derived.OpenShut
import Derived.ShutString
import Derived.ChangeOld
import Derived.Below
import Derived.SizedLaws
import Derived.LaidMore
import Derived.Lay
import Derived.SevenTiedAt
import Derived.Stop.Joined
import Derived.Test.YtpjanlpjjemenaaDoorWSized
namespace Go.Proofs.YtpjanlpjjemenaaDoor.hsumAlone
open Go Go.ChangeShapes Go.WideShapes Go.ChangeAt Go.RowKit
open Go.ChangeMaps (open_string shut_string)
open Go.Proofs.YtpjanlpjjemenaaDoorW
set_option linter.unusedVariables false
theorem own : ownKnob Tryd.prog.godebug = none := by kernel_rfl
theorem laidOut : laidOutB Tryd.prog = true := by kernel_rfl
def IsRow (k : IntKind) (w : World) (a : Option Addr) (len cap : Nat) (zs : List Int) : Prop :=
  (a = none ∧ len = 0 ∧ cap = 0 ∧ zs = []) ∨
  ∃ x, a = some x ∧ len ≤ cap ∧ cap ≤ maxLen ∧ zs.length = cap ∧ (∀ i, i < zs.length → w.cell? (x.add i) = some (.int k (zs.getD i 0))) ∧ ∀ n ∈ zs, (Lit.int k n).wf = true
theorem okWide_two {P : Program} {W : World} {r : Reach} {base : Nat} {t e : TypeId} {v : Value} (ht : P.underlying t = some (.array 2 e)) (hc : P.cellsOf t = 2) (h : Value.okWide P W r base t v) : ∃ c0 c1, v = .agg #[c0, c1] := by
  simp only [Value.okWide, ht] at h
  obtain ⟨cs, h1, h2, _⟩ := h
  rw [hc] at h2
  subst h1
  obtain ⟨l⟩ := cs
  match l, h2 with
  | [c0, c1], _ => exact ⟨c0, c1, rfl⟩
theorem trod_two {H : Type} {enc : TypeId × Value → H} {P : Program} {w : World} {base : Nat} {spare : Nat → Bool} {held : Bool} {t e : TypeId} {fuel : Nat} {c0 c1 : Value} {x : DataW H × List MemPlace} (ht : P.underlying t = some (.array 2 e)) (hce : P.cellsOf e = 1)
    (h : DataW.trod enc P w base spare held fuel t (Value.agg #[c0, c1]).cells.toList = some x) :
    ∃ y0 y1 n, DataW.trod enc P w base spare held n e [c0] = some y0 ∧ DataW.trod enc P w base spare held n e [c1] = some y1 := by
  cases fuel with
  | zero => simp [DataW.trod] at h
  | succ n =>
    unfold DataW.trod at h
    rw [ht] at h
    have r2 : List.range 2 = [0, 1] := rfl
    simp [r2, hce, Value.cells] at h
    obtain ⟨_, h⟩ := h
    cases h0 : DataW.trod enc P w base spare held n e [c0] with
    | none => simp [h0] at h
    | some y0 =>
      cases h1 : DataW.trod enc P w base spare held n e [c1] with
      | none => simp [h0, h1] at h
      | some y1 => exact ⟨y0, y1, n, h0, h1⟩
theorem open_row {H : Type} {enc : TypeId × Value → H} {w : World} {fuel : Nat} {c : Value} {x : DataW H × List MemPlace} (h : DataW.trod enc Tryd.prog w 0 (fun _ => true) true fuel 22 [c] = some x) :
    ∃ (b : Option Addr) (len cap : Nat) (z : List Int), c = .slice b len cap ∧ IsRow .u8 w b len cap z := by
  rcases open_ints Tryd.underlying22 Tryd.underlying5 (by kernel_rfl) h with ⟨hcs, _⟩ | ⟨x, l, c, zs, hcs, _, hl, hm, hz, _, hcell, hwz⟩
  · exact ⟨none, 0, 0, [], by simpa using hcs, .inl ⟨rfl, rfl, rfl, rfl⟩⟩
  · exact ⟨some x, l, c, zs, by simpa using hcs, .inr ⟨_, rfl, hl, hm, by simpa using hz, hcell, hwz⟩⟩
theorem walk (b0 : Option Addr) (len0 cap0 : Nat) (z0 : List Int) (b1 : Option Addr) (len1 cap1 : Nat) (z1 : List Int) (a1 a2 : Int) (w : World) (w0 : IsRow .u8 w b0 len0 cap0 z0) (w1 : IsRow .u8 w b1 len1 cap1 z1) (wa : (Lit.int .u16 a1).wf = true) (wb : (Lit.int .u8 a2).wf = true) :
    Calls Tryd.prog 7 #[.agg #[.slice b0 len0 cap0, .slice b1 len1 cap1], .int .u16 a1, .int .u8 a2] w fun e w' => e = .returned (.bool true) ∧ Below w.heap.size w w' := by
  obtain ⟨l0, rfl, hr0, hm0, hw0, hc0⟩ := PrintWords.ReadsInt.ofRowC w0
  obtain ⟨l1, rfl, hr1, hm1, hw1, hc1⟩ := PrintWords.ReadsInt.ofRowC w1
  obtain ⟨k, h⟩ := Pure.HsumAlone l0 l1 a1 a2 hw0 hw1 wa wb
  refine (P.thwartlaw03_HsumAlone.calls k _ _ l0 _ _ l1 a1 a2 true ⟨rfl⟩ w (PrintWords.Kd.C_of_reads (d := (0 : Int)) (h1 := fun _ => rfl) hr0) hc0 (PrintWords.Kd.C_of_reads (d := (0 : Int)) (h1 := fun _ => rfl) hr1) hc1 h).mono ?_
  rintro e w' ⟨rfl, hd⟩
  exact ⟨rfl, hd⟩
set_option maxRecDepth 100000 in
theorem lifted (os : Os) (started : os.Started) (H : Type) (enc : TypeId × Value → H) :
    ReturnsInHanded {} Tryd.checked os 7 .any (fun w args => (Rows.hsumAloneSpec.pre enc Tryd.prog Tryd.f7 Rows.hsumAloneRow.domain false w args ∧ laidMetH Tryd.prog Rows.hsumAloneRow.laid w) ∧ sizedMet enc Tryd.prog Tryd.f7 (OpenSpec.ofChange Rows.hsumAloneSpec) false w args) (Rows.hsumAloneSpec.post enc Tryd.prog Tryd.f7 false true false false) := by
  refine returnsInHanded_of_change_and (C := Tryd.checked) (X := (fun w _ => laidMetH Tryd.prog Rows.hsumAloneRow.laid w)) (fun _ _ _ hh h => h.of_heap hh) own started (by kernel_rfl) Tryd.func7
    (ChangeSpec.witness_shaped (enc := enc) (C := Tryd.checked) (os := os) (X := (fun w _ => laidMetH Tryd.prog Rows.hsumAloneRow.laid w)) false (World.laidAll Tryd.prog os Rows.hsumAloneRow.laid) #[.agg #[.slice none 0 0, .slice none 0 0], .int .u16 0, .int .u8 0] 8 (World.laidAll_os _ _ _)
      (World.shaped_of_ZipB (by kernel_rfl) (by kernel_rfl)) (by kernel_rfl) (by kernel_rfl) (by kernel_rfl)
      (by rw [MakeChecks.laidMetH_plain _ _ _ (by kernel_rfl)]; exact laidMet_laidAll _ (by kernel_rfl) (by kernel_rfl))) ?_
  intro W base args ds gs before hval0 hW hcnd hsz0 hX _
  have hsz : (DataW.weightsEach Tryd.prog (Tryd.f7.params.toList ++ Rows.hsumAloneSpec.plain.varTypes Tryd.prog) (ds ++ gs)).all (· ≤ reachBytes) = true := hsz0
  have hval : ∀ (j : Nat) t v, Tryd.f7.params[j]? = some t → args[j]? = some v → Value.okWide Tryd.prog W .any base t v := hval0
  have hW' := hW
  obtain ⟨p, q, hA0, hV, rfl, hfz, hnd⟩ := hW
  have hA : DataW.TrodAll enc Tryd.prog W 0 (fun _ => true) true Tryd.f7.params.toList args.toList ds p := hA0
  rw [Tryd.params7] at hA hval hsz
  obtain ⟨v0, vs0, d0, ds0, p0, q0, hargs, rfl, rfl, h0, r0⟩ := trodAll_cons hA
  obtain ⟨v1, vs1, d1, ds1, p1, q1, rfl, rfl, rfl, h1, r1⟩ := trodAll_cons r0
  obtain ⟨v2, vs2, d2, ds2, p2, q2, rfl, rfl, rfl, h2, r2⟩ := trodAll_cons r1
  obtain ⟨rfl, rfl, rfl⟩ := trodAll_nil r2
  obtain rfl : args = #[v0, v1, v2] := by cases args; simp_all
  obtain ⟨rfl, rfl⟩ := trodVars_none hV
  obtain ⟨c0, c1, rfl⟩ := okWide_two (W := W) Tryd.underlying53 (by kernel_rfl) (hval 0 53 v0 rfl rfl)
  have k0 := h0
  have lt0 : ∀ x ∈ p0, x.block < W.heap.size := by obtain ⟨m, hm⟩ := k0; exact DataW.trod_lt m _ _ _ hm
  obtain ⟨b0, len0, cap0, z0, b1, len1, cap1, z1, rfl, rfl, w0, w0'⟩ : ∃ (b0 : Option Addr) (len0 cap0 : Nat) (z0 : List Int) (b1 : Option Addr) (len1 cap1 : Nat) (z1 : List Int), c0 = .slice b0 len0 cap0 ∧ c1 = .slice b1 len1 cap1 ∧ IsRow .u8 W b0 len0 cap0 z0 ∧ IsRow .u8 W b1 len1 cap1 z1 := by
    obtain ⟨fuel, hf⟩ := h0
    obtain ⟨y0, y1, n, e0, e1⟩ := trod_two Tryd.underlying53 (by kernel_rfl) hf
    obtain ⟨b0, len0, cap0, z0, r0, r1⟩ := open_row e0
    obtain ⟨b1, len1, cap1, z1, r2, r3⟩ := open_row e1
    exact ⟨b0, len0, cap0, z0, b1, len1, cap1, z1, r0, r2, r1, r3⟩
  obtain ⟨a1, rfl, rfl, rfl, w1⟩ := open_int Tryd.underlying51 (hval 1 51 v1 rfl rfl) h1
  obtain ⟨a2, rfl, rfl, rfl, w2⟩ := open_int Tryd.underlying5 (hval 2 5 v2 rfl rfl) h2
  clear hA0 hval0 hsz0 hsz
  refine (walk b0 len0 cap0 z0 b1 len1 cap1 z1 a1 a2 W w0 w0' w1 w2).mono fun e W' ⟨he, bel⟩ => ?_
  subst he
  exact ⟨_, rfl, _, _, _, [], _, [], hW', trodAll_mk1 (shut_bool Tryd.underlying4 _), (trodAll_cons_mk (Below.trod laidOut (by kernel_rfl) (of_decide_eq_true (by kernel_rfl)) k0 bel lt0) (trodAll_cons_mk (shut_int Tryd.underlying51 w1) (trodAll_cons_mk (shut_int Tryd.underlying5 w2) trodAll_mk0))), rfl, bel.frame _, fun h => by cases h⟩
theorem over : Rows.hsumAloneRow.holds Tryd.pinned (OpenSpec.ofChange Rows.hsumAloneSpec) :=
  OpenClaim.holds_of_wide 7 Tryd.f7 rfl rfl rfl rfl rfl rfl rfl ⟨rfl, rfl, rfl, rfl, rfl⟩ rfl rfl rfl rfl rfl (by kernel_rfl) Tryd.func7 (by kernel_rfl)
    (of_decide_eq_true (by kernel_rfl)) (by unfold Func.isWrapper; first | (rw [if_pos (by decide +kernel)]; kernel_rfl) | (rw [if_neg (by decide +kernel)]; exact ⟨rfl, rfl⟩))
    (fun os started H enc _ => lifted os started H enc)
theorem proved : Rows.HsumAloneSaid := over
theorem card_proved : Rows.HsumAloneCardSaid :=
  Claim7.holds_tied_plain_at .later [] [.data, .pinned] true (true, "9586ad4229cf304f817445bcc3f7c0c829154d5de364e8585e18b7e71aeb7e54") false proved (fun _ h => by cases h) (by kernel_rfl) (fun _ h => by cases h) hsumAlone_row_tie rfl ⟨rfl, rfl⟩ (by kernel_rfl) rfl
    (fun f fn hf hfn => by
      obtain rfl : f = 7 := Option.some.inj ((show Tryd.prog.funcNamed "thwart/thwartlaw03.HsumAlone" = some 7 by kernel_rfl).symm.trans hf) |>.symm
      obtain rfl : fn = Tryd.f7 := (Option.some.inj (Tryd.func7.symm.trans hfn)).symm
      exact ⟨by kernel_rfl, fun j t ht => by
        rw [Tryd.params7] at ht
        have hm : t ∈ [53, 51, 5] := by simpa using Array.mem_of_getElem? ht
        have hall : ([53, 51, 5].all fun u => !Tryd.prog.wantsStandIn u) = true := by kernel_rfl
        exact (show Tryd.prog.wantsStandIn t = false by simpa using List.all_eq_true.1 hall t hm)⟩)
    (by kernel_rfl)
#print axioms card_proved
end Go.Proofs.YtpjanlpjjemenaaDoor.hsumAlone
namespace Go.Proofs.YtpjanlpjjemenaaDoor
/-- The statement, under a short name, for the claim. -/
theorem hsumAlone_holds : Rows.HsumAloneCardSaid := hsumAlone.card_proved
end Go.Proofs.YtpjanlpjjemenaaDoor
