/- The contract, by hand, of strf.Split, in the printer's form. -/
import Derived.Test.YtpjanlpjjemenaaDoorHBytes
import Derived.Deep.LoopGhost
import Derived.WalkMore
namespace Go.Proofs.YtpjanlpjjemenaaDoor.Hand
open Go.RowKit Go.Proofs.YtpjanlpjjemenaaDoorW.PrintWords Go.Proofs.YtpjanlpjjemenaaDoorW.PrintLast Go.Proofs.YtpjanlpjjemenaaDoorW.PrintMore
set_option linter.unusedVariables false
set_option linter.unusedSimpArgs false

/-- The cut of a path, from a place on. -/
def splitLoop : Nat → ByteArray → Nat → Option (ByteArray × ByteArray × Bool)
  | 0, _, _ => none
  | k + 1, p, j =>
    if Lib.indexByte (p.extract j p.size).data.toList 47 < 0 then some (⟨#[]⟩, ⟨#[]⟩, false)
    else if 155 < (p.extract 0 (j + (Lib.indexByte (p.extract j p.size).data.toList 47).toNat)).size ∨ (p.extract (j + (Lib.indexByte (p.extract j p.size).data.toList 47).toNat + 1) p.size).toList = [] then some (⟨#[]⟩, ⟨#[]⟩, false)
    else if (p.extract 0 (j + (Lib.indexByte (p.extract j p.size).data.toList 47).toNat)).toList ≠ [] ∧ (p.extract (j + (Lib.indexByte (p.extract j p.size).data.toList 47).toNat + 1) p.size).size ≤ 100 then
      some (p.extract 0 (j + (Lib.indexByte (p.extract j p.size).data.toList 47).toNat), p.extract (j + (Lib.indexByte (p.extract j p.size).data.toList 47).toNat + 1) p.size, true)
    else splitLoop k p (j + (Lib.indexByte (p.extract j p.size).data.toList 47).toNat + 1)
def strf_Split.f (a0 : ByteArray) : Option (ByteArray × ByteArray × Bool) := if a0.toList ≠ [] ∧ a0.size ≤ 100 then some (⟨#[]⟩, a0, true) else if a0.size ≤ 4611686018427387904 then splitLoop (a0.size + 2) a0 0 else none

set_option maxHeartbeats 4000000 in
set_option maxRecDepth 100000 in
theorem strf_Split.calls0 (a0 r1 r2 : ByteArray) (r3 : Bool) (w : World) (h : strf_Split.f a0 = some (r1, r2, r3)) :
    Calls Tryd.prog 22 #[.string a0] w fun e w' => e = .returned (.tuple #[.string r1, .string r2, .bool r3]) ∧ Drawn0 w w' := by
  unfold strf_Split.f at h
  by_cases c : a0.toList ≠ [] ∧ a0.size ≤ 100
  · rw [if_pos c] at h
    obtain ⟨c1, c2⟩ := c
    simp only [Option.some.injEq, Prod.mk.injEq] at h
    obtain ⟨rfl, rfl, rfl⟩ := h
    have b1 : a0.toList.isEmpty = false := by simpa using c1
    have b2 : (!a0.toList.isEmpty) = true := by simpa using c1
    have b3 : decide ((a0.size : Int) ≤ 100) = true := decide_eq_true (by omega)
    go_enter Tryd.func22, Tryd.ntmps22
    go_wp2
    go_step3
    go_wp2
    rw [Exit.noGoto_ret]
    go_ret3
    exact ⟨rfl, Drawn0.refl _⟩
  · rw [if_neg c] at h
    by_cases hsm : a0.size ≤ 4611686018427387904
    case neg => rw [if_neg hsm] at h; cases h
    rw [if_pos hsm] at h
    have H := Aside0.mk h
    clear h
    have hcase : (a0.toList.isEmpty = true ∧ (!a0.toList.isEmpty) = false ∧ True) ∨ (a0.toList.isEmpty = false ∧ (!a0.toList.isEmpty) = true ∧ decide ((a0.size : Int) ≤ 100) = false) := by
      by_cases e : a0.toList = []
      · exact .inl ⟨by simp [e], by simp [e], trivial⟩
      · exact .inr ⟨by simpa using e, by simpa using e, decide_eq_false (fun h => c ⟨e, by omega⟩)⟩
    clear c
    rcases hcase with ⟨b1, b2, b3⟩ | ⟨b1, b2, b3⟩
    all_goals
      go_enter Tryd.func22, Tryd.ntmps22
      go_wp2
      go_step3
      go_wp2
      go_step3
      go_wp2
      go_loopg [5] (a0.size + 2) (fun kq v5 w' => ∃ j : Nat, v5 = .int .i64 j ∧ Aside0 (j ≤ a0.size) ∧ Aside0 (splitLoop kq a0 j = some (r1, r2, r3)) ∧ Aside0 (Drawn0 w w'))
      case atStart => exact ⟨0, rfl, ⟨Nat.zero_le _⟩, H, ⟨Drawn0.refl _⟩⟩
      case round =>
        clear H
        obtain ⟨j, rfl, hj, hs, hw⟩ := hrel
        cases gk with
        | zero => exact absurd hs.out (by simp [splitLoop])
        | succ k2 =>
          have hs1 := hs.out
          simp only [splitLoop] at hs1
          have hlt := indexByte_lt (a0.extract j a0.size).data.toList 47
          have hge := Lib.indexByte_ge (a0.extract j a0.size).data.toList 47
          have hj1 := hj.out
          have hsz : (a0.extract j a0.size).data.toList.length = a0.size - j := by
            rw [← Lib.size_eq, ByteArray.size_extract]; omega
          rw [hsz] at hlt
          have hidx := Aside0.mk (Tryd.strings_Index_one (a0.extract j a0.size) 47 wr)
          generalize Lib.indexByte (a0.extract j a0.size).data.toList 47 = i at *
          clear hsz
          by_cases h0 : i < 0
          · rw [if_pos h0] at hs1
            simp only [Option.some.injEq, Prod.mk.injEq] at hs1
            obtain ⟨rfl, rfl, rfl⟩ := hs1
            have d1 : decide (i < 0) = true := decide_eq_true h0
            go_wp2_with (go_at_call 65; (with_reducible refine (hidx.out).mono ?_); rintro e w2 ⟨rfl, rfl⟩)
            rw [Exit.noGoto_ret]
            go_ret3
            exact ⟨rfl, hw.out⟩
          · rw [if_neg h0] at hs1
            have d1 : decide (i < 0) = false := decide_eq_false h0
            obtain ⟨m, rfl⟩ := Int.eq_ofNat_of_zero_le (show 0 ≤ i by omega)
            rw [Int.toNat_natCast] at hs1
            have hw1 : IntKind.i64.wrap ((j : Int) + (m : Int)) = (j : Int) + (m : Int) := IntWalk.i64_in _ (by omega)
            go_wp2_with (go_at_call 65; (with_reducible refine (hidx.out).mono ?_); rintro e w2 ⟨rfl, rfl⟩)
            have p1 : (0 : Int) ≤ (j : Int) + (m : Int) := by omega
            have p2 : (j : Int) + (m : Int) ≤ (a0.size : Int) := by omega
            have p3 : (j : Int) + (m : Int) + 1 ≤ (a0.size : Int) := by omega
            have hw2 : IntKind.i64.wrap ((j : Int) + (m : Int) + 1) = (j : Int) + (m : Int) + 1 := IntWalk.i64_in _ (by omega)
            have t1 : ((j : Int) + (m : Int)).toNat = j + m := by omega
            have t2 : ((j : Int) + (m : Int) + 1).toNat = j + m + 1 := by omega
            go_quiet (fail)
            generalize a0.extract 0 (j + m) = pre at hs1 ⊢
            generalize a0.extract (j + m + 1) a0.size = nm at hs1 ⊢
            have hwd : Aside0 (Drawn0 w (w2.drewN nq)) := ⟨Drawn0.step hw.out _⟩
            clear hw t1 t2 hw1 hw2 p1 p2 hidx
            generalize w2.drewN nq = w3 at hwd ⊢
            by_cases e1 : 155 < pre.size
            · rw [if_pos (.inl e1)] at hs1
              simp only [Option.some.injEq, Prod.mk.injEq] at hs1
              obtain ⟨rfl, rfl, rfl⟩ := hs1
              have f1 : decide ((155 : Int) < (pre.size : Int)) = true := decide_eq_true (by omega)
              go_wp2
              rw [Exit.noGoto_ret]
              go_ret3
              exact ⟨rfl, hwd.out⟩
            have f1 : decide ((155 : Int) < (pre.size : Int)) = false := decide_eq_false (by omega)
            by_cases e2 : nm.toList = []
            · rw [if_pos (.inr e2)] at hs1
              simp only [Option.some.injEq, Prod.mk.injEq] at hs1
              obtain ⟨rfl, rfl, rfl⟩ := hs1
              have f2 : nm.toList.isEmpty = true := by simp [e2]
              go_wp2
              rw [Exit.noGoto_ret]
              go_ret3
              exact ⟨rfl, hwd.out⟩
            rw [if_neg (fun h => h.elim e1 e2)] at hs1
            have f2 : nm.toList.isEmpty = false := by simpa using e2
            have f3 : (!nm.toList.isEmpty) = true := by simp [f2]
            by_cases e3 : pre.toList = []
            · rw [if_neg (fun h => h.1 e3)] at hs1
              have hs2 := Aside0.mk hs1
              have f4 : pre.toList.isEmpty = true := by simp [e3]
              clear hs1 e2
              have hj2 : Aside0 (j + m + 1 ≤ a0.size) := ⟨by omega⟩
              go_wp2
              go_roundg k2
              case rel => exact ⟨j + m + 1, by push_cast; go_num, hj2, hs2, hwd⟩
              case measure => omega
            · have f4 : pre.toList.isEmpty = false := by simpa using e3
              have f5 : (!pre.toList.isEmpty) = true := by simp [f4]
              by_cases e4 : nm.size ≤ 100
              · rw [if_pos ⟨e3, e4⟩] at hs1
                simp only [Option.some.injEq, Prod.mk.injEq] at hs1
                obtain ⟨rfl, rfl, rfl⟩ := hs1
                have f6 : decide ((nm.size : Int) ≤ 100) = true := decide_eq_true (by omega)
                go_wp2
                rw [Exit.noGoto_ret]
                go_ret3
                exact ⟨rfl, hwd.out⟩
              · rw [if_neg (fun h => e4 h.2)] at hs1
                have hs2 := Aside0.mk hs1
                have f6 : decide ((nm.size : Int) ≤ 100) = false := decide_eq_false (by omega)
                clear hs1 e2
                have hj2 : Aside0 (j + m + 1 ≤ a0.size) := ⟨by omega⟩
                go_wp2
                go_roundg k2
                case rel => exact ⟨j + m + 1, by push_cast; go_num, hj2, hs2, hwd⟩
                case measure => omega
theorem strf_Split.calls (a0 r1 r2 : ByteArray) (r3 : Bool) (w : World) (h : strf_Split.f a0 = some (r1, r2, r3)) :
    Calls Tryd.prog 22 #[.string a0] w fun e w' => e = .returned (.tuple #[.string r1, .string r2, .bool r3]) ∧ Below w.heap.size w w' :=
  (strf_Split.calls0 a0 r1 r2 r3 w h).mono fun _ _ ⟨h1, h2⟩ => ⟨h1, h2.below⟩
end Go.Proofs.YtpjanlpjjemenaaDoor.Hand
