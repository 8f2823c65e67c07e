/- Contracts, by hand, of small functions of package strings at separators of one byte, and of package strf, in the printer's form. -/
import Derived.Test.YthjljkdiglpbaaaDoorProg
import Derived.Test.YthjljkdiglpbaaaDoorShelf
import Derived.Test.YthjljkdiglpbaaaDoorHWords
import Derived.Tactics
import Derived.WalkKit
import Derived.KernelRfl
import Derived.RowKit3
import Derived.Outline
namespace Go.Proofs.YthjljkdiglpbaaaDoor.Hand
open Go.RowKit Go.Proofs.YthjljkdiglpbaaaDoorW.PrintWords Go.Proofs.YthjljkdiglpbaaaDoorW.PrintLast Go.Proofs.YthjljkdiglpbaaaDoorW.PrintMore
set_option linter.unusedVariables false
set_option linter.unusedSimpArgs false

theorem info_u8 : (Tryd.prog.info? 5).map (fun i => (i.zero, i.size, i.bytes)) = some (some (.int .u8 0), 1, 1) := by kernel_rfl

theorem str_one (s : ByteArray) (c : UInt8) (h : s.data.toList = [c]) : s = ⟨#[c]⟩ := by
  obtain ⟨⟨l⟩⟩ := s
  simp at h
  rw [h]

/-- strings.Contains at a text of one byte. -/
def strings_Contains.f (a0 a1 : ByteArray) : Option Bool := match a1.data.toList with | [c] => some (decide (0 ≤ Lib.indexByte a0.data.toList c)) | _ => none
theorem strings_Contains.calls (a0 a1 : ByteArray) (r : Bool) (w : World) (h : strings_Contains.f a0 a1 = some r) :
    Calls Tryd.prog 97 #[.string a0, .string a1] w fun e w' => e = .returned (.bool r) ∧ Drawn0 w w' := by
  unfold strings_Contains.f at h
  split at h
  · rename_i c hc
    obtain rfl := str_one a1 c hc
    refine (Tryd.strings_Contains_one a0 c w).mono ?_
    rintro e w' ⟨rfl, rfl⟩
    cases h
    exact ⟨rfl, Drawn0.refl _⟩
  · cases h

/-- strf.Put. -/
def strf_Put.f (a0 : ByteArray) (a1 : Int) : Option (List Int × Int) :=
  if a1 < 1 then some ([], 1) else if 512 < a1 then some ([], 1) else if 0 ≤ Lib.indexByte a0.data.toList 0 then some ([], 3)
  else if a1 < (a0.size : Int) then some ([], 10) else some (bytesOf a0 ++ (List.replicate a1.toNat 0).drop a0.size, 0)
set_option maxHeartbeats 1000000 in
set_option maxRecDepth 100000 in
theorem strf_Put.calls (a0 : ByteArray) (a1 : Int) (r1 : List Int) (r2 : Int) (w : World) (h : strf_Put.f a0 a1 = some (r1, r2)) :
    Calls Tryd.prog 76 #[.string a0, .int .i64 a1] w fun e w' => ∃ v0_ : Value, e = .returned (.tuple #[v0_, .int .i64 r2]) ∧ Kd.R (Kd.int .u8) 5 w' w.heap.size (fun _ => True) v0_ r1 ∧ Below w.heap.size w w' := by
  unfold strf_Put.f at h
  by_cases c1 : a1 < 1
  · rw [if_pos c1] at h
    simp only [Option.some.injEq, Prod.mk.injEq] at h
    obtain ⟨rfl, rfl⟩ := h
    have b1 : decide (a1 < 1) = true := decide_eq_true c1
    go_enter Tryd.func76, Tryd.ntmps76
    go_wp2
    go_ret2
    exact ⟨_, rfl, Kd.R_nil _ _ _ _ _, Below.refl _ _⟩
  rw [if_neg c1] at h
  have b1 : decide (a1 < 1) = false := decide_eq_false c1
  by_cases c2 : 512 < a1
  · rw [if_pos c2] at h
    simp only [Option.some.injEq, Prod.mk.injEq] at h
    obtain ⟨rfl, rfl⟩ := h
    have b2 : decide (512 < a1) = true := decide_eq_true c2
    go_enter Tryd.func76, Tryd.ntmps76
    go_wp2
    go_ret2
    exact ⟨_, rfl, Kd.R_nil _ _ _ _ _, Below.refl _ _⟩
  rw [if_neg c2] at h
  have b2 : decide (512 < a1) = false := decide_eq_false c2
  by_cases c3 : 0 ≤ Lib.indexByte a0.data.toList 0
  · rw [if_pos c3] at h
    simp only [Option.some.injEq, Prod.mk.injEq] at h
    obtain ⟨rfl, rfl⟩ := h
    have hc : strings_Contains.f a0 ⟨#[0]⟩ = some true := by simp [strings_Contains.f, c3]
    clear c3
    go_enter Tryd.func76, Tryd.ntmps76
    go_wp2_with (go_at_call 97; (with_reducible refine (strings_Contains.calls a0 _ true _ hc).mono ?_); rintro e w' ⟨rfl, ⟨nd, rfl⟩⟩)
    go_ret2
    exact ⟨_, rfl, Kd.R_nil _ _ _ _ _, pw_below_drewN (Below.refl _ _) _⟩
  rw [if_neg c3] at h
  have hc : strings_Contains.f a0 ⟨#[0]⟩ = some false := by simp [strings_Contains.f, c3]
  have HC := Aside0.mk hc
  clear c3 hc
  by_cases c4 : a1 < (a0.size : Int)
  · rw [if_pos c4] at h
    simp only [Option.some.injEq, Prod.mk.injEq] at h
    obtain ⟨rfl, rfl⟩ := h
    have b4 : decide (a1 < (a0.size : Int)) = true := decide_eq_true c4
    go_enter Tryd.func76, Tryd.ntmps76
    go_wp2_with (go_at_call 97; (with_reducible refine (strings_Contains.calls a0 _ false _ HC.out).mono ?_); rintro e w' ⟨rfl, ⟨nd, rfl⟩⟩)
    go_ret2
    exact ⟨_, rfl, Kd.R_nil _ _ _ _ _, pw_below_drewN (Below.refl _ _) _⟩
  rw [if_neg c4] at h
  have b4 : decide (a1 < (a0.size : Int)) = false := decide_eq_false c4
  simp only [Option.some.injEq, Prod.mk.injEq] at h
  obtain ⟨hr, rfl⟩ := h
  have HR := Aside0.mk hr
  clear hr
  have HB := Aside0.mk (Below.refl w.heap.size w)
  have h0 : 0 ≤ a1 := by omega
  have hle : a1.toNat ≤ 281474976710656 := by omega
  have hfit : a0.size ≤ a1.toNat := by omega
  go_enter Tryd.func76, Tryd.ntmps76
  go_wp2_with (first
    | (go_at_call 97; (with_reducible refine (strings_Contains.calls a0 _ false _ HC.out).mono ?_); rintro e w' ⟨rfl, ⟨nd, rfl⟩⟩)
    | ((with_reducible refine gate_dst (N := 23) rfl ?_); refine Kd.R_make (Kd.int .u8) _ 5 rfl (N := 23) rfl 22 _ _ rfl a1 rfl rfl Tryd.underlying22 (.int .u8 0) 1 info_u8 rfl (by decide) (by omega) 0 (ok := fun _ => True) (okp := fun _ => True) rfl (fun _ hk => hk) trivial h0 (by omega) (Below.refl _ _) (Nat.le_refl _) ?_
       intro v1 w2 ho hb hg_ hnew_; clear hg_ hnew_
       obtain ⟨A1, k1, e1⟩ := Kd.R_slice ho; rw [List.length_replicate] at e1; subst e1
       have hb0 := below_step (pw_below_drewN HB.out _) hb
       have HO := Aside0.mk (Kd.R_lower ho (below_size (pw_below_drewN HB.out _)))
       have HB2 := Aside0.mk hb0
       clear ho hb hb0)
    | ((with_reducible refine gate_dst (N := 26) rfl ?_); refine R_copy_str (w0 := w) w.heap.size rfl _ _ 22 9 5 rfl Tryd.underlying22 (by kernel_rfl) _ (List.replicate a1.toNat 0) a0 _ rfl rfl (by rw [List.length_replicate]; exact hfit) HO.out HB2.out (below_size HB2.out) ?_
       intro w3 ho hb hg; clear hg
       have HO3 := Aside0.mk ho
       have HB3 := Aside0.mk hb
       clear ho hb HO HB2))
  go_ret2
  exact ⟨_, rfl, by rw [← HR.out]; exact HO3.out, HB3.out⟩
end Go.Proofs.YthjljkdiglpbaaaDoor.Hand
