/- Contract, by hand, of globs.bracket (a loop by goto): what a bracket is, and whether a byte meets it. -/
import Derived.Test.YtpjanlpjjemenaaDoorHStr
import Derived.Test.YtpjanlpjjemenaaDoorHLess
import Derived.ScopeJumps
import Derived.WalkMore
import Derived.Deep.LoopGhost
namespace Go.Proofs.YtpjanlpjjemenaaDoor.Hand
open Go.RowKit Go.Shelf Go.Proofs.YtpjanlpjjemenaaDoorW Go.Proofs.YtpjanlpjjemenaaDoorW.PrintWords Go.Proofs.YtpjanlpjjemenaaDoorW.PrintLast Go.Proofs.YtpjanlpjjemenaaDoorW.PrintMore
attribute [local go_sem] Oper.semAt_some
set_option linter.unusedVariables false
set_option linter.unusedSimpArgs false

/-- A bracket, from a place on: where it ends, and whether the byte meets it. -/
def brk : Nat → ByteArray → Int → Int → Bool → Int → Bool → Option (Int × Bool)
  | 0, _, _, _, _, _, _ => none
  | k + 1, s, c, b, u, i, m =>
    if i < (s.size : Int) then
      (if bt s i = 93 then (if i = b then some (0, false) else some (i + 1, m != u))
      else if i + 2 < (s.size : Int) then
        (if bt s (i + 1) = 45 then
          (if bt s (i + 2) = 93 then brk k s c b u (i + 1) (m || (decide (c ≥ bt s i) && decide (c ≤ bt s i)))
          else if bt s (i + 2) < bt s i then some (0, false)
          else brk k s c b u (i + 2 + 1) (m || (decide (c ≥ bt s i) && decide (c ≤ bt s (i + 2)))))
        else brk k s c b u (i + 1) (m || (decide (c ≥ bt s i) && decide (c ≤ bt s i))))
      else brk k s c b u (i + 1) (m || (decide (c ≥ bt s i) && decide (c ≤ bt s i))))
    else some (0, false)
def globs_bracket.f (s : ByteArray) (c : Int) : Option (Int × Bool) :=
  if s.size < 4611686018427387904 then
    (if 1 < (s.size : Int) then (if bt s 1 = 94 then brk (s.size + 1) s c 2 true 2 false else brk (s.size + 1) s c 1 false 1 false) else brk (s.size + 1) s c 1 false 1 false)
  else none

/-- A scope with one label that is jumped back to, by a number that each pass lowers. -/
theorem wp_scope_ghost {P : Program} {Q : Exit → Act → World → Prop} {a : Act} {w : World} {c rest : Code} (l : Nat) (I : Nat → Act → World → Prop) (hf : findLabel c l = some (Code.skip.seq rest))
    (pass : ∀ n a w, I n a w → rest.wp P (Exit.jump l (fun a' w' => ∃ n', n' < n ∧ I n' a' w') Q) a w)
    (first : (∀ n a w, I n a w → rest.wp P (Exit.jump l (fun a w => ∃ n, I n a w) Q) a w) → c.wp P (Exit.jump l (fun a w => ∃ n, I n a w) Q) a w) : (Code.scope c).wp P Q a w := by
  have up : ∀ (X Y : Act → World → Prop), (∀ a w, X a w → Y a w) → ∀ e a w, Exit.jump l X Q e a w → Exit.jump l Y Q e a w := by
    intro X Y h e a w hq
    cases e with
    | goto l' => exact ⟨hq.1, h _ _ hq.2⟩
    | normal => exact hq
    | exit id => exact hq
    | ret => exact hq
    | panic ch => exact hq
    | outgrown => exact hq
  refine wp_scope_jumps l (fun a w => ∃ n, I n a w) (fun a w => leastOf (fun n => I n a w)) hf (first fun n a w h => wp_mono (pass n a w h) (up _ _ fun a w => fun ⟨n', _, h'⟩ => ⟨n', h'⟩)) ?_
  intro a w hI
  exact wp_mono (wp_seq (wp_skip (pass _ a w (leastOf_spec hI).1))) (up _ _ fun a' w' => fun ⟨n', hlt, hI'⟩ => ⟨⟨n', hI'⟩, Nat.lt_of_le_of_lt ((leastOf_spec ⟨n', hI'⟩).2 n' hI') hlt⟩)

def brkInv (s : ByteArray) (c b : Int) (u : Bool) (r : Int × Bool) (w : World) (n : Nat) (a' : Act) (w' : World) : Prop :=
  ∃ (u10 u11 u12 u13 u14 u15 u16 u17 u18 u19 u20 u21 u22 u23 u24 u25 u26 u27 u28 u29 u30 u31 u32 u33 u34 u35 u36 u37 u38 u39 u40 u41 u42 u43 u44 u45 u46 u47 u48 u49 u50 u51 u52 u53 u54 u55 u56 u57 u58 u59 u60 u61 u62 u63 u64 u65 u66 u67 u68 u69 u70 u71 u72 u73 u74 u75 u76 u77 u78 u79 u80 u81 u82 u83 u84 u85 u86 u87 u88 u89 u90 u91 u92 u93 : Value) (i : Int) (m : Bool), (Aside0 (0 ≤ i) ∧ Aside0 (i ≤ 4611686018427387904 + 3) ∧ Aside0 (brk n s c b u i m = some r) ∧ Drawn0 w w') ∧
    a' = { tmps := #[.string s, .int .u8 c, undef, undef, .int .i64 0, .bool false, .int .i64 i, .bool m, .bool u, .int .i64 b, u10, u11, u12, u13, u14, u15, u16, u17, u18, u19, u20, u21, u22, u23, u24, u25, u26, u27, u28, u29, u30, u31, u32, u33, u34, u35, u36, u37, u38, u39, u40, u41, u42, u43, u44, u45, u46, u47, u48, u49, u50, u51, u52, u53, u54, u55, u56, u57, u58, u59, u60, u61, u62, u63, u64, u65, u66, u67, u68, u69, u70, u71, u72, u73, u74, u75, u76, u77, u78, u79, u80, u81, u82, u83, u84, u85, u86, u87, u88, u89, u90, u91, u92, u93], defers := [] }


set_option maxHeartbeats 16000000 in
set_option maxRecDepth 1000000 in
theorem globs_bracket.calls (s : ByteArray) (c : Int) (r1 : Int) (r2 : Bool) (w : World) (h : globs_bracket.f s c = some (r1, r2)) :
    Calls Tryd.prog 135 #[.string s, .int .u8 c] w fun e w' => e = .returned (.tuple #[.int .i64 r1, .bool r2]) ∧ Drawn0 w w' := by
  unfold globs_bracket.f at h
  split at h
  case isFalse => cases h
  rename_i hs
  have H := Aside0.mk h
  clear h
  go_enter Tryd.func135, Tryd.ntmps135
  go_wp2
  refine wp_scope_ghost 0 (fun n a' w' => ∃ (b : Int) (u : Bool), brkInv s c b u (r1, r2) w n a' w') rfl ?_ ?_
  · clear H
    rintro n a' w' ⟨b, u, u10, u11, u12, u13, u14, u15, u16, u17, u18, u19, u20, u21, u22, u23, u24, u25, u26, u27, u28, u29, u30, u31, u32, u33, u34, u35, u36, u37, u38, u39, u40, u41, u42, u43, u44, u45, u46, u47, u48, u49, u50, u51, u52, u53, u54, u55, u56, u57, u58, u59, u60, u61, u62, u63, u64, u65, u66, u67, u68, u69, u70, u71, u72, u73, u74, u75, u76, u77, u78, u79, u80, u81, u82, u83, u84, u85, u86, u87, u88, u89, u90, u91, u92, u93, i, m, ⟨hi0, hi1, hA, ⟨mk, rfl⟩⟩, rfl⟩
    cases n with
    | zero => exact absurd hA.out (by simp [brk])
    | succ k =>
    have H := hA.out
    clear hA
    rw [brk] at H
    have l0 := hi0.out
    clear hi0 hi1
    by_cases c1 : i < (s.size : Int)
    · rw [if_pos c1] at H
      have d1 : decide (i ≥ (s.size : Int)) = false := decide_eq_false (by omega)
      have hw1 : IntKind.i64.wrap (i + 1) = i + 1 := IntWalk.i64_in (i + 1) (by omega)
      have hw2 : IntKind.i64.wrap (i + 2) = i + 2 := IntWalk.i64_in (i + 2) (by omega)
      have hw3 : IntKind.i64.wrap (i + 2 + 1) = i + 2 + 1 := IntWalk.i64_in (i + 2 + 1) (by omega)
      have p0 : 0 ≤ i := l0
      have hx0 := bt_at s i
      replace p0 := eq_true p0
      have q0 := eq_true c1
      by_cases c2 : bt s i = 93
      · rw [if_pos c2] at H
        have d2 : (bt s i == 93) = true := beq_iff_eq.2 c2
        clear c2
        by_cases c3 : i = b
        · rw [if_pos c3] at H
          have d3 : (i == b) = true := beq_iff_eq.2 c3
          clear c3
          have H' := Aside0.mk H
          clear H
          obtain ⟨rfl, rfl⟩ := Prod.mk.inj (Option.some.inj H'.out)
          go_wp2
          repeat (go_quiet (fail); try go_wp2)
          simp only [Exit.jump]
          go_ret2
          exact ⟨rfl, by repeat (first | exact Drawn0.refl _ | apply Drawn0.step)⟩
        · rw [if_neg c3] at H
          have d3 : (i == b) = false := beq_eq_false_iff_ne.2 c3
          clear c3
          have H' := Aside0.mk H
          clear H
          obtain ⟨rfl, rfl⟩ := Prod.mk.inj (Option.some.inj H'.out)
          go_wp2
          repeat (go_quiet (fail); try go_wp2)
          simp only [Exit.jump]
          go_ret2
          exact ⟨rfl, by repeat (first | exact Drawn0.refl _ | apply Drawn0.step)⟩
      · rw [if_neg c2] at H
        have d2 : (bt s i == 93) = false := beq_eq_false_iff_ne.2 c2
        clear c2
        by_cases c4 : i + 2 < (s.size : Int)
        · rw [if_pos c4] at H
          have d4 : decide (i + 2 < (s.size : Int)) = true := decide_eq_true c4
          have p1 : 0 ≤ i + 1 := by omega
          have q1 : i + 1 < (s.size : Int) := by omega
          have hx1 := bt_at s (i + 1)
          have p2 : 0 ≤ i + 2 := by omega
          have hx2 := bt_at s (i + 2)
          replace p1 := eq_true p1
          replace p2 := eq_true p2
          replace q1 := eq_true q1
          have q2 := eq_true c4
          by_cases c5 : bt s (i + 1) = 45
          · rw [if_pos c5] at H
            have d5 : (bt s (i + 1) == 45) = true := beq_iff_eq.2 c5
            clear c5
            by_cases c6 : bt s (i + 2) = 93
            · rw [if_pos c6] at H
              have d6 : (bt s (i + 2) != 93) = false := bne_eq_false_iff_eq.2 c6
              clear c6
              cases m
              · by_cases g : c ≥ bt s i
                · have g1 : decide (c ≥ bt s i) = true := decide_eq_true g
                  have g2 : decide (bt s i ≤ c) = true := decide_eq_true g
                  clear g
                  rw [g1, Bool.true_and, Bool.false_or] at H
                  have H' := Aside0.mk H
                  clear H
                  go_wp2
                  repeat (go_quiet (fail); try go_wp2)
                  go_step3
                  exact ⟨rfl, k, Nat.lt_succ_self k, b, u, _, _, _, _, _, _, _, _, _, _, _, _, _, _, _, _, _, _, _, _, _, _, _, _, _, _, _, _, _, _, _, _, _, _, _, _, _, _, _, _, _, _, _, _, _, _, _, _, _, _, _, _, _, _, _, _, _, _, _, _, _, _, _, _, _, _, _, _, _, _, _, _, _, _, _, _, _, _, _, _, _, _, _, _, (i + 1), (decide (c ≤ bt s i)), ⟨⟨by omega⟩, ⟨by omega⟩, H', by repeat (first | exact Drawn0.refl _ | apply Drawn0.step)⟩, rfl⟩
                · have g1 : decide (c ≥ bt s i) = false := decide_eq_false g
                  have g2 : decide (bt s i ≤ c) = false := decide_eq_false g
                  clear g
                  rw [g1, Bool.false_and, Bool.false_or] at H
                  have H' := Aside0.mk H
                  clear H
                  go_wp2
                  repeat (go_quiet (fail); try go_wp2)
                  go_step3
                  exact ⟨rfl, k, Nat.lt_succ_self k, b, u, _, _, _, _, _, _, _, _, _, _, _, _, _, _, _, _, _, _, _, _, _, _, _, _, _, _, _, _, _, _, _, _, _, _, _, _, _, _, _, _, _, _, _, _, _, _, _, _, _, _, _, _, _, _, _, _, _, _, _, _, _, _, _, _, _, _, _, _, _, _, _, _, _, _, _, _, _, _, _, _, _, _, _, _, (i + 1), false, ⟨⟨by omega⟩, ⟨by omega⟩, H', by repeat (first | exact Drawn0.refl _ | apply Drawn0.step)⟩, rfl⟩
              · rw [Bool.true_or] at H
                have H' := Aside0.mk H
                clear H
                go_wp2
                repeat (go_quiet (fail); try go_wp2)
                go_step3
                exact ⟨rfl, k, Nat.lt_succ_self k, b, u, _, _, _, _, _, _, _, _, _, _, _, _, _, _, _, _, _, _, _, _, _, _, _, _, _, _, _, _, _, _, _, _, _, _, _, _, _, _, _, _, _, _, _, _, _, _, _, _, _, _, _, _, _, _, _, _, _, _, _, _, _, _, _, _, _, _, _, _, _, _, _, _, _, _, _, _, _, _, _, _, _, _, _, _, (i + 1), true, ⟨⟨by omega⟩, ⟨by omega⟩, H', by repeat (first | exact Drawn0.refl _ | apply Drawn0.step)⟩, rfl⟩
            · rw [if_neg c6] at H
              have d6 : (bt s (i + 2) != 93) = true := bne_iff_ne.2 c6
              clear c6
              by_cases c7 : bt s (i + 2) < bt s i
              · rw [if_pos c7] at H
                have d7 : decide (bt s (i + 2) < bt s i) = true := decide_eq_true c7
                clear c7
                have H' := Aside0.mk H
                clear H
                obtain ⟨rfl, rfl⟩ := Prod.mk.inj (Option.some.inj H'.out)
                go_wp2
                repeat (go_quiet (fail); try go_wp2)
                simp only [Exit.jump]
                go_ret2
                exact ⟨rfl, by repeat (first | exact Drawn0.refl _ | apply Drawn0.step)⟩
              · rw [if_neg c7] at H
                have d7 : decide (bt s (i + 2) < bt s i) = false := decide_eq_false c7
                clear c7
                cases m
                · by_cases g : c ≥ bt s i
                  · have g1 : decide (c ≥ bt s i) = true := decide_eq_true g
                    have g2 : decide (bt s i ≤ c) = true := decide_eq_true g
                    clear g
                    rw [g1, Bool.true_and, Bool.false_or] at H
                    have H' := Aside0.mk H
                    clear H
                    go_wp2
                    repeat (go_quiet (fail); try go_wp2)
                    go_step3
                    exact ⟨rfl, k, Nat.lt_succ_self k, b, u, _, _, _, _, _, _, _, _, _, _, _, _, _, _, _, _, _, _, _, _, _, _, _, _, _, _, _, _, _, _, _, _, _, _, _, _, _, _, _, _, _, _, _, _, _, _, _, _, _, _, _, _, _, _, _, _, _, _, _, _, _, _, _, _, _, _, _, _, _, _, _, _, _, _, _, _, _, _, _, _, _, _, _, _, (i + 2 + 1), (decide (c ≤ bt s (i + 2))), ⟨⟨by omega⟩, ⟨by omega⟩, H', by repeat (first | exact Drawn0.refl _ | apply Drawn0.step)⟩, rfl⟩
                  · have g1 : decide (c ≥ bt s i) = false := decide_eq_false g
                    have g2 : decide (bt s i ≤ c) = false := decide_eq_false g
                    clear g
                    rw [g1, Bool.false_and, Bool.false_or] at H
                    have H' := Aside0.mk H
                    clear H
                    go_wp2
                    repeat (go_quiet (fail); try go_wp2)
                    go_step3
                    exact ⟨rfl, k, Nat.lt_succ_self k, b, u, _, _, _, _, _, _, _, _, _, _, _, _, _, _, _, _, _, _, _, _, _, _, _, _, _, _, _, _, _, _, _, _, _, _, _, _, _, _, _, _, _, _, _, _, _, _, _, _, _, _, _, _, _, _, _, _, _, _, _, _, _, _, _, _, _, _, _, _, _, _, _, _, _, _, _, _, _, _, _, _, _, _, _, _, (i + 2 + 1), false, ⟨⟨by omega⟩, ⟨by omega⟩, H', by repeat (first | exact Drawn0.refl _ | apply Drawn0.step)⟩, rfl⟩
                · rw [Bool.true_or] at H
                  have H' := Aside0.mk H
                  clear H
                  go_wp2
                  repeat (go_quiet (fail); try go_wp2)
                  go_step3
                  exact ⟨rfl, k, Nat.lt_succ_self k, b, u, _, _, _, _, _, _, _, _, _, _, _, _, _, _, _, _, _, _, _, _, _, _, _, _, _, _, _, _, _, _, _, _, _, _, _, _, _, _, _, _, _, _, _, _, _, _, _, _, _, _, _, _, _, _, _, _, _, _, _, _, _, _, _, _, _, _, _, _, _, _, _, _, _, _, _, _, _, _, _, _, _, _, _, _, (i + 2 + 1), true, ⟨⟨by omega⟩, ⟨by omega⟩, H', by repeat (first | exact Drawn0.refl _ | apply Drawn0.step)⟩, rfl⟩
          · rw [if_neg c5] at H
            have d5 : (bt s (i + 1) == 45) = false := beq_eq_false_iff_ne.2 c5
            clear c5
            cases m
            · by_cases g : c ≥ bt s i
              · have g1 : decide (c ≥ bt s i) = true := decide_eq_true g
                have g2 : decide (bt s i ≤ c) = true := decide_eq_true g
                clear g
                rw [g1, Bool.true_and, Bool.false_or] at H
                have H' := Aside0.mk H
                clear H
                go_wp2
                repeat (go_quiet (fail); try go_wp2)
                go_step3
                exact ⟨rfl, k, Nat.lt_succ_self k, b, u, _, _, _, _, _, _, _, _, _, _, _, _, _, _, _, _, _, _, _, _, _, _, _, _, _, _, _, _, _, _, _, _, _, _, _, _, _, _, _, _, _, _, _, _, _, _, _, _, _, _, _, _, _, _, _, _, _, _, _, _, _, _, _, _, _, _, _, _, _, _, _, _, _, _, _, _, _, _, _, _, _, _, _, _, (i + 1), (decide (c ≤ bt s i)), ⟨⟨by omega⟩, ⟨by omega⟩, H', by repeat (first | exact Drawn0.refl _ | apply Drawn0.step)⟩, rfl⟩
              · have g1 : decide (c ≥ bt s i) = false := decide_eq_false g
                have g2 : decide (bt s i ≤ c) = false := decide_eq_false g
                clear g
                rw [g1, Bool.false_and, Bool.false_or] at H
                have H' := Aside0.mk H
                clear H
                go_wp2
                repeat (go_quiet (fail); try go_wp2)
                go_step3
                exact ⟨rfl, k, Nat.lt_succ_self k, b, u, _, _, _, _, _, _, _, _, _, _, _, _, _, _, _, _, _, _, _, _, _, _, _, _, _, _, _, _, _, _, _, _, _, _, _, _, _, _, _, _, _, _, _, _, _, _, _, _, _, _, _, _, _, _, _, _, _, _, _, _, _, _, _, _, _, _, _, _, _, _, _, _, _, _, _, _, _, _, _, _, _, _, _, _, (i + 1), false, ⟨⟨by omega⟩, ⟨by omega⟩, H', by repeat (first | exact Drawn0.refl _ | apply Drawn0.step)⟩, rfl⟩
            · rw [Bool.true_or] at H
              have H' := Aside0.mk H
              clear H
              go_wp2
              repeat (go_quiet (fail); try go_wp2)
              go_step3
              exact ⟨rfl, k, Nat.lt_succ_self k, b, u, _, _, _, _, _, _, _, _, _, _, _, _, _, _, _, _, _, _, _, _, _, _, _, _, _, _, _, _, _, _, _, _, _, _, _, _, _, _, _, _, _, _, _, _, _, _, _, _, _, _, _, _, _, _, _, _, _, _, _, _, _, _, _, _, _, _, _, _, _, _, _, _, _, _, _, _, _, _, _, _, _, _, _, _, (i + 1), true, ⟨⟨by omega⟩, ⟨by omega⟩, H', by repeat (first | exact Drawn0.refl _ | apply Drawn0.step)⟩, rfl⟩
        · rw [if_neg c4] at H
          have d4 : decide (i + 2 < (s.size : Int)) = false := decide_eq_false c4
          cases m
          · by_cases g : c ≥ bt s i
            · have g1 : decide (c ≥ bt s i) = true := decide_eq_true g
              have g2 : decide (bt s i ≤ c) = true := decide_eq_true g
              clear g
              rw [g1, Bool.true_and, Bool.false_or] at H
              have H' := Aside0.mk H
              clear H
              go_wp2
              repeat (go_quiet (fail); try go_wp2)
              go_step3
              exact ⟨rfl, k, Nat.lt_succ_self k, b, u, _, _, _, _, _, _, _, _, _, _, _, _, _, _, _, _, _, _, _, _, _, _, _, _, _, _, _, _, _, _, _, _, _, _, _, _, _, _, _, _, _, _, _, _, _, _, _, _, _, _, _, _, _, _, _, _, _, _, _, _, _, _, _, _, _, _, _, _, _, _, _, _, _, _, _, _, _, _, _, _, _, _, _, _, (i + 1), (decide (c ≤ bt s i)), ⟨⟨by omega⟩, ⟨by omega⟩, H', by repeat (first | exact Drawn0.refl _ | apply Drawn0.step)⟩, rfl⟩
            · have g1 : decide (c ≥ bt s i) = false := decide_eq_false g
              have g2 : decide (bt s i ≤ c) = false := decide_eq_false g
              clear g
              rw [g1, Bool.false_and, Bool.false_or] at H
              have H' := Aside0.mk H
              clear H
              go_wp2
              repeat (go_quiet (fail); try go_wp2)
              go_step3
              exact ⟨rfl, k, Nat.lt_succ_self k, b, u, _, _, _, _, _, _, _, _, _, _, _, _, _, _, _, _, _, _, _, _, _, _, _, _, _, _, _, _, _, _, _, _, _, _, _, _, _, _, _, _, _, _, _, _, _, _, _, _, _, _, _, _, _, _, _, _, _, _, _, _, _, _, _, _, _, _, _, _, _, _, _, _, _, _, _, _, _, _, _, _, _, _, _, _, (i + 1), false, ⟨⟨by omega⟩, ⟨by omega⟩, H', by repeat (first | exact Drawn0.refl _ | apply Drawn0.step)⟩, rfl⟩
          · rw [Bool.true_or] at H
            have H' := Aside0.mk H
            clear H
            go_wp2
            repeat (go_quiet (fail); try go_wp2)
            go_step3
            exact ⟨rfl, k, Nat.lt_succ_self k, b, u, _, _, _, _, _, _, _, _, _, _, _, _, _, _, _, _, _, _, _, _, _, _, _, _, _, _, _, _, _, _, _, _, _, _, _, _, _, _, _, _, _, _, _, _, _, _, _, _, _, _, _, _, _, _, _, _, _, _, _, _, _, _, _, _, _, _, _, _, _, _, _, _, _, _, _, _, _, _, _, _, _, _, _, _, (i + 1), true, ⟨⟨by omega⟩, ⟨by omega⟩, H', by repeat (first | exact Drawn0.refl _ | apply Drawn0.step)⟩, rfl⟩
    · rw [if_neg c1] at H
      have d1 : decide (i ≥ (s.size : Int)) = true := decide_eq_true (by omega)
      have H' := Aside0.mk H
      clear H
      obtain ⟨rfl, rfl⟩ := Prod.mk.inj (Option.some.inj H'.out)
      go_wp2
      repeat (go_quiet (fail); try go_wp2)
      simp only [Exit.jump]
      go_ret2
      exact ⟨rfl, by repeat (first | exact Drawn0.refl _ | apply Drawn0.step)⟩
  · intro hp
    by_cases c1 : 1 < (s.size : Int)
    · have d1 : decide ((s.size : Int) > 1) = true := decide_eq_true c1
      have H := H.out
      rw [if_pos c1] at H
      have hx1 : ∀ h : 1 < s.size, ((s[1]'h).toNat : Int) = bt s 1 := fun h => bt_nat s 1 h
      have q1 := eq_true c1
      have q2 := eq_true (show 1 < s.size by omega)
      by_cases c2 : bt s 1 = 94
      · rw [if_pos c2] at H
        have d2 : (bt s 1 == 94) = true := beq_iff_eq.2 c2
        clear c2
        have H' := Aside0.mk H
        clear H
        go_wp2
        go_step3
        rename_i hk
        apply hk
        refine hp (s.size + 1) _ _ ?_
        exact ⟨2, true, _, _, _, _, _, _, _, _, _, _, _, _, _, _, _, _, _, _, _, _, _, _, _, _, _, _, _, _, _, _, _, _, _, _, _, _, _, _, _, _, _, _, _, _, _, _, _, _, _, _, _, _, _, _, _, _, _, _, _, _, _, _, _, _, _, _, _, _, _, _, _, _, _, _, _, _, _, _, _, _, _, _, _, _, 2, false, ⟨⟨by omega⟩, ⟨by omega⟩, H', by repeat (first | exact Drawn0.refl _ | apply Drawn0.step)⟩, rfl⟩
      · rw [if_neg c2] at H
        have d2 : (bt s 1 == 94) = false := beq_eq_false_iff_ne.2 c2
        clear c2
        have H' := Aside0.mk H
        clear H
        go_wp2
        go_step3
        rename_i hk
        apply hk
        refine hp (s.size + 1) _ _ ?_
        exact ⟨1, false, _, _, _, _, _, _, _, _, _, _, _, _, _, _, _, _, _, _, _, _, _, _, _, _, _, _, _, _, _, _, _, _, _, _, _, _, _, _, _, _, _, _, _, _, _, _, _, _, _, _, _, _, _, _, _, _, _, _, _, _, _, _, _, _, _, _, _, _, _, _, _, _, _, _, _, _, _, _, _, _, _, _, _, _, 1, false, ⟨⟨by omega⟩, ⟨by omega⟩, H', by repeat (first | exact Drawn0.refl _ | apply Drawn0.step)⟩, rfl⟩
    · have d1 : decide ((s.size : Int) > 1) = false := decide_eq_false c1
      have H := H.out
      rw [if_neg c1] at H
      have H' := Aside0.mk H
      clear H
      go_wp2
      go_step3
      rename_i hk
      apply hk
      refine hp (s.size + 1) _ _ ?_
      exact ⟨1, false, _, _, _, _, _, _, _, _, _, _, _, _, _, _, _, _, _, _, _, _, _, _, _, _, _, _, _, _, _, _, _, _, _, _, _, _, _, _, _, _, _, _, _, _, _, _, _, _, _, _, _, _, _, _, _, _, _, _, _, _, _, _, _, _, _, _, _, _, _, _, _, _, _, _, _, _, _, _, _, _, _, _, _, _, 1, false, ⟨⟨by omega⟩, ⟨by omega⟩, H', by repeat (first | exact Drawn0.refl _ | apply Drawn0.step)⟩, rfl⟩
end Go.Proofs.YtpjanlpjjemenaaDoor.Hand
