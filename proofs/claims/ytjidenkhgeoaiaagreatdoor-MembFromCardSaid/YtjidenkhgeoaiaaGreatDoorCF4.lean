import Derived.Test.YtjidenkhgeoaiaaGreatDoorCF3
import Derived.Laws.CopyOwn
namespace Go.Proofs.YtjidenkhgeoaiaaGreatDoor.P
open Go.RowKit Go.Proofs.YtjidenkhgeoaiaaGreatDoorW.PrintWords Go.Proofs.YtjidenkhgeoaiaaGreatDoorW.PrintLast Go.Proofs.YtjidenkhgeoaiaaGreatDoorW.PrintMore Go.Proofs.YtjidenkhgeoaiaaGreatDoor.Hand
attribute [local go_sem] max2_int min2_int max_two min_two max_three min_three max_four min_four   -- for this text's walks alone
set_option linter.unusedVariables false
set_option linter.unusedSimpArgs false

/-! ### numf_Octal: function 72 -/
mutual
def numf_Octal.j0 : Nat → Int → Int → Bool → Option (List Int × Int)
 | 0, _, _, _ => none
 | k + 1, x0, x1, x8 => if x8 = true then (some (([] : List Int), 1)) else (if x0 < 0 then (some (([] : List Int), 10)) else ((numf_Most.f x1).bind fun t457 => (if x0 > t457 then (some (([] : List Int), 10)) else (if 0 ≤ x1 then (if (x1 : Int).toNat ≤ 281474976710656 then ((some (List.replicate (x1 : Int).toNat 0 : List Int)).bind fun y458 => (numf_Octal.l0 k x0 x1 y458 (y458.length : Int) 0)) else (none)) else (none)))))
def numf_Octal.l0 : Nat → Int → Int → List Int → Int → Int → Option (List Int × Int)
 | 0, _, _, _, _, _ => none
 | k + 1, x0, x1, x6, x27, x28 => if x28 < x27 then (if 0 ≤ (wrap64 (3 * (wrap64 ((wrap64 (x1 - 1)) - x28)))) then (if 0 ≤ x28 then (if x28 < (x6.length : Int) then (numf_Octal.l0 k x0 x1 (x6.set (x28 : Int).toNat (48 + ((shr .i64 x0 (wrap64 (3 * (wrap64 ((wrap64 (x1 - 1)) - x28))))) % 8))) x27 (wrap64 (x28 + 1))) else (none)) else (none)) else (none)) else (some (x6, 0))
end
def numf_Octal.f (k : Nat) (a0 : Int) (a1 : Int) : Option (List Int × Int) := if a1 < 1 then (numf_Octal.j0 k a0 a1 true) else (numf_Octal.j0 k a0 a1 (decide (a1 > 20)))
theorem numf_Octal.mono_l : ∀ k, (∀ y0 y1 y2, LeO (numf_Octal.j0 k y0 y1 y2) (numf_Octal.j0 (k + 1) y0 y1 y2)) ∧ (∀ y0 y1 y2 y3 y4, LeO (numf_Octal.l0 k y0 y1 y2 y3 y4) (numf_Octal.l0 (k + 1) y0 y1 y2 y3 y4))
 | 0 => ⟨fun _ _ _ r h => by simp [numf_Octal.j0] at h, fun _ _ _ _ _ r h => by simp [numf_Octal.l0] at h⟩
 | k + 1 => by
  obtain ⟨ih0, ih1⟩ := numf_Octal.mono_l k
  refine ⟨?_, ?_⟩
  ·intro y0 y1 y2
   unfold numf_Octal.j0
   repeat' first
   | (with_reducible exact ih0 _ _ _)
   | (with_reducible exact ih1 _ _ _ _ _)
   | (with_reducible exact LeO.refl _)
   | (with_reducible exact LeO.none _)
   | (with_reducible refine LeO.ite ?_ ?_)
   | (with_reducible refine LeO.bind ?_ (fun _ => ?_))
   | exact ih0 _ _ _
   | exact ih1 _ _ _ _ _
   | exact LeO.none _
   | refine LeO.ite ?_ ?_
   | refine LeO.bind ?_ (fun _ => ?_)
  ·intro y0 y1 y2 y3 y4
   unfold numf_Octal.l0
   repeat' first
   | (with_reducible exact ih0 _ _ _)
   | (with_reducible exact ih1 _ _ _ _ _)
   | (with_reducible exact LeO.refl _)
   | (with_reducible exact LeO.none _)
   | (with_reducible refine LeO.ite ?_ ?_)
   | (with_reducible refine LeO.bind ?_ (fun _ => ?_))
   | exact ih0 _ _ _
   | exact ih1 _ _ _ _ _
   | exact LeO.none _
   | refine LeO.ite ?_ ?_
   | refine LeO.bind ?_ (fun _ => ?_)
theorem numf_Octal.mono : ∀ a0 a1 k, LeO (numf_Octal.f k a0 a1) (numf_Octal.f (k + 1) a0 a1) := by
 intro a0 a1 k
 obtain ⟨ih0, ih1⟩ := numf_Octal.mono_l k
 unfold numf_Octal.f
 repeat' first
   | (with_reducible exact ih0 _ _ _)
   | (with_reducible exact ih1 _ _ _ _ _)
   | (with_reducible exact LeO.refl _)
   | (with_reducible exact LeO.none _)
   | (with_reducible refine LeO.ite ?_ ?_)
   | (with_reducible refine LeO.bind ?_ (fun _ => ?_))
   | exact ih0 _ _ _
   | exact ih1 _ _ _ _ _
   | exact LeO.none _
   | refine LeO.ite ?_ ?_
   | refine LeO.bind ?_ (fun _ => ?_)
set_option maxHeartbeats 8000000 in
set_option maxRecDepth 100000 in
theorem numf_Octal.calls (k : Nat) (a0 : Int) (a1 : Int) (r1 : List Int) (r2 : Int) (w : World) (h : numf_Octal.f k a0 a1 = some (r1, r2)) :
  Calls Tryz.prog 72 #[.int .i64 a0, .int .i64 a1] w fun e w' => ∃ v0_ : Value, e = .returned (.tuple #[v0_, .int .i64 r2]) ∧ Kd.R (Kd.int .u8) 5 w' w.heap.size (fun _ => True) v0_ r1 ∧ Below w.heap.size w w' := by
 have HB := Aside0.mk (Below.refl w.heap.size w)
 have H : (if a1 < 1 then (numf_Octal.j0 k a0 a1 true) else (numf_Octal.j0 k a0 a1 (decide (a1 > 20)))) = some (r1, r2) := h
 clear h
 have HC3 := Aside0.mk H
 clear H
 go_enter Tryz.func72, Tryz.ntmps72
 go_upto_region 1 with (fail)
 go_cut [8] (fun v8 wc => ∃ (kq : Nat) (x8_2 : Bool), v8 = .bool x8_2 ∧ Aside0 (numf_Octal.j0 kq a0 a1 x8_2 = some (r1, r2)) ∧ Aside0 (kq ≤ k) ∧ Aside0 (Below w.heap.size w wc))
 case first =>
  have H := HC3.out
  clear HC3
  by_cases c4 : a1 < 1
  ·rw [if_pos c4] at H
   have c4b0 : decide (a1 < 1) = true := decide_eq_true c4
   clear c4
   (first | rw [c4b0] | (simp only [i64_w, i32_w]; rw [c4b0]) | skip)
   have H' := Aside0.mk H
   clear H
   go_wp2
   go_meet
   case rel => exact ⟨_, (true), (by first | rfl | (simp; done) | (simp [*]; done)), H', ⟨by first | omega | exact Nat.le_refl _⟩, ⟨by repeat (first | (with_reducible first | exact HB.out | apply below_alloc | apply pw_below_drewN | apply below_drew1) | exact HB.out)⟩⟩
  ·rw [if_neg c4] at H
   have c4b0 : decide (a1 < 1) = false := decide_eq_false c4
   clear c4
   (first | rw [c4b0] | (simp only [i64_w, i32_w]; rw [c4b0]) | skip)
   have H' := Aside0.mk H
   clear H
   go_wp2
   go_meet
   case rel => exact ⟨_, (decide (a1 > 20)), (by first | rfl | (simp; done) | (simp [*]; done)), H', ⟨by first | omega | exact Nat.le_refl _⟩, ⟨by repeat (first | (with_reducible first | exact HB.out | apply below_alloc | apply pw_below_drewN | apply below_drew1) | exact HB.out)⟩⟩
 case rest =>
  clear HC3
  try clear p2
  try clear c4
  try clear c4b0
  obtain ⟨kq, x8_2, rfl, HA, HJ2, HB⟩ := hcut
  cases kq with
  | zero => exact absurd HA.out (by simp [numf_Octal.j0])
  | succ kj2 =>
   have H := HA.out
   clear HA
   simp only [numf_Octal.j0] at H
   by_cases c5 : x8_2 = true
   ·subst c5
    have H1 := H; rw [if_pos rfl] at H1
    clear H
    have H := H1
    clear H1
    simp only [Option.some.injEq, Prod.mk.injEq] at H
    obtain ⟨rfl, rfl⟩ := H
    go_wp2
    go_ret2
    exact ⟨_, by first | rfl | (simp [errW_none, errW_some] <;> rfl) | (simp [*, errW_none, errW_some] <;> rfl), by first | exact Kd.R_nil _ _ _ _ _ | exact Kd.N_nil _ _ _ _ _ | exact Kd.V_nil _ _ _ _ _ | exact Kd.Q_nil _ _ _ _ _ | exact Kd.S_nil _ _ _ _ _, by repeat (first | (with_reducible first | exact HB.out | apply below_alloc | apply pw_below_drewN | apply below_drew1) | exact HB.out)⟩
   ·replace c5 := Bool.eq_false_iff.mpr c5
    subst c5
    have H1 := H; rw [if_neg (show ¬ (false = true) by decide)] at H1
    clear H
    have H := H1
    clear H1
    by_cases c6 : a0 < 0
    ·rw [if_pos c6] at H
     have c6b0 : decide (a0 < 0) = true := decide_eq_true c6
     clear c6
     simp only [Option.some.injEq, Prod.mk.injEq] at H
     obtain ⟨rfl, rfl⟩ := H
     go_wp2
     go_ret2
     exact ⟨_, by first | rfl | (simp [errW_none, errW_some] <;> rfl) | (simp [*, errW_none, errW_some] <;> rfl), by first | exact Kd.R_nil _ _ _ _ _ | exact Kd.N_nil _ _ _ _ _ | exact Kd.V_nil _ _ _ _ _ | exact Kd.Q_nil _ _ _ _ _ | exact Kd.S_nil _ _ _ _ _, by repeat (first | (with_reducible first | exact HB.out | apply below_alloc | apply pw_below_drewN | apply below_drew1) | exact HB.out)⟩
    ·rw [if_neg c6] at H
     have c6b0 : decide (a0 < 0) = false := decide_eq_false c6
     clear c6
     replace H := Option.bind_eq_some_iff.mp H
     obtain ⟨t457, A70, H⟩ := H
     try dsimp only at H
     have A7 := Aside0.mk A70
     clear A70
     by_cases c8 : a0 > t457
     ·rw [if_pos c8] at H
      have c8b0 : decide (t457 < a0) = true := decide_eq_true c8
      clear c8
      simp only [Option.some.injEq, Prod.mk.injEq] at H
      obtain ⟨rfl, rfl⟩ := H
      go_wp2_with (first | (go_at_call 89; (with_reducible refine (numf_Most.calls a1 t457 _ A7.out).mono ?_); rintro e w9 ⟨rfl, hb⟩; have n0_ := Aside0.mk (bstep_ hb); clear HB; have HB := n0_; clear n0_; (try clear hb); (try clear hb2); (try clear hk); (try clear hi)))
      go_ret2
      exact ⟨_, by first | rfl | (simp [errW_none, errW_some] <;> rfl) | (simp [*, errW_none, errW_some] <;> rfl), by first | exact Kd.R_nil _ _ _ _ _ | exact Kd.N_nil _ _ _ _ _ | exact Kd.V_nil _ _ _ _ _ | exact Kd.Q_nil _ _ _ _ _ | exact Kd.S_nil _ _ _ _ _, by repeat (first | (with_reducible first | exact HB.out | apply below_alloc | apply pw_below_drewN | apply below_drew1) | exact HB.out)⟩
     ·rw [if_neg c8] at H
      have c8b0 : decide (t457 < a0) = false := decide_eq_false c8
      clear c8
      by_cases c10 : 0 ≤ a1
      ·rw [if_pos c10] at H
       have c10b0 := eq_true c10
       have c10b1 : decide (0 ≤ a1) = true := decide_eq_true c10
       clear c10
       by_cases c11 : (a1 : Int).toNat ≤ 281474976710656
       ·rw [if_pos c11] at H
        have c11b0 := eq_true c11
        have c11b1 : decide ((a1 : Int).toNat ≤ 281474976710656) = true := decide_eq_true c11
        clear c11
        obtain ⟨y458, hy458⟩ : ∃ y_ : List Int, y_ = (List.replicate (a1 : Int).toNat 0) := ⟨_, rfl⟩
        replace H : (numf_Octal.l0 kj2 a0 a1 y458 (y458.length : Int) 0) = some (r1, r2) := by first | (rw [hy458]; with_reducible exact H) | (have H2_ := (Option.bind_some _ _).symm.trans H; rw [hy458]; with_reducible exact H2_) | (have H2_ := (Option.bind_some _ _).symm.trans H; with_reducible exact H2_) | with_reducible exact H | (rw [hy458]; exact H) | exact H
        have Ny458 := Aside0.mk hy458
        clear hy458
        have H' := Aside0.mk H
        clear H
        go_wp2_with (first | (go_at_call 89; (with_reducible refine (numf_Most.calls a1 t457 _ A7.out).mono ?_); rintro e w12 ⟨rfl, hb⟩; have n0_ := Aside0.mk (bstep_ hb); clear HB; have HB := n0_; clear n0_; (try clear hb); (try clear hb2); (try clear hk); (try clear hi)) | ((with_reducible refine gate_dst (N := 25) rfl ?_); refine Kd.R_make (Kd.int .u8) _ 5 rfl (N := 25) rfl 31 _ _ rfl a1 rfl rfl Tryz.underlying31 (.int .u8 0) 1 info5 rfl (by decide) (by omega) 0 (ok := fun _ => True) (okp := fun _ => True) rfl (fun _ hk => hk) trivial (of_decide_eq_true (by first | (with_reducible assumption) | assumption)) (Nat.le_trans (Nat.mul_le_mul_right _ (of_decide_eq_true (by first | (with_reducible assumption) | assumption) : a1.toNat ≤ 281474976710656)) (by omega)) (Below.refl _ _) (Nat.le_refl _) ?_; intro v459 w13 ho14 hb hg_ hnew_; clear hg_ hnew_; (first | rw [← Ny458.out] at ho14 | (simp only [Int.reduceToNat] at ho14; rw [← Ny458.out] at ho14)); have n0_ := Aside0.mk (Kd.R_lower ho14 bsize_); have n1_ := Aside0.mk (bstep_ hb); clear HB; have HO460 := n0_; have HB := n1_; clear n0_ n1_; clear hb ho14; obtain ⟨Ao15, co15, eo15⟩ := Kd.R_slice HO460.out; subst eo15))
        go_loopg [28] kj2 (fun kq v28 w' => ∃ (x6_2 : List Int) (x28_2 : Int), v28 = .int .i64 x28_2 ∧ Aside0 (numf_Octal.l0 kq a0 a1 x6_2 (y458.length : Int) x28_2 = some (r1, r2)) ∧ Aside0 (kq ≤ kj2) ∧ Aside0 (Kd.R (Kd.int .u8) 5 w' w.heap.size (fun _ => True) (.slice Ao15 y458.length co15) x6_2) ∧ Aside0 (Below w.heap.size w w'))
        case atStart => exact ⟨(y458), (0), (by first | rfl | (simp; done) | (simp [*]; done)), H', ⟨Nat.le_refl _⟩, ⟨by (with_reducible repeat (first | apply Kd.R_alloc | apply Kd.R_drewN | apply Kd.R_drew)); exact HO460.out⟩, ⟨by repeat (first | (with_reducible first | exact HB.out | apply below_alloc | apply pw_below_drewN | apply below_drew1) | exact HB.out)⟩⟩
        case round =>
         clear H'
         try clear c1
         try clear p2
         try clear c4
         try clear c4b0
         try clear c5
         try clear c6
         try clear c6b0
         try clear c7
         try clear c8
         try clear c8b0
         try clear c10
         try clear c10b0
         try clear c10b1
         try clear c11
         try clear c11b0
         try clear c11b1
         try clear p2
         obtain ⟨x6_2, x28_2, rfl, HA, HK2, HO_6, HB⟩ := hrel
         have hl6_2 := (Kd.R_reads' HO_6.out).1
         rw [hl6_2] at HO_6
         (try simp only [hl6_2])
         cases gk with
         | zero => exact absurd HA.out (by simp [numf_Octal.l0])
         | succ k2 =>
          have H := HA.out
          clear HA
          simp only [numf_Octal.l0] at H
          by_cases c16 : x28_2 < (y458.length : Int)
          ·rw [if_pos c16] at H
           have c16b0 : decide (x28_2 < (y458.length : Int)) = true := decide_eq_true c16
           have c16b0_hl6_2 := c16b0; (try rw [hl6_2] at c16b0_hl6_2)
           clear c16
           obtain ⟨ji17, hji17⟩ : ∃ j_ : Int, (wrap64 (3 * (wrap64 ((wrap64 (a1 - 1)) - x28_2)))) = j_ := ⟨_, rfl⟩
           replace H : (if 0 ≤ (ji17) then (if 0 ≤ x28_2 then (if x28_2 < (x6_2.length : Int) then (numf_Octal.l0 k2 a0 a1 (x6_2.set (x28_2 : Int).toNat (48 + ((shr .i64 a0 (ji17)) % 8))) (y458.length : Int) (wrap64 (x28_2 + 1))) else (none)) else (none)) else (none)) = some (r1, r2) := by first | (rw [hji17] at H; exact H) | (simp only [hji17] at H ⊢; exact H)
           have hji17w : (IntKind.i64.wrap (3 * (wrap64 ((wrap64 (a1 - 1)) - x28_2)))) = ji17 := (i64_w _).trans hji17
           by_cases c18 : 0 ≤ (ji17)
           ·rw [if_pos c18] at H
            have c18b0 := eq_true c18
            have c18b1 : decide (0 ≤ (ji17)) = true := decide_eq_true c18
            clear c18
            obtain ⟨ji19, hji19⟩ : ∃ j_ : Int, (shr .i64 a0 (ji17)) = j_ := ⟨_, rfl⟩
            replace H : (if 0 ≤ x28_2 then (if x28_2 < (x6_2.length : Int) then (numf_Octal.l0 k2 a0 a1 (x6_2.set (x28_2 : Int).toNat (48 + ((ji19) % 8))) (y458.length : Int) (wrap64 (x28_2 + 1))) else (none)) else (none)) = some (r1, r2) := by first | (rw [hji19] at H; exact H) | (simp only [hji19] at H ⊢; exact H)
            have hji19_ : (a0 / 2 ^ min (ji17).toNat 64) = ji19 := hji19
            have hji19z : (ji17) ≤ 64 → (a0 / 2 ^ (ji17).toNat) = ji19 := shr_small hji19
            by_cases c20 : 0 ≤ x28_2
            ·rw [if_pos c20] at H
             have c20b0 : decide (0 ≤ x28_2) = true := decide_eq_true c20
             clear c20
             by_cases c21 : x28_2 < (x6_2.length : Int)
             ·rw [if_pos c21] at H
              have c21b0 : decide (x28_2 < (x6_2.length : Int)) = true := decide_eq_true c21
              have c21b0_hl6_2 := c21b0; (try rw [hl6_2] at c21b0_hl6_2)
              clear c21
              obtain ⟨y461, hy461⟩ : ∃ y_ : List Int, y_ = (x6_2.set (x28_2 : Int).toNat (48 + ((ji19) % 8))) := ⟨_, rfl⟩
              replace H : (numf_Octal.l0 k2 a0 a1 y461 (y458.length : Int) (wrap64 (x28_2 + 1))) = some (r1, r2) := by first | (rw [hy461]; with_reducible exact H) | (have H2_ := (Option.bind_some _ _).symm.trans H; rw [hy461]; with_reducible exact H2_) | (have H2_ := (Option.bind_some _ _).symm.trans H; with_reducible exact H2_) | with_reducible exact H | (rw [hy461]; exact H) | exact H
              have Ny461 := Aside0.mk hy461
              clear hy461
              have H' := Aside0.mk H
              clear H
              have p22 : 0 ≤ (x28_2 : Int) := of_decide_eq_true (by first | (with_reducible assumption) | assumption)
              have q22 : (x28_2 : Int) < ((x6_2.length : Int) : Int) := of_decide_eq_true (by first | (with_reducible assumption) | assumption)
              obtain ⟨go22, co22, eo22, gb22, gl22, cl22, HG22⟩ := Kd.R_form HO_6.out (by omega)
              (first | cases eo22 | (injection eo22 with ea_ en_ ec_; (first | subst ea_ | (injection ea_ with ea_; subst ea_)); subst ec_; clear en_))
              have GB22 := Aside0.mk gb22
              have GG22 := Aside0.mk HG22
              clear gb22 gl22 HG22
              obtain ⟨hx22_0, hf22_0⟩ := Kd.R_celln 0 HO_6.out (x28_2 : Int) p22 q22
              replace p22 := eq_true p22
              replace q22 := eq_true q22
              have HP23 := Kd.R_putg HO_6.out (x28_2 : Int) (48 + ((ji19) % 8))
              go_wp2_with (first | ((with_reducible refine gate_store (t := 5) (p := 43) rfl ?_); refine store_event (t := 5) (p := 43) (v := ?vo_w24) (w1 := (wr.setCell ⟨go22, (x28_2 : Int).toNat, none⟩ (.int .u8 (48 + ((ji19) % 8))))) ?hg ?ho ?hn ?hr ?_; (case ho => rfl); (case hg => rfl); (case hn => rfl); (case hr => first | (go_simp; done) | (go_simp; rfl)); intro w24 hw; have hg : wr.grownBy w24 (some go22) := (by rw [hw]; exact HP23.2); have hp_ : Kd.R (Kd.int .u8) 5 w24 w.heap.size (fun _ => True) (.slice (some ⟨go22, 0, none⟩) x6_2.length co15) y461 := (by rw [hw, Ny461.out]; exact HP23.1); clear HP23; have n0_ := Aside0.mk (hp_); have n1_ := Aside0.mk ((by rw [hw]; exact below_set (HB.out) GB22.out : Below w.heap.size w w24)); clear HO_6; clear HB; have HO_6 := n0_; have HB := n1_; clear n0_ n1_; clear hg hw hp_))
              (try simp only [← hl6_2])
              go_roundg k2
              case measure => have := HJ2.out; have := HK2.out; omega
              case rel => exact ⟨(y461), (wrap64 (x28_2 + 1)), (by first | rfl | (simp; done) | (simp [*]; done)), H', ⟨by have := HJ2.out; have := HK2.out; omega⟩, ⟨by (try simp only [hl6_2]); (with_reducible repeat (first | apply Kd.R_alloc | apply Kd.R_drewN | apply Kd.R_drew)); exact HO_6.out⟩, ⟨by repeat (first | (with_reducible first | exact HB.out | apply below_alloc | apply pw_below_drewN | apply below_drew1) | exact HB.out)⟩⟩
             ·rw [if_neg c21] at H
              exact absurd H (by simp)
            ·rw [if_neg c20] at H
             exact absurd H (by simp)
           ·rw [if_neg c18] at H
            exact absurd H (by simp)
          ·rw [if_neg c16] at H
           have c16b0 : decide (x28_2 < (y458.length : Int)) = false := decide_eq_false c16
           have c16b0_hl6_2 := c16b0; (try rw [hl6_2] at c16b0_hl6_2)
           clear c16
           simp only [Option.some.injEq, Prod.mk.injEq] at H
           obtain ⟨rfl, rfl⟩ := H
           go_wp2
           go_ret2
           exact ⟨_, by first | rfl | (simp [errW_none, errW_some] <;> rfl) | (simp [*, errW_none, errW_some] <;> rfl), by (with_reducible repeat (first | apply Kd.R_alloc | apply Kd.R_drewN | apply Kd.R_drew)); exact HO_6.out, by repeat (first | (with_reducible first | exact HB.out | apply below_alloc | apply pw_below_drewN | apply below_drew1) | exact HB.out)⟩
       ·rw [if_neg c11] at H
        exact absurd H (by simp)
      ·rw [if_neg c10] at H
       exact absurd H (by simp)


/-! ### numf_Plain: function 87 -/
def numf_Plain.f (a0 : Int) (a1 : Int) : Option (Bool) := (numf_isWidth.f a1).bind fun t462 => (if t462 = true then (if a0 ≥ 0 then ((numf_Most.f (wrap64 (a1 - 1))).bind fun t463 => (some (decide (a0 ≤ t463)))) else (some false)) else (some false))
set_option maxHeartbeats 8000000 in
set_option maxRecDepth 100000 in
theorem numf_Plain.calls (a0 : Int) (a1 : Int) (r : Bool) (w : World) (h : numf_Plain.f a0 a1 = some r) :
  Calls Tryz.prog 87 #[.int .i64 a0, .int .i64 a1] w fun e w' => e = .returned (.bool r) ∧ Below w.heap.size w w' := by
 have HB := Aside0.mk (Below.refl w.heap.size w)
 have H : ((numf_isWidth.f a1).bind fun t462 => (if t462 = true then (if a0 ≥ 0 then ((numf_Most.f (wrap64 (a1 - 1))).bind fun t463 => (some (decide (a0 ≤ t463)))) else (some false)) else (some false))) = some r := h
 clear h
 replace H := Option.bind_eq_some_iff.mp H
 obtain ⟨t462, A30, H⟩ := H
 try dsimp only at H
 have A3 := Aside0.mk A30
 clear A30
 by_cases c4 : t462 = true
 ·subst c4
  have H1 := H; rw [if_pos rfl] at H1
  clear H
  have H := H1
  clear H1
  by_cases c5 : a0 ≥ 0
  ·rw [if_pos c5] at H
   have c5b0 : decide (0 ≤ a0) = true := decide_eq_true c5
   clear c5
   replace H := Option.bind_eq_some_iff.mp H
   obtain ⟨t463, A60, H⟩ := H
   try dsimp only at H
   have A6 := Aside0.mk A60
   clear A60
   obtain rfl := Option.some.inj H
   go_enter Tryz.func87, Tryz.ntmps87
   go_wp2_with (first | ((with_reducible refine gate_callee (f := 76) rfl ?_); refine goesA_ (some 6) Tryz.func76 #[.int .i64 a1] ?_; (with_reducible refine (numf_isWidth.calls a1 true _ A3.out).mono ?_); rintro e w' ⟨rfl, ⟨nd, rfl⟩⟩; refine ⟨_, rfl, ?_⟩) | (go_at_call 89; (with_reducible refine (numf_Most.calls (wrap64 (a1 - 1)) t463 _ A6.out).mono ?_); rintro e w7 ⟨rfl, hb⟩; have n0_ := Aside0.mk (bstep_ hb); clear HB; have HB := n0_; clear n0_; (try clear hb); (try clear hb2); (try clear hk); (try clear hi)))
   go_ret
   exact finA_
  ·rw [if_neg c5] at H
   have c5b0 : decide (0 ≤ a0) = false := decide_eq_false c5
   clear c5
   obtain rfl := Option.some.inj H
   go_enter Tryz.func87, Tryz.ntmps87
   go_wp2_with (first | ((with_reducible refine gate_callee (f := 76) rfl ?_); refine goesA_ (some 6) Tryz.func76 #[.int .i64 a1] ?_; (with_reducible refine (numf_isWidth.calls a1 true _ A3.out).mono ?_); rintro e w' ⟨rfl, ⟨nd, rfl⟩⟩; refine ⟨_, rfl, ?_⟩))
   go_ret
   exact finA_
 ·replace c4 := Bool.eq_false_iff.mpr c4
  subst c4
  have H1 := H; rw [if_neg (show ¬ (false = true) by decide)] at H1
  clear H
  have H := H1
  clear H1
  obtain rfl := Option.some.inj H
  go_enter Tryz.func87, Tryz.ntmps87
  go_wp2_with (first | ((with_reducible refine gate_callee (f := 76) rfl ?_); refine goesA_ (some 6) Tryz.func76 #[.int .i64 a1] ?_; (with_reducible refine (numf_isWidth.calls a1 false _ A3.out).mono ?_); rintro e w' ⟨rfl, ⟨nd, rfl⟩⟩; refine ⟨_, rfl, ?_⟩))
  go_ret
  exact finA_


/-! ### numf_base: function 88 -/
mutual
def numf_base.j0 : Nat → Int → Int → Int → Option (List Int × Int)
 | 0, _, _, _ => none
 | k + 1, x0, x1, x6 => if (wrap64 (8 * (wrap64 (x1 - 1)))) < 64 then (if 0 ≤ (wrap64 (8 * (wrap64 (x1 - 1)))) then (numf_base.j1 k x0 x1 x6 ((shr .i64 x0 (wrap64 (8 * (wrap64 (x1 - 1))))) != (x0 / 9223372036854775808))) else (none)) else (numf_base.j1 k x0 x1 x6 false)
def numf_base.j1 : Nat → Int → Int → Int → Bool → Option (List Int × Int)
 | 0, _, _, _, _ => none
 | k + 1, x0, x1, x6, x24 => if x24 = true then (some (([] : List Int), 10)) else (numf_base.l0 k x0 (([x6] : List Int)) (wrap64 (x1 - 2)))
def numf_base.l0 : Nat → Int → List Int → Int → Option (List Int × Int)
 | 0, _, _, _ => none
 | k + 1, x0, x8, x9 => if x9 ≥ 0 then (if 0 ≤ (mn (wrap64 (8 * x9)) 63) then (if x8.length < 140737488355328 then (numf_base.l0 k x0 (x8 ++ [(x0 / 2 ^ (mn (wrap64 (8 * x9)) 63).toNat) % 256]) (wrap64 (x9 - 1))) else (none)) else (none)) else (some (x8, 0))
end
def numf_base.f (k : Nat) (a0 : Int) (a1 : Int) : Option (List Int × Int) := if a0 < 0 then (numf_base.j0 k a0 a1 255) else (numf_base.j0 k a0 a1 128)
theorem numf_base.mono_l : ∀ k, (∀ y0 y1 y2, LeO (numf_base.j0 k y0 y1 y2) (numf_base.j0 (k + 1) y0 y1 y2)) ∧ (∀ y0 y1 y2 y3, LeO (numf_base.j1 k y0 y1 y2 y3) (numf_base.j1 (k + 1) y0 y1 y2 y3)) ∧ (∀ y0 y1 y2, LeO (numf_base.l0 k y0 y1 y2) (numf_base.l0 (k + 1) y0 y1 y2))
 | 0 => ⟨fun _ _ _ r h => by simp [numf_base.j0] at h, fun _ _ _ _ r h => by simp [numf_base.j1] at h, fun _ _ _ r h => by simp [numf_base.l0] at h⟩
 | k + 1 => by
  obtain ⟨ih0, ih1, ih2⟩ := numf_base.mono_l k
  refine ⟨?_, ?_, ?_⟩
  ·intro y0 y1 y2
   unfold numf_base.j0
   repeat' first
   | (with_reducible exact ih0 _ _ _)
   | (with_reducible exact ih1 _ _ _ _)
   | (with_reducible exact ih2 _ _ _)
   | (with_reducible exact LeO.refl _)
   | (with_reducible exact LeO.none _)
   | (with_reducible refine LeO.ite ?_ ?_)
   | (with_reducible refine LeO.bind ?_ (fun _ => ?_))
   | exact ih0 _ _ _
   | exact ih1 _ _ _ _
   | exact ih2 _ _ _
   | exact LeO.none _
   | refine LeO.ite ?_ ?_
   | refine LeO.bind ?_ (fun _ => ?_)
  ·intro y0 y1 y2 y3
   unfold numf_base.j1
   repeat' first
   | (with_reducible exact ih0 _ _ _)
   | (with_reducible exact ih1 _ _ _ _)
   | (with_reducible exact ih2 _ _ _)
   | (with_reducible exact LeO.refl _)
   | (with_reducible exact LeO.none _)
   | (with_reducible refine LeO.ite ?_ ?_)
   | (with_reducible refine LeO.bind ?_ (fun _ => ?_))
   | exact ih0 _ _ _
   | exact ih1 _ _ _ _
   | exact ih2 _ _ _
   | exact LeO.none _
   | refine LeO.ite ?_ ?_
   | refine LeO.bind ?_ (fun _ => ?_)
  ·intro y0 y1 y2
   unfold numf_base.l0
   repeat' first
   | (with_reducible exact ih0 _ _ _)
   | (with_reducible exact ih1 _ _ _ _)
   | (with_reducible exact ih2 _ _ _)
   | (with_reducible exact LeO.refl _)
   | (with_reducible exact LeO.none _)
   | (with_reducible refine LeO.ite ?_ ?_)
   | (with_reducible refine LeO.bind ?_ (fun _ => ?_))
   | exact ih0 _ _ _
   | exact ih1 _ _ _ _
   | exact ih2 _ _ _
   | exact LeO.none _
   | refine LeO.ite ?_ ?_
   | refine LeO.bind ?_ (fun _ => ?_)
theorem numf_base.mono : ∀ a0 a1 k, LeO (numf_base.f k a0 a1) (numf_base.f (k + 1) a0 a1) := by
 intro a0 a1 k
 obtain ⟨ih0, ih1, ih2⟩ := numf_base.mono_l k
 unfold numf_base.f
 repeat' first
   | (with_reducible exact ih0 _ _ _)
   | (with_reducible exact ih1 _ _ _ _)
   | (with_reducible exact ih2 _ _ _)
   | (with_reducible exact LeO.refl _)
   | (with_reducible exact LeO.none _)
   | (with_reducible refine LeO.ite ?_ ?_)
   | (with_reducible refine LeO.bind ?_ (fun _ => ?_))
   | exact ih0 _ _ _
   | exact ih1 _ _ _ _
   | exact ih2 _ _ _
   | exact LeO.none _
   | refine LeO.ite ?_ ?_
   | refine LeO.bind ?_ (fun _ => ?_)
set_option maxHeartbeats 8000000 in
set_option maxRecDepth 100000 in
theorem numf_base.calls (k : Nat) (a0 : Int) (a1 : Int) (r1 : List Int) (r2 : Int) (w : World) (h : numf_base.f k a0 a1 = some (r1, r2)) :
  Calls Tryz.prog 88 #[.int .i64 a0, .int .i64 a1] w fun e w' => ∃ v0_ : Value, e = .returned (.tuple #[v0_, .int .i64 r2]) ∧ Kd.R (Kd.int .u8) 5 w' w.heap.size (fun _ => True) v0_ r1 ∧ Below w.heap.size w w' := by
 have HB := Aside0.mk (Below.refl w.heap.size w)
 have H : (if a0 < 0 then (numf_base.j0 k a0 a1 255) else (numf_base.j0 k a0 a1 128)) = some (r1, r2) := h
 clear h
 have HC3 := Aside0.mk H
 clear H
 go_enter Tryz.func88, Tryz.ntmps88
 go_upto_if 11 with (fail)
 go_cut [6] (fun v6 wc => ∃ (kq : Nat) (x6_2 : Int), v6 = .int .u8 x6_2 ∧ Aside0 (numf_base.j0 kq a0 a1 x6_2 = some (r1, r2)) ∧ Aside0 (kq ≤ k) ∧ Aside0 (Below w.heap.size w wc))
 case first =>
  have H := HC3.out
  clear HC3
  by_cases c4 : a0 < 0
  ·rw [if_pos c4] at H
   have c4b0 : decide (a0 < 0) = true := decide_eq_true c4
   clear c4
   (first | rw [c4b0] | (simp only [i64_w, i32_w]; rw [c4b0]) | skip)
   have H' := Aside0.mk H
   clear H
   go_wp2
   go_meet
   case rel => exact ⟨_, (255), (by first | rfl | (simp; done) | (simp [*]; done)), H', ⟨by first | omega | exact Nat.le_refl _⟩, ⟨by repeat (first | (with_reducible first | exact HB.out | apply below_alloc | apply pw_below_drewN | apply below_drew1) | exact HB.out)⟩⟩
  ·rw [if_neg c4] at H
   have c4b0 : decide (a0 < 0) = false := decide_eq_false c4
   clear c4
   (first | rw [c4b0] | (simp only [i64_w, i32_w]; rw [c4b0]) | skip)
   have H' := Aside0.mk H
   clear H
   go_wp2
   go_meet
   case rel => exact ⟨_, (128), (by first | rfl | (simp; done) | (simp [*]; done)), H', ⟨by first | omega | exact Nat.le_refl _⟩, ⟨by repeat (first | (with_reducible first | exact HB.out | apply below_alloc | apply pw_below_drewN | apply below_drew1) | exact HB.out)⟩⟩
 case rest =>
  clear HC3
  try clear p2
  try clear c4
  try clear c4b0
  obtain ⟨kq, x6_2, rfl, HA, HJ2, HB⟩ := hcut
  cases kq with
  | zero => exact absurd HA.out (by simp [numf_base.j0])
  | succ kj2 =>
   have H := HA.out
   clear HA
   simp only [numf_base.j0] at H
   have HC5 := Aside0.mk H
   clear H
   go_upto_region 5 with (fail)
   go_cut [24] (fun v24 wc => ∃ (kq : Nat) (x24_4 : Bool), v24 = .bool x24_4 ∧ Aside0 (numf_base.j1 kq a0 a1 x6_2 x24_4 = some (r1, r2)) ∧ Aside0 (kq ≤ kj2) ∧ Aside0 (Below w.heap.size w wc))
   case first =>
    have H := HC5.out
    clear HC5
    by_cases c6 : (wrap64 (8 * (wrap64 (a1 - 1)))) < 64
    ·rw [if_pos c6] at H
     have c6b0 : decide ((wrap64 (8 * (wrap64 (a1 - 1)))) < 64) = true := decide_eq_true c6
     clear c6
     (first | rw [c6b0] | (simp only [i64_w, i32_w]; rw [c6b0]) | skip)
     obtain ⟨ji7, hji7⟩ : ∃ j_ : Int, (wrap64 (8 * (wrap64 (a1 - 1)))) = j_ := ⟨_, rfl⟩
     replace H : (if 0 ≤ (ji7) then (numf_base.j1 kj2 a0 a1 x6_2 ((shr .i64 a0 (ji7)) != (a0 / 9223372036854775808))) else (none)) = some (r1, r2) := by first | (rw [hji7] at H; exact H) | (simp only [hji7] at H ⊢; exact H)
     (try rw [hji7] at c6b0)
     have hji7w : (IntKind.i64.wrap (8 * (wrap64 (a1 - 1)))) = ji7 := (i64_w _).trans hji7
     by_cases c8 : 0 ≤ (ji7)
     ·rw [if_pos c8] at H
      have c8b0 := eq_true c8
      have c8b1 : decide (0 ≤ (ji7)) = true := decide_eq_true c8
      clear c8
      obtain ⟨ji9, hji9⟩ : ∃ j_ : Int, (shr .i64 a0 (ji7)) = j_ := ⟨_, rfl⟩
      replace H : (numf_base.j1 kj2 a0 a1 x6_2 ((ji9) != (a0 / 9223372036854775808))) = some (r1, r2) := by first | (rw [hji9] at H; exact H) | (simp only [hji9] at H ⊢; exact H)
      have hji9_ : (a0 / 2 ^ min (ji7).toNat 64) = ji9 := hji9
      have hji9z : (ji7) ≤ 64 → (a0 / 2 ^ (ji7).toNat) = ji9 := shr_small hji9
      have H' := Aside0.mk H
      clear H
      go_wp2
      go_meet
      case rel => exact ⟨_, (((ji9) != (a0 / 9223372036854775808))), (by first | rfl | (simp; done) | (simp only [← hji9] <;> (first | rfl | simp)) | (simp [*]; done)), H', ⟨by have := HJ2.out; first | omega | exact Nat.le_refl _⟩, ⟨by repeat (first | (with_reducible first | exact HB.out | apply below_alloc | apply pw_below_drewN | apply below_drew1) | exact HB.out)⟩⟩
     ·rw [if_neg c8] at H
      exact absurd H (by simp)
    ·rw [if_neg c6] at H
     have c6b0 : decide ((wrap64 (8 * (wrap64 (a1 - 1)))) < 64) = false := decide_eq_false c6
     clear c6
     (first | rw [c6b0] | (simp only [i64_w, i32_w]; rw [c6b0]) | skip)
     have H' := Aside0.mk H
     clear H
     go_wp2
     go_meet
     case rel => exact ⟨_, (false), (by first | rfl | (simp; done) | (simp [*]; done)), H', ⟨by have := HJ2.out; first | omega | exact Nat.le_refl _⟩, ⟨by repeat (first | (with_reducible first | exact HB.out | apply below_alloc | apply pw_below_drewN | apply below_drew1) | exact HB.out)⟩⟩
   case rest =>
    clear HC5
    try clear p2
    try clear c4
    try clear c4b0
    try clear c6
    try clear c6b0
    try clear p6
    try clear c8
    try clear c8b0
    try clear c8b1
    try clear p2
    obtain ⟨kq, x24_4, rfl, HA, HJ4, HB⟩ := hcut
    cases kq with
    | zero => exact absurd HA.out (by simp [numf_base.j1])
    | succ kj4 =>
     have H := HA.out
     clear HA
     simp only [numf_base.j1] at H
     by_cases c10 : x24_4 = true
     ·subst c10
      have H1 := H; rw [if_pos rfl] at H1
      clear H
      have H := H1
      clear H1
      simp only [Option.some.injEq, Prod.mk.injEq] at H
      obtain ⟨rfl, rfl⟩ := H
      go_wp2
      go_ret2
      exact ⟨_, by first | rfl | (simp [errW_none, errW_some] <;> rfl) | (simp [*, errW_none, errW_some] <;> rfl), by first | exact Kd.R_nil _ _ _ _ _ | exact Kd.N_nil _ _ _ _ _ | exact Kd.V_nil _ _ _ _ _ | exact Kd.Q_nil _ _ _ _ _ | exact Kd.S_nil _ _ _ _ _, by repeat (first | (with_reducible first | exact HB.out | apply below_alloc | apply pw_below_drewN | apply below_drew1) | exact HB.out)⟩
     ·replace c10 := Bool.eq_false_iff.mpr c10
      subst c10
      have H1 := H; rw [if_neg (show ¬ (false = true) by decide)] at H1
      clear H
      have H := H1
      clear H1
      obtain ⟨y464, hy464⟩ : ∃ y_ : List Int, y_ = (([x6_2] : List Int)) := ⟨_, rfl⟩
      replace H : (numf_base.l0 kj4 a0 y464 (wrap64 (a1 - 2))) = some (r1, r2) := by first | (rw [hy464]; with_reducible exact H) | (have H2_ := (Option.bind_some _ _).symm.trans H; rw [hy464]; with_reducible exact H2_) | (have H2_ := (Option.bind_some _ _).symm.trans H; with_reducible exact H2_) | with_reducible exact H | (rw [hy464]; exact H) | exact H
      have Ny464 := Aside0.mk hy464
      clear hy464
      have H' := Aside0.mk H
      clear H
      go_wp2_with (first | ((with_reducible refine gate_dst (N := 26) rfl ?_); refine Kd.R_lit (Kd.int .u8) _ 5 ?hg (N := 26) ?hd (xs := ([x6_2] : List Int)) (inner := [.int .u8 x6_2]) (ok := fun _ => True) (okp := fun _ => True) ?hr ?hp (fun _ hk => hk) trivial (Below.refl _ _) (Nat.le_refl _) (by simp) ?_; (case hd => rfl); (case hg => rfl); (case hr => first | (go_simp; done) | (go_simp; rfl)); (case hp => exact (Reps.one (show Kd.M (Kd.int .u8) _ _ _ x6_2 [.int .u8 x6_2] from rfl) (Reps.none _ _))); intro v465 w11 ho12 hb hg_ hnew_; clear hg_ hnew_; (first | rw [← Ny464.out] at ho12 | (simp only [Int.reduceToNat] at ho12; rw [← Ny464.out] at ho12)); have n0_ := Aside0.mk (Kd.R_lower ho12 bsize_); have n1_ := Aside0.mk (bstep_ hb); clear HB; have HO466 := n0_; have HB := n1_; clear n0_ n1_; clear hb ho12))
      go_loopg [8, 9] kj4 (fun kq v8 v9 w' => ∃ (x8_3 : List Int) (x9_3 : Int), v9 = .int .i64 x9_3 ∧ Aside0 (numf_base.l0 kq a0 x8_3 x9_3 = some (r1, r2)) ∧ Aside0 (kq ≤ kj4) ∧ Aside0 (Kd.R (Kd.int .u8) 5 w' w.heap.size (fun _ => True) v8 x8_3) ∧ Aside0 (Below w.heap.size w w'))
      case atStart => exact ⟨(y464), (wrap64 (a1 - 2)), (by first | rfl | (simp; done) | (simp [*]; done)), H', ⟨Nat.le_refl _⟩, ⟨by (with_reducible repeat (first | apply Kd.R_alloc | apply Kd.R_drewN | apply Kd.R_drew)); exact HO466.out⟩, ⟨by repeat (first | (with_reducible first | exact HB.out | apply below_alloc | apply pw_below_drewN | apply below_drew1) | exact HB.out)⟩⟩
      case round =>
       clear H'
       try clear c1
       try clear p2
       try clear c4
       try clear c4b0
       try clear c6
       try clear c6b0
       try clear p6
       try clear c8
       try clear c8b0
       try clear c8b1
       try clear c10
       try clear p2
       try clear p6
       obtain ⟨x8_3, x9_3, rfl, HA, HK3, HO_8, HB⟩ := hrel
       cases gk with
       | zero => exact absurd HA.out (by simp [numf_base.l0])
       | succ k3 =>
        have H := HA.out
        clear HA
        simp only [numf_base.l0] at H
        by_cases c13 : x9_3 ≥ 0
        ·rw [if_pos c13] at H
         have c13b0 : decide (0 ≤ x9_3) = true := decide_eq_true c13
         clear c13
         obtain ⟨ji14, hji14⟩ : ∃ j_ : Int, (mn (wrap64 (8 * x9_3)) 63) = j_ := ⟨_, rfl⟩
         replace H : (if 0 ≤ (ji14) then (if x8_3.length < 140737488355328 then (numf_base.l0 k3 a0 (x8_3 ++ [(a0 / 2 ^ (ji14).toNat) % 256]) (wrap64 (x9_3 - 1))) else (none)) else (none)) = some (r1, r2) := by first | (rw [hji14] at H; exact H) | (simp only [hji14] at H ⊢; exact H)
         have hji14_ : (if 63 < (wrap64 (8 * x9_3)) then 63 else (wrap64 (8 * x9_3))) = ji14 := hji14
         by_cases c15 : 0 ≤ (ji14)
         ·rw [if_pos c15] at H
          have c15b0 := eq_true c15
          have c15b1 : decide (0 ≤ (ji14)) = true := decide_eq_true c15
          clear c15
          by_cases c16 : x8_3.length < 140737488355328
          ·rw [if_pos c16] at H
           have LMc16 := Aside0.mk c16
           clear c16
           have hmin_ : min (ji14 : Int).toNat 64 = (ji14 : Int).toNat := by have h_ := hji14_; split at h_ <;> omega
           obtain ⟨y467, hy467⟩ : ∃ y_ : List Int, y_ = (x8_3 ++ [(a0 / 2 ^ min (ji14 : Int).toNat 64) % 256]) := ⟨_, rfl⟩
           replace H : (numf_base.l0 k3 a0 y467 (wrap64 (x9_3 - 1))) = some (r1, r2) := by first | (rw [hy467, hmin_]; with_reducible exact H) | (have H2_ := (Option.bind_some _ _).symm.trans H; rw [hy467, hmin_]; with_reducible exact H2_) | (have H2_ := (Option.bind_some _ _).symm.trans H; with_reducible exact H2_) | with_reducible exact H | (rw [hy467, hmin_]; exact H) | exact H
           have Ny467 := Aside0.mk hy467
           clear hy467
           have H' := Aside0.mk H
           clear H
           have Hmin_ := Aside0.mk hmin_
           clear hmin_
           go_wp2_with (first | ((with_reducible refine gate_builtin (b := .append) (xs := #[.tmp 33, .tmp 40]) rfl ?_); at_builtin; refine Kd.R_append (Kd.int .u8) (w0 := w) w.heap.size rfl (.tmp 33) (.tmp 40) 31 5 (.int .u8 0) 1 rfl Tryz.underlying31 info5 rfl (by decide) (by omega) u8 x8_3 ((a0 / 2 ^ min (ji14 : Int).toNat 64) % 256) [.int .u8 ((a0 / 2 ^ min (ji14 : Int).toNat 64) % 256)] (fun _ => True) (fun _ => False) rfl rfl ?aP (fun _ hk => hk.elim) ?aF ?aO ?aB ?aS ?aL ?_; (case aP => exact rfl); (case aB => exact belA_); (case aF => exact (fun _ _ => trivial)); (case aO => exact (by (with_reducible repeat (first | apply Kd.R_alloc | apply Kd.R_drewN | apply Kd.R_drew)); exact HO_8.out)); (case aS => exact bsize_); (case aL => have := LMc16.out; omega); intro v468 w17 ho hb hg hat; rw [← Ny467.out] at ho; have n0_ := Aside0.mk (hb); have n1_ := Aside0.mk (ho); clear HB; clear HO_8; have HB := n0_; have HO469 := n1_; clear n0_ n1_; clear ho hb hg hat))
           go_roundg k3
           case measure => have := HJ2.out; have := HJ4.out; have := HK3.out; omega
           case rel => exact ⟨(y467), (wrap64 (x9_3 - 1)), (by first | rfl | (simp; done) | (simp [*]; done)), H', ⟨by have := HJ2.out; have := HJ4.out; have := HK3.out; omega⟩, ⟨by (with_reducible repeat (first | apply Kd.R_alloc | apply Kd.R_drewN | apply Kd.R_drew)); exact HO469.out⟩, ⟨by repeat (first | (with_reducible first | exact HB.out | apply below_alloc | apply pw_below_drewN | apply below_drew1) | exact HB.out)⟩⟩
          ·rw [if_neg c16] at H
           exact absurd H (by simp)
         ·rw [if_neg c15] at H
          exact absurd H (by simp)
        ·rw [if_neg c13] at H
         have c13b0 : decide (0 ≤ x9_3) = false := decide_eq_false c13
         clear c13
         simp only [Option.some.injEq, Prod.mk.injEq] at H
         obtain ⟨rfl, rfl⟩ := H
         go_wp2
         go_ret2
         exact ⟨_, by first | rfl | (simp [errW_none, errW_some] <;> rfl) | (simp [*, errW_none, errW_some] <;> rfl), by (with_reducible repeat (first | apply Kd.R_alloc | apply Kd.R_drewN | apply Kd.R_drew)); exact HO_8.out, by repeat (first | (with_reducible first | exact HB.out | apply below_alloc | apply pw_below_drewN | apply below_drew1) | exact HB.out)⟩


/-! ### numf_Put: function 71 -/
def numf_Put.f (k : Nat) (a0 : Int) (a1 : Int) : Option (List Int × Int) := (numf_isWidth.f a1).bind fun t470 => (if t470 = true then ((numf_Plain.f a0 a1).bind fun t471 => (if t471 = true then ((numf_Octal.f k a0 (wrap64 (a1 - 1))).bind fun bt472 => (if bt472.1.length < 140737488355328 then (some ((bt472.1 ++ [0]), bt472.2)) else (none))) else ((numf_base.f k a0 a1).bind fun bt479 => (some (bt479.1, bt479.2))))) else (some (([] : List Int), 1)))
theorem numf_Put.mono : ∀ a0 a1 k, LeO (numf_Put.f k a0 a1) (numf_Put.f (k + 1) a0 a1) := by
 intro a0 a1 k
 unfold numf_Put.f
 repeat' first
   | (with_reducible exact numf_Octal.mono _ _ _)
   | (with_reducible exact numf_base.mono _ _ _)
   | (with_reducible exact LeO.refl _)
   | (with_reducible exact LeO.none _)
   | (with_reducible refine LeO.ite ?_ ?_)
   | (with_reducible refine LeO.bind ?_ (fun _ => ?_))
   | exact numf_Octal.mono _ _ _
   | exact numf_base.mono _ _ _
   | exact LeO.none _
   | refine LeO.ite ?_ ?_
   | refine LeO.bind ?_ (fun _ => ?_)
set_option maxHeartbeats 8000000 in
set_option maxRecDepth 100000 in
theorem numf_Put.calls (k : Nat) (a0 : Int) (a1 : Int) (r1 : List Int) (r2 : Int) (w : World) (h : numf_Put.f k a0 a1 = some (r1, r2)) :
  Calls Tryz.prog 71 #[.int .i64 a0, .int .i64 a1] w fun e w' => ∃ v0_ : Value, e = .returned (.tuple #[v0_, .int .i64 r2]) ∧ Kd.R (Kd.int .u8) 5 w' w.heap.size (fun _ => True) v0_ r1 ∧ Below w.heap.size w w' := by
 have HB := Aside0.mk (Below.refl w.heap.size w)
 have H : ((numf_isWidth.f a1).bind fun t470 => (if t470 = true then ((numf_Plain.f a0 a1).bind fun t471 => (if t471 = true then ((numf_Octal.f k a0 (wrap64 (a1 - 1))).bind fun bt472 => (if bt472.1.length < 140737488355328 then (some ((bt472.1 ++ [0]), bt472.2)) else (none))) else ((numf_base.f k a0 a1).bind fun bt479 => (some (bt479.1, bt479.2))))) else (some (([] : List Int), 1)))) = some (r1, r2) := h
 clear h
 replace H := Option.bind_eq_some_iff.mp H
 obtain ⟨t470, A30, H⟩ := H
 try dsimp only at H
 have A3 := Aside0.mk A30
 clear A30
 by_cases c4 : t470 = true
 ·subst c4
  have H1 := H; rw [if_pos rfl] at H1
  clear H
  have H := H1
  clear H1
  replace H := Option.bind_eq_some_iff.mp H
  obtain ⟨t471, A50, H⟩ := H
  try dsimp only at H
  have A5 := Aside0.mk A50
  clear A50
  by_cases c6 : t471 = true
  ·subst c6
   have H1 := H; rw [if_pos rfl] at H1
   clear H
   have H := H1
   clear H1
   replace H := Option.bind_eq_some_iff.mp H
   obtain ⟨⟨t472, t473⟩, A70, H⟩ := H
   try dsimp only at H
   have A7 := Aside0.mk A70
   clear A70
   by_cases c8 : t472.length < 140737488355328
   ·rw [if_pos c8] at H
    have LMc8 := Aside0.mk c8
    clear c8
    obtain ⟨y476, hy476⟩ : ∃ y_ : List Int, y_ = (t472 ++ [0]) := ⟨_, rfl⟩
    replace H : (some (y476, t473)) = some (r1, r2) := by first | (rw [hy476]; with_reducible exact H) | (have H2_ := (Option.bind_some _ _).symm.trans H; rw [hy476]; with_reducible exact H2_) | (have H2_ := (Option.bind_some _ _).symm.trans H; with_reducible exact H2_) | with_reducible exact H | (rw [hy476]; exact H) | exact H
    have Ny476 := Aside0.mk hy476
    clear hy476
    simp only [Option.some.injEq, Prod.mk.injEq] at H
    obtain ⟨rfl, rfl⟩ := H
    go_enter Tryz.func71, Tryz.ntmps71
    go_wp2_with (first | ((with_reducible refine gate_callee (f := 76) rfl ?_); refine goesA_ (some 9) Tryz.func76 #[.int .i64 a1] ?_; (with_reducible refine (numf_isWidth.calls a1 true _ A3.out).mono ?_); rintro e w' ⟨rfl, ⟨nd, rfl⟩⟩; refine ⟨_, rfl, ?_⟩) | ((with_reducible refine gate_callee (f := 87) rfl ?_); refine goesA_ (some 13) Tryz.func87 #[.int .i64 a0, .int .i64 a1] ?_; (with_reducible refine (numf_Plain.calls a0 a1 true _ A5.out).mono ?_); rintro e w9 ⟨rfl, hb⟩; refine ⟨_, rfl, ?_⟩; have n0_ := Aside0.mk (bstep_ hb); clear HB; have HB := n0_; clear n0_; (try clear hb); (try clear hb2); (try clear hk); (try clear hi)) | ((with_reducible refine gate_callee (f := 72) rfl ?_); refine goesA_ (some 24) Tryz.func72 #[.int .i64 a0, .int .i64 (wrap64 (a1 - 1))] ?_; (with_reducible refine (numf_Octal.calls k a0 (wrap64 (a1 - 1)) t472 t473 _ A7.out).mono ?_); rintro e w10 ⟨v474, rfl, ho0, hb⟩; refine ⟨_, rfl, ?_⟩; have n0_ := Aside0.mk (Kd.R_lower ho0 bsize_); have n1_ := Aside0.mk (bstep_ hb); clear HB; have HO475 := n0_; have HB := n1_; clear n0_ n1_; (try clear hb); (try clear hb2); (try clear hk); (try clear hi); (try clear ho0)) | ((with_reducible refine gate_builtin (b := .append) (xs := #[.tmp 27, .tmp 28]) rfl ?_); at_builtin; refine Kd.R_append (Kd.int .u8) (w0 := w) w.heap.size rfl (.tmp 27) (.tmp 28) 31 5 (.int .u8 0) 1 rfl Tryz.underlying31 info5 rfl (by decide) (by omega) v474 t472 0 [.int .u8 0] (fun _ => True) (fun _ => False) rfl rfl ?aP (fun _ hk => hk.elim) ?aF ?aO ?aB ?aS ?aL ?_; (case aP => exact rfl); (case aB => exact belA_); (case aF => exact (fun _ _ => trivial)); (case aO => exact (by (with_reducible repeat (first | apply Kd.R_alloc | apply Kd.R_drewN | apply Kd.R_drew)); exact HO475.out)); (case aS => exact bsize_); (case aL => have := LMc8.out; omega); intro v477 w11 ho hb hg hat; rw [← Ny476.out] at ho; have n0_ := Aside0.mk (hb); have n1_ := Aside0.mk (ho); clear HB; clear HO475; have HB := n0_; have HO478 := n1_; clear n0_ n1_; clear ho hb hg hat))
    go_ret2
    exact ⟨_, by first | rfl | (simp [errW_none, errW_some] <;> rfl) | (simp [*, errW_none, errW_some] <;> rfl), by (with_reducible repeat (first | apply Kd.R_alloc | apply Kd.R_drewN | apply Kd.R_drew)); exact HO478.out, by repeat (first | (with_reducible first | exact HB.out | apply below_alloc | apply pw_below_drewN | apply below_drew1) | exact HB.out)⟩
   ·rw [if_neg c8] at H
    exact absurd H (by simp)
  ·replace c6 := Bool.eq_false_iff.mpr c6
   subst c6
   have H1 := H; rw [if_neg (show ¬ (false = true) by decide)] at H1
   clear H
   have H := H1
   clear H1
   replace H := Option.bind_eq_some_iff.mp H
   obtain ⟨⟨t479, t480⟩, A120, H⟩ := H
   try dsimp only at H
   have A12 := Aside0.mk A120
   clear A120
   simp only [Option.some.injEq, Prod.mk.injEq] at H
   obtain ⟨rfl, rfl⟩ := H
   go_enter Tryz.func71, Tryz.ntmps71
   go_wp2_with (first | ((with_reducible refine gate_callee (f := 76) rfl ?_); refine goesA_ (some 9) Tryz.func76 #[.int .i64 a1] ?_; (with_reducible refine (numf_isWidth.calls a1 true _ A3.out).mono ?_); rintro e w' ⟨rfl, ⟨nd, rfl⟩⟩; refine ⟨_, rfl, ?_⟩) | ((with_reducible refine gate_callee (f := 87) rfl ?_); refine goesA_ (some 13) Tryz.func87 #[.int .i64 a0, .int .i64 a1] ?_; (with_reducible refine (numf_Plain.calls a0 a1 false _ A5.out).mono ?_); rintro e w13 ⟨rfl, hb⟩; refine ⟨_, rfl, ?_⟩; have n0_ := Aside0.mk (bstep_ hb); clear HB; have HB := n0_; clear n0_; (try clear hb); (try clear hb2); (try clear hk); (try clear hi)) | ((with_reducible refine gate_callee (f := 88) rfl ?_); refine goesA_ (some 17) Tryz.func88 #[.int .i64 a0, .int .i64 a1] ?_; (with_reducible refine (numf_base.calls k a0 a1 t479 t480 _ A12.out).mono ?_); rintro e w14 ⟨v481, rfl, ho0, hb⟩; refine ⟨_, rfl, ?_⟩; have n0_ := Aside0.mk (Kd.R_lower ho0 bsize_); have n1_ := Aside0.mk (bstep_ hb); clear HB; have HO482 := n0_; have HB := n1_; clear n0_ n1_; (try clear hb); (try clear hb2); (try clear hk); (try clear hi); (try clear ho0)))
   go_ret2
   exact ⟨_, by first | rfl | (simp [errW_none, errW_some] <;> rfl) | (simp [*, errW_none, errW_some] <;> rfl), by (with_reducible repeat (first | apply Kd.R_alloc | apply Kd.R_drewN | apply Kd.R_drew)); exact HO482.out, by repeat (first | (with_reducible first | exact HB.out | apply below_alloc | apply pw_below_drewN | apply below_drew1) | exact HB.out)⟩
 ·replace c4 := Bool.eq_false_iff.mpr c4
  subst c4
  have H1 := H; rw [if_neg (show ¬ (false = true) by decide)] at H1
  clear H
  have H := H1
  clear H1
  simp only [Option.some.injEq, Prod.mk.injEq] at H
  obtain ⟨rfl, rfl⟩ := H
  go_enter Tryz.func71, Tryz.ntmps71
  go_wp2_with (first | ((with_reducible refine gate_callee (f := 76) rfl ?_); refine goesA_ (some 9) Tryz.func76 #[.int .i64 a1] ?_; (with_reducible refine (numf_isWidth.calls a1 false _ A3.out).mono ?_); rintro e w' ⟨rfl, ⟨nd, rfl⟩⟩; refine ⟨_, rfl, ?_⟩))
  go_ret2
  exact ⟨_, by first | rfl | (simp [errW_none, errW_some] <;> rfl) | (simp [*, errW_none, errW_some] <;> rfl), by first | exact Kd.R_nil _ _ _ _ _ | exact Kd.N_nil _ _ _ _ _ | exact Kd.V_nil _ _ _ _ _ | exact Kd.Q_nil _ _ _ _ _ | exact Kd.S_nil _ _ _ _ _, by repeat (first | (with_reducible first | exact HB.out | apply below_alloc | apply pw_below_drewN | apply below_drew1) | exact HB.out)⟩

end Go.Proofs.YtjidenkhgeoaiaaGreatDoor.P

/- Contracts, by hand, of head's layer: a field's bytes are put in their place; the first error stays. -/
namespace Go.Proofs.YtjidenkhgeoaiaaGreatDoor.Hand
open Go.RowKit Go.Proofs.YtjidenkhgeoaiaaGreatDoor.P Go.Proofs.YtjidenkhgeoaiaaGreatDoorW Go.Proofs.YtjidenkhgeoaiaaGreatDoorW.PrintWords Go.Proofs.YtjidenkhgeoaiaaGreatDoorW.PrintLast Go.Proofs.YtjidenkhgeoaiaaGreatDoorW.PrintMore
set_option linter.unusedVariables false
set_option linter.unusedSimpArgs false

/-- All but two blocks is as it was. -/
structure Near2 (w w' : World) (g b : Nat) : Prop where
  os : w'.os = w.os
  tape : w'.tape = w.tape
  output : w'.output = w.output
  size : w.heap.size ≤ w'.heap.size
  block : ∀ i, i < w.heap.size → i ≠ g → i ≠ b → w'.heap[i]? = w.heap[i]?
theorem Near2.of_below {w w' : World} (h : Below w.heap.size w w') (g b : Nat) : Near2 w w' g b := ⟨h.os, h.tape, h.output, h.size, fun i hi _ _ => h.block i hi⟩
theorem Near2.of_near {w w' : World} {g : Nat} (h : Near w w' g) (b : Nat) : Near2 w w' g b := ⟨h.os, h.tape, h.output, h.size, fun i hi hg _ => h.block i hi hg⟩
theorem Near2.trans {w w1 w2 : World} {g b : Nat} (h : Near2 w w1 g b) (k : Near2 w1 w2 g b) : Near2 w w2 g b :=
  ⟨k.os.trans h.os, k.tape.trans h.tape, k.output.trans h.output, Nat.le_trans h.size k.size, fun i hi hg hb => (k.block i (by have := h.size; omega) hg hb).trans (h.block i hi hg hb)⟩
theorem Below.near2 {B g b : Nat} {w W W' : World} (h : Below B w W) (hB : B ≤ W.heap.size) (hg : B ≤ g) (hb : B ≤ b) (k : Near2 W W' g b) : Below B w W' :=
  ⟨k.os.trans h.os, k.tape.trans h.tape, k.output.trans h.output, Nat.le_trans h.size k.size, fun i hi => (k.block i (by omega) (by omega) (by omega)).trans (h.block i hi)⟩
theorem Near2.blk {w w' : World} {g b g' : Nat} {o : Obj} (h : Near2 w w' g b) (hb : w.heap[g']? = some o) (hne : g' ≠ g) (hne2 : g' ≠ b) : w'.heap[g']? = some o := (h.block g' (blk_lt hb) hne hne2).trans hb
def bufV (bs : List Int) : Array Value := (bs.map (Value.int .u8)).toArray
/-- The error so far, and the block. -/
def layStep (st : Int × List Int) (at_ : Nat) (p : List Int × Int) : Int × List Int := (firstE st.1 p.2, if st.1 = 0 then splice st.2 at_ p.1 else st.2)

set_option maxHeartbeats 4000000 in
set_option maxRecDepth 100000 in
theorem layer_field.calls (F : Option Addr) (fc g b : Nat) (f bs : List Int) (at_ : Nat) (e e1 : Int) (w : World) (h1 : at_ < 512) (h2 : at_ + f.length ≤ 512) (hbs : bs.length = 512) (hc : f.length ≤ fc)
    (hb : w.heap[g]? = some (.cells #[.slice (some ⟨b, 0, none⟩) 512 512, .int .i64 e] 89 (0, 0))) (hbuf : w.heap[b]? = some (.cells (bufV bs) 5 (0, 0)))
    (hr : Kd.C (Kd.int .u8) w F f.length f) (hF : ∀ ad, F = some ad → 0 < f.length → ad.block ≠ g) :
    Calls Tryz.prog 70 #[.pointer (some ⟨g, 0, none⟩), .int .i64 at_, .slice F f.length fc, .int .i64 e1] w fun en w' => en = .returned (.tuple #[]) ∧ w'.heap[g]? = some (.cells #[.slice (some ⟨b, 0, none⟩) 512 512, .int .i64 (layStep (e, bs) at_ (f, e1)).1] 89 (0, 0)) ∧ w'.heap[b]? = some (.cells (bufV (layStep (e, bs) at_ (f, e1)).2) 5 (0, 0)) ∧ Near2 w w' g b := by
  have hne : b ≠ g := blk_ne hbuf hb (by decide)
  have hc0 : w.cell? ⟨g, 0, none⟩ = some (.slice (some ⟨b, 0, none⟩) 512 512) := (blk_cell hb 0).trans rfl
  have hc1 : w.cell? ⟨g, 1, none⟩ = some (.int .i64 e) := (blk_cell hb 1).trans rfl
  have hf1 := blk_frozen hb 1
  have HBL := Aside0.mk hb
  have HBF := Aside0.mk hbuf
  have HR := Aside0.mk hr
  have HF := Aside0.mk hF
  have HN := Aside0.mk hne
  have HC := Aside0.mk hc
  have HBS := Aside0.mk hbs
  have H2 := Aside0.mk h2
  have hat : (at_ : Int) < 512 := by omega
  clear hb hbuf hr hF hne hc hbs h2
  by_cases he : e = 0
  · subst he
    by_cases hp : f.length = 0
    · have hnil : f = [] := List.eq_nil_of_length_eq_zero hp
      subst hnil
      go_enter Tryz.func70, Tryz.ntmps70
      go_wp2_with (with_reducible refine wpList_copy_nothing rfl (.tmp 22) (.tmp 23) 31 31 rfl 5 Tryz.underlying31 (by kernel_rfl) (some ⟨b, at_, none⟩) F (512 - at_) (512 - at_) 0 fc rfl rfl (by show min 0 _ = 0; simp) ?_)
      refine bodyPost_end (v := .tuple #[]) (by simp [results, Tryz.results70, go_sem]) rfl (show _ ∧ _ from ⟨rfl, blk_put HBL.out 1 _ rfl, ?_, (Near2.of_near ((Near.of_below (Below.refl _ _) g).set 1 _) b)⟩)
      have := blk_far HBF.out (p := ⟨g, 1, none⟩) HN.out (.int .i64 e1)
      unfold layStep
      rw [if_pos rfl]
      rw [show splice bs at_ ([] : List Int) = bs by simp [splice]]
      exact this
    · obtain ⟨ad, ea, hcell⟩ := (Kd.reads_of_C (enc := Value.int .u8) (d := (0 : Int)) (h1 := fun _ => rfl) HR.out).2.2 (by omega)
      subst ea
      have HG := Aside0.mk (HF.out ad rfl (by omega))
      have HS := Aside0.mk (show ∀ j v, (f.map (Value.int .u8))[j]? = some v → (w.setCell ⟨g, 1, none⟩ (.int .i64 e1)).cell? (ad.add j) = some v from by
        intro j v hj
        have hjl : j < f.length := by
          have := (List.getElem?_eq_some_iff.1 hj).1
          simpa using this
        have h1 := hcell j hjl
        have h2 : v = .int .u8 (f.getD j 0) := by
          rw [List.getElem?_map, List.getElem?_eq_getElem hjl] at hj
          rw [List.getD_eq_getElem?_getD, List.getElem?_eq_getElem hjl]
          exact (Option.some.inj hj).symm
        rw [h2, ← h1]
        unfold World.cell?
        rw [Below.heap_setCell w ⟨g, 1, none⟩ (.int .i64 e1) (ad.add j).block (by rw [add_block]; exact HG.out)])
      clear hp hcell
      have hmin : (f.map (Value.int .u8)).length = Nat.min f.length (512 - at_) := by
        rw [List.length_map]; have := H2.out; exact (Nat.min_eq_left (by omega)).symm
      have HM := Aside0.mk hmin
      clear hmin
      have HBF1 := Aside0.mk (blk_far HBF.out (p := ⟨g, 1, none⟩) HN.out (.int .i64 e1))
      have HFIT : Aside0 (at_ + (f.map (Value.int .u8)).length ≤ (bufV bs).size) := ⟨by
        unfold bufV; have := H2.out; have := HBS.out; rw [List.length_map, List.size_toArray, List.length_map]; omega⟩
      go_enter Tryz.func70, Tryz.ntmps70
      go_wp2_with ((with_reducible refine gate_builtin (b := .copy) (xs := #[.tmp 22, .tmp 23]) rfl ?_); refine wpList_copy_own rfl (.tmp 22) (.tmp 23) 31 31 rfl 5 Tryz.underlying31 (by kernel_rfl) b at_ (512 - at_) (512 - at_) ad f.length fc rfl rfl (bufV bs) 5 HBF1.out (f.map (Value.int .u8)) HM.out HS.out HFIT.out (fun v hv => by obtain ⟨x, _, rfl⟩ := List.mem_map.1 hv; rfl) ?_)
      refine bodyPost_end (v := .tuple #[]) (by simp [results, Tryz.results70, go_sem]) rfl (show _ ∧ _ from ⟨rfl, ?_, ?_, ?_⟩)
      · rw [setRow_other _ b g _ HN.out.symm]
        exact blk_put HBL.out 1 _ rfl
      · rw [setRow_heap _ b (bufV bs) _ 5 (0, 0) HBF1.out]
        unfold layStep
        rw [if_pos rfl]
        simp [bufV, splice, List.map_append, List.map_take, List.map_drop]
      · exact ⟨rfl, rfl, rfl, by simp [World.setRow, World.setCell], fun i hi hg hb => (setRow_other _ b i _ hb).trans (Below.heap_setCell w ⟨g, 1, none⟩ _ i hg)⟩
  · have hd : (e == 0) = false := beq_eq_false_iff_ne.2 he
    have HE := Aside0.mk he
    clear he
    go_enter Tryz.func70, Tryz.ntmps70
    go_wp2
    refine bodyPost_end (v := .tuple #[]) (by simp [results, Tryz.results70, go_sem]) rfl (show _ ∧ _ from ⟨rfl, ?_, ?_, Near2.of_below (Below.refl _ _) g b⟩)
    · unfold layStep firstE; rw [if_neg HE.out]; exact HBL.out
    · unfold layStep; rw [if_neg HE.out]; exact HBF.out
theorem own_baseH {W : World} {base n : Nat} {e : TypeId} {sz : Nat} {v : Value} {xs : List Value} (h : W.ownsRow base e sz v n xs) (i : Nat) (hi : v.ownBlock = some i) : base ≤ i := by
  rcases h.2 with ⟨rfl, _⟩ | ⟨g, cap, cur, rfl, hb, _⟩
  · cases hi
  · have : g = i := by simpa [Value.ownBlock] using hi
    omega
set_option maxHeartbeats 4000000 in
set_option maxRecDepth 100000 in
theorem layer_text.calls (g b : Nat) (f bs : List Int) (at_ wd : Nat) (s : ByteArray) (e e1 : Int) (w : World) (h1 : at_ < 512) (h2 : at_ + f.length ≤ 512) (hbs : bs.length = 512)
    (hb : w.heap[g]? = some (.cells #[.slice (some ⟨b, 0, none⟩) 512 512, .int .i64 e] 89 (0, 0))) (hbuf : w.heap[b]? = some (.cells (bufV bs) 5 (0, 0))) (hp : strf_Put.f s (wd : Int) = some (f, e1)) :
    Calls Tryz.prog 50 #[.pointer (some ⟨g, 0, none⟩), .int .i64 at_, .int .i64 wd, .string s] w fun en w' => en = .returned (.tuple #[]) ∧ w'.heap[g]? = some (.cells #[.slice (some ⟨b, 0, none⟩) 512 512, .int .i64 (layStep (e, bs) at_ (f, e1)).1] 89 (0, 0)) ∧ w'.heap[b]? = some (.cells (bufV (layStep (e, bs) at_ (f, e1)).2) 5 (0, 0)) ∧ Near2 w w' g b := by
  have HP := Aside0.mk hp
  have HBL := Aside0.mk hb
  have HBF := Aside0.mk hbuf
  have HBS := Aside0.mk hbs
  have H1 := Aside0.mk h1
  have H2 := Aside0.mk h2
  clear hp hb hbuf hbs h1 h2
  generalize hst : layStep (e, bs) at_ (f, e1) = st
  have HST := Aside0.mk hst
  clear hst
  go_enter Tryz.func50, Tryz.ntmps50
  go_wp2_with (first
    | (go_at_call 69; (with_reducible refine (strf_Put.calls s wd f e1 _ HP.out).mono ?_); rintro en w1 ⟨v0, rfl, ho, hb1⟩; have HB1 := Aside0.mk hb1; have HO := Aside0.mk ho; clear hb1 ho; obtain ⟨F, fc, ev⟩ := Kd.R_slice HO.out; subst ev)
    | (go_at_call 70; (with_reducible refine (layer_field.calls F fc g b f bs at_ e e1 _ H1.out H2.out HBS.out ?s1 (blk_below HBL.out HB1.out) (blk_below HBF.out HB1.out) ?s2 ?s3).mono ?_); (case s1 => exact (Kd.R_reads' HO.out).2.1); (case s2 => exact (Kd.R_reads' HO.out).2.2); (case s3 => intro ad ea _; obtain ⟨_, how⟩ := Kd.R_own HO.out; have h_ := own_baseH how ad.block (by rw [ea]; rfl); have h2_ := blk_lt HBL.out; omega); rintro en w2 ⟨rfl, hg2, hb2, hn⟩; have HG2 := Aside0.mk hg2; have HB2 := Aside0.mk hb2; have HN2 := Aside0.mk hn; clear hg2 hb2 hn))
  refine bodyPost_end (v := .tuple #[]) (by simp [results, Tryz.results50, go_sem]) rfl (show _ ∧ _ from ⟨rfl, by rw [← HST.out]; exact HG2.out, by rw [← HST.out]; exact HB2.out, (Near2.of_below HB1.out g b).trans HN2.out⟩)
set_option maxHeartbeats 4000000 in
set_option maxRecDepth 100000 in
theorem layer_number.calls (k : Nat) (g b : Nat) (f bs : List Int) (at_ wd : Nat) (s : Int) (e e1 : Int) (w : World) (h1 : at_ < 512) (h2 : at_ + f.length ≤ 512) (hbs : bs.length = 512)
    (hb : w.heap[g]? = some (.cells #[.slice (some ⟨b, 0, none⟩) 512 512, .int .i64 e] 89 (0, 0))) (hbuf : w.heap[b]? = some (.cells (bufV bs) 5 (0, 0))) (hp : numf_Put.f k s (wd : Int) = some (f, e1)) :
    Calls Tryz.prog 51 #[.pointer (some ⟨g, 0, none⟩), .int .i64 at_, .int .i64 wd, .int .i64 s] w fun en w' => en = .returned (.tuple #[]) ∧ w'.heap[g]? = some (.cells #[.slice (some ⟨b, 0, none⟩) 512 512, .int .i64 (layStep (e, bs) at_ (f, e1)).1] 89 (0, 0)) ∧ w'.heap[b]? = some (.cells (bufV (layStep (e, bs) at_ (f, e1)).2) 5 (0, 0)) ∧ Near2 w w' g b := by
  have HP := Aside0.mk hp
  have HBL := Aside0.mk hb
  have HBF := Aside0.mk hbuf
  have HBS := Aside0.mk hbs
  have H1 := Aside0.mk h1
  have H2 := Aside0.mk h2
  clear hp hb hbuf hbs h1 h2
  generalize hst : layStep (e, bs) at_ (f, e1) = st
  have HST := Aside0.mk hst
  clear hst
  go_enter Tryz.func51, Tryz.ntmps51
  go_wp2_with (first
    | (go_at_call 71; (with_reducible refine (numf_Put.calls k s wd f e1 _ HP.out).mono ?_); rintro en w1 ⟨v0, rfl, ho, hb1⟩; have HB1 := Aside0.mk hb1; have HO := Aside0.mk ho; clear hb1 ho; obtain ⟨F, fc, ev⟩ := Kd.R_slice HO.out; subst ev)
    | (go_at_call 70; (with_reducible refine (layer_field.calls F fc g b f bs at_ e e1 _ H1.out H2.out HBS.out ?s1 (blk_below HBL.out HB1.out) (blk_below HBF.out HB1.out) ?s2 ?s3).mono ?_); (case s1 => exact (Kd.R_reads' HO.out).2.1); (case s2 => exact (Kd.R_reads' HO.out).2.2); (case s3 => intro ad ea _; obtain ⟨_, how⟩ := Kd.R_own HO.out; have h_ := own_baseH how ad.block (by rw [ea]; rfl); have h2_ := blk_lt HBL.out; omega); rintro en w2 ⟨rfl, hg2, hb2, hn⟩; have HG2 := Aside0.mk hg2; have HB2 := Aside0.mk hb2; have HN2 := Aside0.mk hn; clear hg2 hb2 hn))
  refine bodyPost_end (v := .tuple #[]) (by simp [results, Tryz.results51, go_sem]) rfl (show _ ∧ _ from ⟨rfl, by rw [← HST.out]; exact HG2.out, by rw [← HST.out]; exact HB2.out, (Near2.of_below HB1.out g b).trans HN2.out⟩)
theorem layer_text.at (g b : Nat) (f bs : List Int) (at_ wd : Nat) (s : ByteArray) (e e1 : Int) (w : World) (ai wi : Int) (ha : (at_ : Int) = ai) (hw : (wd : Int) = wi) (h1 : at_ < 512) (h2 : at_ + f.length ≤ 512) (hbs : bs.length = 512)
    (hb : w.heap[g]? = some (.cells #[.slice (some ⟨b, 0, none⟩) 512 512, .int .i64 e] 89 (0, 0))) (hbuf : w.heap[b]? = some (.cells (bufV bs) 5 (0, 0))) (hp : strf_Put.f s wi = some (f, e1)) :
    Calls Tryz.prog 50 #[.pointer (some ⟨g, 0, none⟩), .int .i64 ai, .int .i64 wi, .string s] w fun en w' => en = .returned (.tuple #[]) ∧ w'.heap[g]? = some (.cells #[.slice (some ⟨b, 0, none⟩) 512 512, .int .i64 (layStep (e, bs) at_ (f, e1)).1] 89 (0, 0)) ∧ w'.heap[b]? = some (.cells (bufV (layStep (e, bs) at_ (f, e1)).2) 5 (0, 0)) ∧ Near2 w w' g b := by
  subst ha
  subst hw
  exact layer_text.calls g b f bs at_ wd s e e1 w h1 h2 hbs hb hbuf hp
theorem layer_number.at (k : Nat) (g b : Nat) (f bs : List Int) (at_ wd : Nat) (s : Int) (e e1 : Int) (w : World) (ai wi : Int) (ha : (at_ : Int) = ai) (hw : (wd : Int) = wi) (h1 : at_ < 512) (h2 : at_ + f.length ≤ 512) (hbs : bs.length = 512)
    (hb : w.heap[g]? = some (.cells #[.slice (some ⟨b, 0, none⟩) 512 512, .int .i64 e] 89 (0, 0))) (hbuf : w.heap[b]? = some (.cells (bufV bs) 5 (0, 0))) (hp : numf_Put.f k s wi = some (f, e1)) :
    Calls Tryz.prog 51 #[.pointer (some ⟨g, 0, none⟩), .int .i64 ai, .int .i64 wi, .int .i64 s] w fun en w' => en = .returned (.tuple #[]) ∧ w'.heap[g]? = some (.cells #[.slice (some ⟨b, 0, none⟩) 512 512, .int .i64 (layStep (e, bs) at_ (f, e1)).1] 89 (0, 0)) ∧ w'.heap[b]? = some (.cells (bufV (layStep (e, bs) at_ (f, e1)).2) 5 (0, 0)) ∧ Near2 w w' g b := by
  subst ha
  subst hw
  exact layer_number.calls k g b f bs at_ wd s e e1 w h1 h2 hbs hb hbuf hp
end Go.Proofs.YtjidenkhgeoaiaaGreatDoor.Hand

namespace Go.Proofs.YtjidenkhgeoaiaaGreatDoor.P
open Go.RowKit Go.Proofs.YtjidenkhgeoaiaaGreatDoorW.PrintWords Go.Proofs.YtjidenkhgeoaiaaGreatDoorW.PrintLast Go.Proofs.YtjidenkhgeoaiaaGreatDoorW.PrintMore Go.Proofs.YtjidenkhgeoaiaaGreatDoor.Hand
attribute [local go_sem] max2_int min2_int max_two min_two max_three min_three max_four min_four   -- for this text's walks alone
set_option linter.unusedVariables false
set_option linter.unusedSimpArgs false

/-! ### hsum_Sum: function 57 -/
mutual
def hsum_Sum.l0 : Nat → List Int → Int → Int → Option (Int × Int)
 | 0, _, _, _ => none
 | k + 1, x0, x4, x10 => if x10 < 512 then (if 0 ≤ x10 then (if x10 < (x0.length : Int) then (hsum_Sum.l0 k x0 (wrap64 (x4 + (wrap64 (rd x0 x10)))) (wrap64 (x10 + 1))) else (none)) else (none)) else (hsum_Sum.l1 k x0 x4 0)
def hsum_Sum.l1 : Nat → List Int → Int → Int → Option (Int × Int)
 | 0, _, _, _ => none
 | k + 1, x0, x4, x21 => if x21 < 8 then (if 0 ≤ (wrap64 (148 + x21)) then (if (wrap64 (148 + x21)) < (x0.length : Int) then (hsum_Sum.l1 k x0 (wrap64 (x4 + (wrap64 (32 - (wrap64 (rd x0 (wrap64 (148 + x21)))))))) (wrap64 (x21 + 1))) else (none)) else (none)) else (some (x4, 0))
end
def hsum_Sum.f (k : Nat) (l0 : List Int) : Option (Int × Int) := if (l0.length : Int) = 512 then (hsum_Sum.l0 k l0 0 0) else (some (0, 1))
theorem hsum_Sum.mono_l : ∀ k, (∀ y0 y1 y2, LeO (hsum_Sum.l0 k y0 y1 y2) (hsum_Sum.l0 (k + 1) y0 y1 y2)) ∧ (∀ y0 y1 y2, LeO (hsum_Sum.l1 k y0 y1 y2) (hsum_Sum.l1 (k + 1) y0 y1 y2))
 | 0 => ⟨fun _ _ _ r h => by simp [hsum_Sum.l0] at h, fun _ _ _ r h => by simp [hsum_Sum.l1] at h⟩
 | k + 1 => by
  obtain ⟨ih0, ih1⟩ := hsum_Sum.mono_l k
  refine ⟨?_, ?_⟩
  ·intro y0 y1 y2
   unfold hsum_Sum.l0
   repeat' first
   | (with_reducible exact ih0 _ _ _)
   | (with_reducible exact ih1 _ _ _)
   | (with_reducible exact LeO.refl _)
   | (with_reducible exact LeO.none _)
   | (with_reducible refine LeO.ite ?_ ?_)
   | (with_reducible refine LeO.bind ?_ (fun _ => ?_))
   | exact ih0 _ _ _
   | exact ih1 _ _ _
   | exact LeO.none _
   | refine LeO.ite ?_ ?_
   | refine LeO.bind ?_ (fun _ => ?_)
  ·intro y0 y1 y2
   unfold hsum_Sum.l1
   repeat' first
   | (with_reducible exact ih0 _ _ _)
   | (with_reducible exact ih1 _ _ _)
   | (with_reducible exact LeO.refl _)
   | (with_reducible exact LeO.none _)
   | (with_reducible refine LeO.ite ?_ ?_)
   | (with_reducible refine LeO.bind ?_ (fun _ => ?_))
   | exact ih0 _ _ _
   | exact ih1 _ _ _
   | exact LeO.none _
   | refine LeO.ite ?_ ?_
   | refine LeO.bind ?_ (fun _ => ?_)
theorem hsum_Sum.mono : ∀ a0 k, LeO (hsum_Sum.f k a0) (hsum_Sum.f (k + 1) a0) := by
 intro a0 k
 obtain ⟨ih0, ih1⟩ := hsum_Sum.mono_l k
 unfold hsum_Sum.f
 repeat' first
   | (with_reducible exact ih0 _ _ _)
   | (with_reducible exact ih1 _ _ _)
   | (with_reducible exact LeO.refl _)
   | (with_reducible exact LeO.none _)
   | (with_reducible refine LeO.ite ?_ ?_)
   | (with_reducible refine LeO.bind ?_ (fun _ => ?_))
   | exact ih0 _ _ _
   | exact ih1 _ _ _
   | exact LeO.none _
   | refine LeO.ite ?_ ?_
   | refine LeO.bind ?_ (fun _ => ?_)
set_option maxHeartbeats 8000000 in
set_option maxRecDepth 100000 in
theorem hsum_Sum.calls (k : Nat) (A0 : Option Addr) (c0 : Nat) (l0 : List Int) (r1 : Int) (r2 : Int) (w : World) (hr0 : Kd.C (Kd.int .u8) w A0 l0.length l0) (hc0 : l0.length ≤ c0) (h : hsum_Sum.f k l0 = some (r1, r2)) :
  Calls Tryz.prog 57 #[.slice A0 l0.length c0] w fun e w' => e = .returned (.tuple #[.int .i64 r1, .int .i64 r2]) ∧ Drawn0 w w' := by
 have HR0 := Aside0.mk hr0
 have HC0 := Aside0.mk hc0
 clear hr0 hc0
 have H : (if (l0.length : Int) = 512 then (hsum_Sum.l0 k l0 0 0) else (some (0, 1))) = some (r1, r2) := h
 clear h
 by_cases c2 : (l0.length : Int) = 512
 ·rw [if_pos c2] at H
  have c2b0 : ((l0.length : Int) == 512) = true := beq_iff_eq.mpr c2
  have c2b1 : ((l0.length : Int) != 512) = false := bne_eq_false_iff_eq.mpr c2
  clear c2
  have H' := Aside0.mk H
  clear H
  go_enter Tryz.func57, Tryz.ntmps57
  go_wp2
  go_loopg [4, 10] k (fun kq v4 v10 w' => ∃ (x4_1 : Int) (x10_1 : Int), v4 = .int .i64 x4_1 ∧ v10 = .int .i64 x10_1 ∧ Aside0 (hsum_Sum.l0 kq l0 x4_1 x10_1 = some (r1, r2)) ∧ Aside0 (kq ≤ k) ∧ Drawn0 w w')
  case atStart => exact ⟨(0), (0), (by first | rfl | (simp; done) | (simp [*]; done)), (by first | rfl | (simp; done) | (simp [*]; done)), H', ⟨Nat.le_refl _⟩, by repeat (first | exact Drawn0.refl _ | apply Drawn0.step)⟩
  case round =>
   clear H'
   try clear c2
   try clear c2b0
   try clear c2b1
   try clear p2
   obtain ⟨x4_1, x10_1, rfl, rfl, HA, HK1, ⟨m1, rfl⟩⟩ := hrel
   cases gk with
   | zero => exact absurd HA.out (by simp [hsum_Sum.l0])
   | succ k1 =>
    have H := HA.out
    clear HA
    simp only [hsum_Sum.l0] at H
    by_cases c3 : x10_1 < 512
    ·rw [if_pos c3] at H
     have c3b0 : decide (x10_1 < 512) = true := decide_eq_true c3
     clear c3
     by_cases c4 : 0 ≤ x10_1
     ·rw [if_pos c4] at H
      have c4b0 : decide (0 ≤ x10_1) = true := decide_eq_true c4
      clear c4
      by_cases c5 : x10_1 < (l0.length : Int)
      ·rw [if_pos c5] at H
       have c5b0 : decide (x10_1 < (l0.length : Int)) = true := decide_eq_true c5
       clear c5
       have H' := Aside0.mk H
       clear H
       have p484 : 0 ≤ (x10_1 : Int) := of_decide_eq_true (by first | (with_reducible assumption) | assumption)
       have q484 : x10_1 < (l0.length : Int) := of_decide_eq_true (by first | (with_reducible assumption) | assumption)
       obtain ⟨ad484, e484, hx484_0⟩ := Kd.at_int HR0.out x10_1 p484 q484
       cases e484
       replace p484 := eq_true p484
       replace q484 := eq_true q484
       go_wp2
       go_roundg k1
       case measure => have := HK1.out; omega
       case rel => exact ⟨(wrap64 (x4_1 + (wrap64 (rd l0 x10_1)))), (wrap64 (x10_1 + 1)), (by first | rfl | (simp; done) | (simp [*]; done)), (by first | rfl | (simp; done) | (simp [*]; done)), H', ⟨by have := HK1.out; omega⟩, by repeat (first | exact Drawn0.refl _ | apply Drawn0.step)⟩
      ·rw [if_neg c5] at H
       exact absurd H (by simp)
     ·rw [if_neg c4] at H
      exact absurd H (by simp)
    ·rw [if_neg c3] at H
     have c3b0 : decide (x10_1 < 512) = false := decide_eq_false c3
     clear c3
     have H' := Aside0.mk H
     clear H
     go_wp2
     go_loopg [4, 21] k1 (fun kq v4 v21 w' => ∃ (x4_2 : Int) (x21_2 : Int), v4 = .int .i64 x4_2 ∧ v21 = .int .i64 x21_2 ∧ Aside0 (hsum_Sum.l1 kq l0 x4_2 x21_2 = some (r1, r2)) ∧ Aside0 (kq ≤ k1) ∧ Drawn0 w w')
     case atStart => exact ⟨(x4_1), (0), (by first | rfl | (simp; done) | (simp [*]; done)), (by first | rfl | (simp; done) | (simp [*]; done)), H', ⟨Nat.le_refl _⟩, by repeat (first | exact Drawn0.refl _ | apply Drawn0.step)⟩
     case round =>
      clear H'
      try clear c2
      try clear c2b0
      try clear c2b1
      try clear p2
      try clear c3
      try clear c3b0
      try clear c4
      try clear c4b0
      try clear p4
      try clear q4
      try clear hx4
      try clear c5
      try clear c5b0
      try clear hx484_0
      try clear p2
      try clear p484
      try clear q484
      obtain ⟨x4_2, x21_2, rfl, rfl, HA, HK2, ⟨m2, rfl⟩⟩ := hrel
      cases gk with
      | zero => exact absurd HA.out (by simp [hsum_Sum.l1])
      | succ k2 =>
       have H := HA.out
       clear HA
       simp only [hsum_Sum.l1] at H
       by_cases c6 : x21_2 < 8
       ·rw [if_pos c6] at H
        have c6b0 : decide (x21_2 < 8) = true := decide_eq_true c6
        clear c6
        obtain ⟨ji7, hji7⟩ : ∃ j_ : Int, (wrap64 (148 + x21_2)) = j_ := ⟨_, rfl⟩
        replace H : (if 0 ≤ (ji7) then (if (ji7) < (l0.length : Int) then (hsum_Sum.l1 k2 l0 (wrap64 (x4_2 + (wrap64 (32 - (wrap64 (rd l0 (ji7))))))) (wrap64 (x21_2 + 1))) else (none)) else (none)) = some (r1, r2) := by first | (rw [hji7] at H; exact H) | (simp only [hji7] at H ⊢; exact H)
        have hji7w : (IntKind.i64.wrap (148 + x21_2)) = ji7 := (i64_w _).trans hji7
        by_cases c8 : 0 ≤ (ji7)
        ·rw [if_pos c8] at H
         have c8b0 : decide (0 ≤ (ji7)) = true := decide_eq_true c8
         clear c8
         by_cases c9 : (ji7) < (l0.length : Int)
         ·rw [if_pos c9] at H
          have c9b0 : decide ((ji7) < (l0.length : Int)) = true := decide_eq_true c9
          clear c9
          have H' := Aside0.mk H
          clear H
          have p485 : 0 ≤ ((ji7) : Int) := of_decide_eq_true (by first | (with_reducible assumption) | assumption)
          have q485 : (ji7) < (l0.length : Int) := of_decide_eq_true (by first | (with_reducible assumption) | assumption)
          obtain ⟨ad485, e485, hx485_0⟩ := Kd.at_int HR0.out (ji7) p485 q485
          cases e485
          replace p485 := eq_true p485
          replace q485 := eq_true q485
          go_wp2
          go_roundg k2
          case measure => have := HK1.out; have := HK2.out; omega
          case rel => exact ⟨(wrap64 (x4_2 + (wrap64 (32 - (wrap64 (rd l0 (ji7))))))), (wrap64 (x21_2 + 1)), (by first | rfl | (simp; done) | (simp only [← hji7] <;> (first | rfl | simp)) | (simp [*]; done)), (by first | rfl | (simp; done) | (simp [*]; done)), H', ⟨by have := HK1.out; have := HK2.out; omega⟩, by repeat (first | exact Drawn0.refl _ | apply Drawn0.step)⟩
         ·rw [if_neg c9] at H
          exact absurd H (by simp)
        ·rw [if_neg c8] at H
         exact absurd H (by simp)
       ·rw [if_neg c6] at H
        have c6b0 : decide (x21_2 < 8) = false := decide_eq_false c6
        clear c6
        simp only [Option.some.injEq, Prod.mk.injEq] at H
        obtain ⟨rfl, rfl⟩ := H
        go_wp2
        go_ret2
        exact ⟨by first | rfl | (simp; done) | (simp [*]; done), by repeat (first | exact Drawn0.refl _ | apply Drawn0.step)⟩
 ·rw [if_neg c2] at H
  have c2b0 : ((l0.length : Int) == 512) = false := beq_eq_false_iff_ne.mpr c2
  have c2b1 : ((l0.length : Int) != 512) = true := bne_iff_ne.mpr c2
  simp only [Option.some.injEq, Prod.mk.injEq] at H
  obtain ⟨rfl, rfl⟩ := H
  go_enter Tryz.func57, Tryz.ntmps57
  go_wp2
  go_ret2
  exact ⟨by first | rfl | (simp; done) | (simp [*]; done), by repeat (first | exact Drawn0.refl _ | apply Drawn0.step)⟩

end Go.Proofs.YtjidenkhgeoaiaaGreatDoor.P

/- Contract, by hand, of hsum.Put, in the printer's form. -/
namespace Go.Proofs.YtjidenkhgeoaiaaGreatDoor.Hand
open Go.RowKit Go.Proofs.YtjidenkhgeoaiaaGreatDoor.P Go.Proofs.YtjidenkhgeoaiaaGreatDoorW.PrintWords Go.Proofs.YtjidenkhgeoaiaaGreatDoorW.PrintLast Go.Proofs.YtjidenkhgeoaiaaGreatDoorW.PrintMore
set_option linter.unusedVariables false
set_option linter.unusedSimpArgs false

theorem info_u8' : (Tryz.prog.info? 5).map (fun i => (i.zero, i.size, i.bytes)) = some (some (.int .u8 0), (Kd.int .u8).sz, 1) := by kernel_rfl
theorem lit2 (W : World) : Kd.C (Kd.int .u8) (W.alloc (.cells #[.int .u8 0, .int .u8 32] 5)) (some ⟨W.heap.size, 0, none⟩) 2 [0, 32] := by
  refine Kd.C_of_reads (enc := Value.int .u8) (d := 0) (h1 := fun _ => rfl) ⟨rfl, by omega, fun _ => ⟨_, rfl, fun j hj => ?_⟩⟩
  rw [add_flat, cell_fresh]
  match j, hj with
  | 0, _ => rfl
  | 1, _ => rfl

theorem heap_two (w : World) (o : Obj) (g : Nat) (h : g < w.heap.size) : (w.alloc o).drew.heap[g]? = w.heap[g]? := by
  show (w.heap.push o)[g]? = w.heap[g]?
  rw [Array.getElem?_push_lt h, Array.getElem?_eq_getElem h]
theorem lit2' (W : World) : Kd.C (Kd.int .u8) (W.alloc (.cells #[.int .u8 0, .int .u8 32] 5)).drew (some ⟨W.heap.size, 0, none⟩) 2 [0, 32] := Kd.C_drew (lit2 W)
theorem splice_take (L : List Value) (l0 d : List Int) (hl : l0.length = 512) (h8 : d.length = 8) (hL : L.take 512 = l0.map (Value.int .u8)) : (splice L 148 (d.map (Value.int .u8))).take 512 = (l0.take 148 ++ d ++ l0.drop 156).map (Value.int .u8) := by
  obtain ⟨T, rfl⟩ : ∃ T, L = l0.map (Value.int .u8) ++ T := ⟨L.drop 512, by rw [← hL, List.take_append_drop]⟩
  have hx : (l0.map (Value.int .u8)).length = 512 := by rw [List.length_map, hl]
  have hc : (d.map (Value.int .u8)).length = 8 := by rw [List.length_map, h8]
  unfold splice
  rw [hc, List.take_append_of_le_length (i := 148) (by omega), List.drop_append_of_le_length (by omega), List.map_append, List.map_append, List.map_take, List.map_drop]
  rw [show List.take 148 (l0.map (Value.int .u8)) ++ (d.map (Value.int .u8) ++ (List.drop (148 + 8) (l0.map (Value.int .u8)) ++ T)) = (List.take 148 (l0.map (Value.int .u8)) ++ d.map (Value.int .u8) ++ List.drop 156 (l0.map (Value.int .u8))) ++ T by simp only [List.append_assoc]]
  exact List.take_left' (by simp only [List.length_append, List.length_take, List.length_drop, hx, hc]; rfl)
theorem map_at (l : List Int) (j : Nat) (v : Value) (h : (l.map (Value.int .u8))[j]? = some v) : Value.int .u8 (l.getD j 0) = v := by
  rw [List.getElem?_map] at h
  cases hx : l[j]? with
  | none => rw [hx] at h; cases h
  | some x => rw [hx] at h; rw [List.getD_eq_getElem?_getD, hx]; simpa using h

def hsum_Put.f (l : List Int) : Option (List Int × Int) :=
  (hsum_Sum.f 1000 l).bind fun p => if p.2 = 0 then (numf_Octal.f 100 p.1 6).bind fun q => if q.2 = 0 then (if q.1.length = 6 ∧ l.length = 512 then some (l.take 148 ++ (q.1 ++ [0, 32]) ++ l.drop 156, 0) else none) else some ([], q.2) else some ([], p.2)

set_option maxHeartbeats 2000000 in
set_option maxRecDepth 100000 in
theorem hsum_Put.calls (A0 : Option Addr) (c0 : Nat) (l0 : List Int) (r1 : List Int) (r2 : Int) (w : World) (hr0 : Kd.C (Kd.int .u8) w A0 l0.length l0) (hc0 : l0.length ≤ c0) (h : hsum_Put.f l0 = some (r1, r2)) :
    Calls Tryz.prog 52 #[.slice A0 l0.length c0] w fun e w' => ∃ v0_ : Value, e = .returned (.tuple #[v0_, .int .i64 r2]) ∧ Kd.R (Kd.int .u8) 5 w' w.heap.size (fun _ => True) v0_ r1 ∧ Below w.heap.size w w' := by
  obtain ⟨⟨n, e1⟩, hS, h⟩ := Option.bind_eq_some_iff.1 h
  have HS := Aside0.mk hS
  have HR0 := Aside0.mk hr0
  have HC0 := Aside0.mk hc0
  have HB := Aside0.mk (Below.refl w.heap.size w)
  clear hS hr0 hc0
  by_cases c1 : e1 = 0
  rotate_left
  · rw [if_neg c1] at h
    simp only [Option.some.injEq, Prod.mk.injEq] at h
    obtain ⟨rfl, rfl⟩ := h
    have b1 : (e1 != 0) = true := bne_iff_ne.2 c1
    clear c1
    go_enter Tryz.func52, Tryz.ntmps52
    go_wp2_with (go_at_call 57; (with_reducible refine (hsum_Sum.calls 1000 A0 c0 l0 n e1 _ HR0.out HC0.out HS.out).mono ?_); rintro e w' ⟨rfl, hd⟩)
    go_ret2
    exact ⟨_, rfl, Kd.R_nil _ _ _ _ _, hd.below⟩
  rw [if_pos c1] at h
  subst c1
  obtain ⟨⟨d, e2⟩, hO, h⟩ := Option.bind_eq_some_iff.1 h
  have HO := Aside0.mk hO
  clear hO
  by_cases c2 : e2 = 0
  rotate_left
  · rw [if_neg c2] at h
    simp only [Option.some.injEq, Prod.mk.injEq] at h
    obtain ⟨rfl, rfl⟩ := h
    have b2 : (e2 != 0) = true := bne_iff_ne.2 c2
    clear c2
    go_enter Tryz.func52, Tryz.ntmps52
    go_wp2_with (first
      | (go_at_call 57; (with_reducible refine (hsum_Sum.calls 1000 A0 c0 l0 n 0 _ HR0.out HC0.out HS.out).mono ?_); rintro e w1 ⟨rfl, hd⟩; have HD := Aside0.mk hd; clear hd)
      | (go_at_call 72; (with_reducible refine (numf_Octal.calls 100 n 6 d e2 _ HO.out).mono ?_); rintro e w2 ⟨v6, rfl, hr6, hb⟩; have HB2 := Aside0.mk hb; clear hb hr6))
    go_ret2
    exact ⟨_, rfl, Kd.R_nil _ _ _ _ _, below_step HD.out.below HB2.out⟩
  rw [if_pos c2] at h
  subst c2
  split at h
  rotate_left
  · cases h
  rename_i hlen
  simp only [Option.some.injEq, Prod.mk.injEq] at h
  obtain ⟨hr1, rfl⟩ := h
  obtain ⟨hd6, h512⟩ := hlen
  obtain ⟨b, off, rfl, hz⟩ := C_at HR0.out 0 (by omega)
  clear hz
  have HFIN : ∀ (w2 : World), Below w.heap.size w w2 → Calls Tryz.prog 23 #[.slice (some ⟨b, off, none⟩) l0.length c0] w2 fun e w' => ∃ v', e = .returned v' ∧ w'.ownsRow w2.heap.size 5 1 v' l0.length (l0.map (Value.int .u8)) ∧ v' ≠ .slice none 0 0 ∧ Below w2.heap.size w2 w' := fun w2 hb => by
    obtain ⟨_, hle, hcl⟩ := Kd.reads_of_C (enc := Value.int .u8) (d := 0) (h1 := fun _ => rfl) (Kd.C_below HR0.out hb)
    obtain ⟨ad, e, hcl⟩ := hcl (by omega)
    cases e
    exact Tryz.bytes_Clone_at ⟨b, off, none⟩ l0.length c0 l0 w2 rfl (by omega) hcl
  have HF := Aside0.mk HFIN
  have H6 := Aside0.mk (show d.length = 6 from hd6)
  have H5 := Aside0.mk h512
  have HR1 := Aside0.mk hr1
  have h148 : (148 : Int) ≤ (l0.length : Int) := by omega
  clear HFIN h hr1 hd6 h512
  go_enter Tryz.func52, Tryz.ntmps52
  go_wp2_with (first
      | (go_at_call 57; (with_reducible refine (hsum_Sum.calls 1000 _ c0 l0 n 0 _ HR0.out HC0.out HS.out).mono ?_); rintro e w1 ⟨rfl, hd⟩; have HD := Aside0.mk hd.below; clear hd)
      | (go_at_call 72; (with_reducible refine (numf_Octal.calls 100 n 6 d 0 _ HO.out).mono ?_); rintro e w2 ⟨v6, rfl, hr6, hb⟩; have HB2 := Aside0.mk (below_step HD.out hb); have HR6 := Aside0.mk hr6; clear hb hr6)
      | (go_at_call 23; (with_reducible refine (HF.out w2 HB2.out).mono ?_); rintro e w3 ⟨v7, rfl, hown, hnn, hb⟩; have HB3 := Aside0.mk hb; have HOW := Aside0.mk hown; clear hb hown
         obtain ⟨A6, c6, e6⟩ := Kd.R_slice HR6.out
         subst e6
         rcases HOW.out.2 with ⟨hx, _⟩ | ⟨g, cap, cur, hx, hge, hgh, hnc, hcm, hcs, htk⟩
         · exact absurd hx hnn
         subst hx
         have HG := Aside0.mk hgh
         have HGE := Aside0.mk hge
         have hcapl : (l0.length : Int) ≤ (cap : Int) := by omega
         clear hge hgh hnn HOW))
  have hlow : w.heap.size ≤ w1.heap.size := below_size HD.out
  have hne : some g ≠ (Value.slice A6 d.length c6).ownBlock := fun e => by
    have := Kd.R_lt HR6.out g e.symm
    have := HGE.out
    omega
  have HNE := Aside0.mk hne
  have HR7 := Aside0.mk (Kd.R_lower (Kd.R_below HR6.out HB3.out) hlow)
  have HB4 := Aside0.mk (below_step HB2.out HB3.out)
  have HSZ := Aside0.mk hcs
  have HTK := Aside0.mk htk
  have HNC := Aside0.mk hnc
  have HCM := Aside0.mk hcm
  have HRL := Aside0.mk (below_size HB2.out)
  clear hne hcs htk hnc hcm HR6 HB3 hlow HD HF HR0 h HB2
  have hDL := H6.out
  have hLL := H5.out
  have HR8 : Kd.R (Kd.int .u8) 5 w3 w.heap.size (fun _ => True) (.slice A6 6 c6) d := by have := HR7.out; rw [hDL] at this; exact this
  have HR9 := Aside0.mk HR8
  have HNE6 : Aside0 (some g ≠ (Value.slice A6 6 c6).ownBlock) := ⟨by have := HNE.out; rw [hDL] at this; exact this⟩
  have h30 : g < w3.heap.size := by
    rcases Nat.lt_or_ge g w3.heap.size with h | h
    · exact h
    · have := HG.out; rw [Array.getElem?_eq_none h] at this; cases this
  have H30 := Aside0.mk h30
  clear HR8 HR7 HNE h30
  go_region_law (first
    | (refine Kd.R_append_rows_step (Kd.int .u8) (w0 := w) w.heap.size (by rfl) (.tmp 28) (.tmp 29) 31 5 (.int .u8 0) 1 rfl Tryz.underlying31 info_u8' rfl (by decide) (by omega) (.slice A6 6 c6) d [0, 32] _ _ _ (fun _ => True) (fun _ => False) (by rfl) (by rfl) (Kd.R_drew (Kd.R_alloc HR9.out _)) (lit2' _) (fun _ _ h => h) (fun _ h => h.elim) (fun _ _ => trivial) (below_drew1 (HB4.out.alloc (below_size HB4.out) _)) (Nat.le_trans (below_size HB4.out) (by simp [World.drew])) (by rw [hDL]; omega) ?_
       intro v8 w5 ho hb hg hat
       obtain ⟨A8, c8, e8⟩ := Kd.R_slice ho
       have hl8 : (d ++ [0, 32]).length = 8 := by rw [List.length_append, hDL]; rfl
       rw [hl8] at e8
       subst e8
       have HO8 := Aside0.mk ho
       have HB5 := Aside0.mk hb
       have HG5 := Aside0.mk (show w5.heap[g]? = some (.cells cur.toList.toArray 5 (0, 0)) by
         rw [hg.block g (by have := H30.out; simp [World.drew]; omega) HNE6.out]
         have h1 := HG.out
         have h2 := H30.out
         rw [show cur.toList.toArray = cur from by simp]
         rw [← h1]
         exact heap_two w3 _ g h2)
       have HSP := Aside0.mk (show ∃ ad, A8 = some ad ∧ ∀ j v, ((d ++ [0, 32]).map (Value.int .u8))[j]? = some v → w5.cell? (ad.add j) = some v by
         have hr := (Kd.R_reads' HO8.out).2.2
         rw [hl8] at hr
         obtain ⟨_, _, h3⟩ := Kd.reads_of_C (enc := Value.int .u8) (d := 0) (h1 := fun _ => rfl) hr
         obtain ⟨ad, e, hc⟩ := h3 (by omega)
         refine ⟨ad, e, fun j v hj => ?_⟩
         have hjl : j < 8 := by
           rcases Nat.lt_or_ge j 8 with h | h
           · exact h
           · rw [List.getElem?_eq_none (by rw [List.length_map, hl8]; exact h)] at hj; cases hj
         rw [hc j hjl, map_at _ j v hj])
       clear ho hb hg hat hl8)
    | (have hl8 : (d ++ [0, 32]).length = 8 := by rw [List.length_append, hDL]; rfl
       refine step_copy_splice rfl (.tmp 27) (.tmp 30) 31 31 (by rfl) 5 Tryz.underlying31 (by kernel_rfl) (if cap = 148 then some ⟨g, 0, none⟩ else some ⟨g, 148, none⟩) A8 364 (cap - 148) 8 c8 (by rfl) (by rfl) g 148 cur.toList 5 HG5.out ((d ++ [0, 32]).map (Value.int .u8)) (by rw [List.length_map, hl8]; rfl) (fun _ => ⟨by rw [if_neg (by omega)], HSP.out⟩) (by have := HSZ.out; rw [List.length_map, hl8, Array.length_toList]; omega) (by intro v hv; obtain ⟨x, _, rfl⟩ := List.mem_map.1 hv; rfl) w.heap.size w HB5.out (by have := HGE.out; have := HRL.out; omega) ?_
       intro w6 hh hb6))
  go_wp2
  go_ret2
  refine ⟨_, rfl, Kd.R_of_own ?_ (fun _ _ => trivial), hb6⟩
  have hl8 : (d ++ [0, 32]).length = 8 := by rw [List.length_append, hDL]; rfl
  have hr1 : r1.length = 512 := by rw [← HR1.out]; simp only [List.length_append, List.length_take, List.length_drop, hl8, hLL]; rfl
  rw [hr1]
  have hsz := HSZ.out
  have hcap := hcapl
  refine ⟨by rw [encs_length, hr1], .inr ⟨g, cap, _, rfl, by have := HGE.out; have := HRL.out; omega, hh, by omega, HCM.out, ?_, ?_⟩⟩
  · rw [List.size_toArray, length_splice _ _ _ (by rw [List.length_map, hl8, Array.length_toList]; omega), Array.length_toList]; exact hsz
  · have h1 := HTK.out
    rw [hLL] at h1
    have := splice_take cur.toList l0 (d ++ [0, 32]) hLL hl8 h1
    show List.take 512 (splice cur.toList 148 ((d ++ [0, 32]).map (Value.int .u8))) = r1.map (Value.int .u8)
    rw [this, HR1.out]
end Go.Proofs.YtjidenkhgeoaiaaGreatDoor.Hand

namespace Go.Proofs.YtjidenkhgeoaiaaGreatDoor.P
open Go.RowKit Go.Proofs.YtjidenkhgeoaiaaGreatDoorW.PrintWords Go.Proofs.YtjidenkhgeoaiaaGreatDoorW.PrintLast Go.Proofs.YtjidenkhgeoaiaaGreatDoorW.PrintMore Go.Proofs.YtjidenkhgeoaiaaGreatDoor.Hand
attribute [local go_sem] max2_int min2_int max_two min_two max_three min_three max_four min_four   -- for this text's walks alone
set_option linter.unusedVariables false
set_option linter.unusedSimpArgs false

/-! ### head_IsType: function 38 -/
def head_IsType.f (a0 : Int) : Option (Bool) := if a0 = 48 then (some true) else (if a0 = 49 then (some true) else (if a0 = 50 then (some true) else (if a0 = 53 then (some true) else (if a0 = 120 then (some true) else (if a0 = 103 then (some true) else (some false))))))
set_option maxHeartbeats 8000000 in
set_option maxRecDepth 100000 in
theorem head_IsType.calls (a0 : Int) (r : Bool) (w : World) (h : head_IsType.f a0 = some r) :
  Calls Tryz.prog 38 #[.int .u8 a0] w fun e w' => e = .returned (.bool r) ∧ Drawn0 w w' := by
 have H : (if a0 = 48 then (some true) else (if a0 = 49 then (some true) else (if a0 = 50 then (some true) else (if a0 = 53 then (some true) else (if a0 = 120 then (some true) else (if a0 = 103 then (some true) else (some false))))))) = some r := h
 clear h
 by_cases c2 : a0 = 48
 ·rw [if_pos c2] at H
  have c2b0 : (a0 == 48) = true := beq_iff_eq.mpr c2
  have c2b1 : (a0 != 48) = false := bne_eq_false_iff_eq.mpr c2
  clear c2
  obtain rfl := Option.some.inj H
  go_enter Tryz.func38, Tryz.ntmps38
  go_wp2
  go_ret
  exact ⟨by first | rfl | (simp; done) | (simp [*]; done), by repeat (first | exact Drawn0.refl _ | apply Drawn0.step)⟩
 ·rw [if_neg c2] at H
  have c2b0 : (a0 == 48) = false := beq_eq_false_iff_ne.mpr c2
  have c2b1 : (a0 != 48) = true := bne_iff_ne.mpr c2
  by_cases c3 : a0 = 49
  ·rw [if_pos c3] at H
   have c3b0 : (a0 == 49) = true := beq_iff_eq.mpr c3
   have c3b1 : (a0 != 49) = false := bne_eq_false_iff_eq.mpr c3
   clear c3
   obtain rfl := Option.some.inj H
   go_enter Tryz.func38, Tryz.ntmps38
   go_wp2
   go_ret
   exact ⟨by first | rfl | (simp; done) | (simp [*]; done), by repeat (first | exact Drawn0.refl _ | apply Drawn0.step)⟩
  ·rw [if_neg c3] at H
   have c3b0 : (a0 == 49) = false := beq_eq_false_iff_ne.mpr c3
   have c3b1 : (a0 != 49) = true := bne_iff_ne.mpr c3
   by_cases c4 : a0 = 50
   ·rw [if_pos c4] at H
    have c4b0 : (a0 == 50) = true := beq_iff_eq.mpr c4
    have c4b1 : (a0 != 50) = false := bne_eq_false_iff_eq.mpr c4
    clear c4
    obtain rfl := Option.some.inj H
    go_enter Tryz.func38, Tryz.ntmps38
    go_wp2
    go_ret
    exact ⟨by first | rfl | (simp; done) | (simp [*]; done), by repeat (first | exact Drawn0.refl _ | apply Drawn0.step)⟩
   ·rw [if_neg c4] at H
    have c4b0 : (a0 == 50) = false := beq_eq_false_iff_ne.mpr c4
    have c4b1 : (a0 != 50) = true := bne_iff_ne.mpr c4
    by_cases c5 : a0 = 53
    ·rw [if_pos c5] at H
     have c5b0 : (a0 == 53) = true := beq_iff_eq.mpr c5
     have c5b1 : (a0 != 53) = false := bne_eq_false_iff_eq.mpr c5
     clear c5
     obtain rfl := Option.some.inj H
     go_enter Tryz.func38, Tryz.ntmps38
     go_wp2
     go_ret
     exact ⟨by first | rfl | (simp; done) | (simp [*]; done), by repeat (first | exact Drawn0.refl _ | apply Drawn0.step)⟩
    ·rw [if_neg c5] at H
     have c5b0 : (a0 == 53) = false := beq_eq_false_iff_ne.mpr c5
     have c5b1 : (a0 != 53) = true := bne_iff_ne.mpr c5
     by_cases c6 : a0 = 120
     ·rw [if_pos c6] at H
      have c6b0 : (a0 == 120) = true := beq_iff_eq.mpr c6
      have c6b1 : (a0 != 120) = false := bne_eq_false_iff_eq.mpr c6
      clear c6
      obtain rfl := Option.some.inj H
      go_enter Tryz.func38, Tryz.ntmps38
      go_wp2
      go_ret
      exact ⟨by first | rfl | (simp; done) | (simp [*]; done), by repeat (first | exact Drawn0.refl _ | apply Drawn0.step)⟩
     ·rw [if_neg c6] at H
      have c6b0 : (a0 == 120) = false := beq_eq_false_iff_ne.mpr c6
      have c6b1 : (a0 != 120) = true := bne_iff_ne.mpr c6
      by_cases c7 : a0 = 103
      ·rw [if_pos c7] at H
       have c7b0 : (a0 == 103) = true := beq_iff_eq.mpr c7
       have c7b1 : (a0 != 103) = false := bne_eq_false_iff_eq.mpr c7
       clear c7
       obtain rfl := Option.some.inj H
       go_enter Tryz.func38, Tryz.ntmps38
       go_wp2
       go_ret
       exact ⟨by first | rfl | (simp; done) | (simp [*]; done), by repeat (first | exact Drawn0.refl _ | apply Drawn0.step)⟩
      ·rw [if_neg c7] at H
       have c7b0 : (a0 == 103) = false := beq_eq_false_iff_ne.mpr c7
       have c7b1 : (a0 != 103) = true := bne_iff_ne.mpr c7
       obtain rfl := Option.some.inj H
       go_enter Tryz.func38, Tryz.ntmps38
       go_wp2
       go_ret
       exact ⟨by first | rfl | (simp; done) | (simp [*]; done), by repeat (first | exact Drawn0.refl _ | apply Drawn0.step)⟩

/-- THE ONE PURE STATEMENT of head_IsType: yours. -/
def head_IsType.Pure : Prop := ∀ (a0 : Int), (Lit.int .u8 a0).wf = true → head_IsType.f a0 = some true
theorem head_IsType.walk (P : head_IsType.Pure) (a0 : Int) (w : World) (w0 : (Lit.int .u8 a0).wf = true) :
  Calls Tryz.prog 38 #[.int .u8 a0] w fun e w' => e = .returned (.bool true) ∧ Below w.heap.size w w' := by
 have h := P a0 w0
 refine (head_IsType.calls a0 true w h).mono ?_
 rintro e w' ⟨rfl, hd⟩
 exact ⟨rfl, hd.below⟩


/-! ### head_below: function 39 -/
def head_below.f (a0_0 : ByteArray) (a0_1 : ByteArray) (a0_2 : Int) (a0_3 : Int) (a0_4 : Int) (a0_5 : Int) (a0_6 : Int) (a0_7 : Int) (a0_8 : ByteArray) : Option (Bool) := some (decide ((mn (mn (mn a0_2 a0_3) a0_4) a0_6) < 0))
set_option maxHeartbeats 8000000 in
set_option maxRecDepth 100000 in
theorem head_below.calls (a0_0 : ByteArray) (a0_1 : ByteArray) (a0_2 : Int) (a0_3 : Int) (a0_4 : Int) (a0_5 : Int) (a0_6 : Int) (a0_7 : Int) (a0_8 : ByteArray) (r : Bool) (w : World) (h : head_below.f a0_0 a0_1 a0_2 a0_3 a0_4 a0_5 a0_6 a0_7 a0_8 = some r) :
  Calls Tryz.prog 39 #[.agg #[.string a0_0, .string a0_1, .int .i64 a0_2, .int .i64 a0_3, .int .i64 a0_4, .int .i64 a0_5, .int .i64 a0_6, .int .u8 a0_7, .string a0_8]] w fun e w' => e = .returned (.bool r) ∧ Below w.heap.size w w' := by
 have hu43 := Tryz.underlying43
 have HB := Aside0.mk (Below.refl w.heap.size w)
 have H : (some (decide ((mn (mn (mn a0_2 a0_3) a0_4) a0_6) < 0))) = some r := h
 clear h
 obtain ⟨ji2, hji2⟩ : ∃ j_ : Int, (mn a0_2 a0_3) = j_ := ⟨_, rfl⟩
 replace H : (some (decide ((mn (mn (ji2) a0_4) a0_6) < 0))) = some r := by first | (rw [hji2] at H; exact H) | (simp only [hji2] at H ⊢; exact H)
 have hji2_ : (if a0_3 < a0_2 then a0_3 else a0_2) = ji2 := hji2
 obtain ⟨ji3, hji3⟩ : ∃ j_ : Int, (mn (ji2) a0_4) = j_ := ⟨_, rfl⟩
 replace H : (some (decide ((mn (ji3) a0_6) < 0))) = some r := by first | (rw [hji3] at H; exact H) | (simp only [hji3] at H ⊢; exact H)
 have hji3_ : (if a0_4 < (ji2) then a0_4 else (ji2)) = ji3 := hji3
 obtain ⟨ji4, hji4⟩ : ∃ j_ : Int, (mn (ji3) a0_6) = j_ := ⟨_, rfl⟩
 replace H : (some (decide ((ji4) < 0))) = some r := by first | (rw [hji4] at H; exact H) | (simp only [hji4] at H ⊢; exact H)
 have hji4_ : (if a0_6 < (ji3) then a0_6 else (ji3)) = ji4 := hji4
 obtain rfl := Option.some.inj H
 go_enter Tryz.func39, Tryz.ntmps39
 go_wp2_with (first | ((with_reducible refine gate_dst (N := 1) rfl ?_); refine boxA_ 1 43 #[.string a0_0, .string a0_1, .int .i64 a0_2, .int .i64 a0_3, .int .i64 a0_4, .int .i64 a0_5, .int .i64 a0_6, .int .u8 a0_7, .string a0_8] ?_; intro gb456 hg w5 hbox hb; have n0_ := Aside0.mk (bstep_ hb); have n1_ := Aside0.mk (hbox); have n2_ := Aside0.mk ((by rw [hg]; exact bsize_ : w.heap.size ≤ gb456)); have n3_ := Aside0.mk ((by rw [hg]; exact bsize_ : w.heap.size ≤ gb456)); clear HB; have HB := n0_; have BK456 := n1_; have GW456 := n2_; have GE456 := n3_; clear n0_ n1_ n2_ n3_; clear hb hbox hg; obtain ⟨hcz6_0, hcz6_1, hcz6_2, hcz6_3, hcz6_4, hcz6_5, hcz6_6, hcz6_7, hcz6_8, hfz6_0, hfz6_1, hfz6_2, hfz6_3, hfz6_4, hfz6_5, hfz6_6, hfz6_7, hfz6_8⟩ := blk_all9 BK456.out))
 go_ret
 exact ⟨by first | rfl | (simp [errW_none, errW_some] <;> rfl) | (simp only [← hji2, ← hji3, ← hji4]; first | rfl | (simp [errW_none, errW_some] <;> rfl)) | (simp [*, errW_none, errW_some] <;> rfl), by repeat (first | (with_reducible first | exact HB.out | apply below_alloc | apply pw_below_drewN | apply below_drew1 | refine below_set ?_ GE456.out) | exact HB.out)⟩

end Go.Proofs.YtjidenkhgeoaiaaGreatDoor.P

/- Contract, by hand, of head.Lay. -/
namespace Go.Proofs.YtjidenkhgeoaiaaGreatDoor.Hand
open Go.RowKit Go.Proofs.YtjidenkhgeoaiaaGreatDoor.P Go.Proofs.YtjidenkhgeoaiaaGreatDoorW Go.Proofs.YtjidenkhgeoaiaaGreatDoorW.PrintWords Go.Proofs.YtjidenkhgeoaiaaGreatDoorW.PrintLast Go.Proofs.YtjidenkhgeoaiaaGreatDoorW.PrintMore
set_option linter.unusedVariables false
set_option linter.unusedSimpArgs false

def zeros512 : List Int := List.replicate 512 0
def magicI : List Int := [117, 115, 116, 97, 114, 0, 48, 48]
def fitsB (at_ : Nat) (p : List Int × Int) : Prop := at_ + p.1.length ≤ 512
instance (at_ : Nat) (p : List Int × Int) : Decidable (fitsB at_ p) := inferInstanceAs (Decidable (_ ≤ _))
/-- The fields' bytes, one behind the other, in their places. -/
def head_fieldsL (k : Nat) (a0 : ByteArray) (a1 : ByteArray) (a2 : Int) (a3 : Int) (a4 : Int) (a5 : Int) (a6 : Int) (a7 : Int) (a8 : ByteArray) : Option (Int × List Int) :=
  (strf_Put.f a0 155).bind fun p0 => (strf_Put.f a1 100).bind fun p1 => (strf_Put.f a8 100).bind fun p2 => (numf_Put.f k a2 8).bind fun p3 => (numf_Put.f k a3 8).bind fun p4 => (numf_Put.f k a4 8).bind fun p5 => (numf_Put.f k a6 12).bind fun p6 => (numf_Put.f k a5 12).bind fun p7 => (numf_Put.f k (0 : Int) 8).bind fun p8 => (numf_Put.f k (0 : Int) 8).bind fun p9 =>
    if fitsB 345 p0 ∧ fitsB 0 p1 ∧ fitsB 157 p2 ∧ fitsB 100 p3 ∧ fitsB 108 p4 ∧ fitsB 116 p5 ∧ fitsB 124 p6 ∧ fitsB 136 p7 ∧ fitsB 329 p8 ∧ fitsB 337 p9 then some (layStep (layStep (layStep (layStep (layStep (layStep (layStep (layStep (layStep (layStep (0, zeros512) 345 p0) 0 p1) 157 p2) 100 p3) 108 p4) 116 p5) 124 p6) 136 p7) 329 p8) 337 p9) else none
def head_Lay.f (k : Nat) (a0 : ByteArray) (a1 : ByteArray) (a2 : Int) (a3 : Int) (a4 : Int) (a5 : Int) (a6 : Int) (a7 : Int) (a8 : ByteArray) : Option (List Int × Int) :=
  (head_IsType.f a7).bind fun b => if b = true then (head_fieldsL k a0 a1 a2 a3 a4 a5 a6 a7 a8).bind fun st => (if st.1 = 0 then (head_below.f a0 a1 a2 a3 a4 a5 a6 a7 a8).bind fun c => (if c = true then some ([], 10) else hsum_Put.f (splice (st.2.set 156 a7) 257 magicI)) else some ([], st.1)) else some ([], 11)
theorem layStep_len (e : Int) (bs : List Int) (at_ : Nat) (f : List Int) (e1 : Int) (h : at_ + f.length ≤ 512) (hb : bs.length = 512) : (layStep (e, bs) at_ (f, e1)).2.length = 512 := by
  unfold layStep
  by_cases he : e = 0
  · rw [if_pos he, length_splice _ _ _ (by show at_ + f.length ≤ bs.length; omega)]; exact hb
  · rw [if_neg he]; exact hb
theorem made512 : madeCells #[.int .u8 0] 512 = bufV zeros512 := by kernel_rfl
theorem bufV_C {w : World} {b : Nat} {bs : List Int} (h : w.heap[b]? = some (.cells (bufV bs) 5 (0, 0))) (hl : bs.length ≤ 9223372036854775807) : Kd.C (Kd.int .u8) w (some ⟨b, 0, none⟩) bs.length bs := by
  refine Kd.C_of_reads (enc := Value.int .u8) (d := (0 : Int)) (h1 := fun _ => rfl) ⟨rfl, hl, fun _ => ⟨_, rfl, fun j hj => ?_⟩⟩
  rw [add_flat, Nat.zero_add, blk_cell h]
  unfold bufV
  rw [List.getElem?_toArray, List.getElem?_map, List.getElem?_eq_getElem hj, List.getD_eq_getElem?_getD, List.getElem?_eq_getElem hj]
  rfl
theorem bufV_cell {w : World} {b : Nat} {bs : List Int} (h : w.heap[b]? = some (.cells (bufV bs) 5 (0, 0))) (j : Nat) (hj : j < bs.length) : w.cell? ⟨b, j, none⟩ = some (.int .u8 (bs[j]'hj)) := by
  rw [blk_cell h]
  unfold bufV
  rw [List.getElem?_toArray, List.getElem?_map, List.getElem?_eq_getElem hj]
  rfl
theorem bufV_set {w : World} {b : Nat} {bs : List Int} (h : w.heap[b]? = some (.cells (bufV bs) 5 (0, 0))) (j : Nat) (x : Int) : (w.setCell ⟨b, j, none⟩ (.int .u8 x)).heap[b]? = some (.cells (bufV (bs.set j x)) 5 (0, 0)) := by
  refine blk_put h j _ ?_
  unfold bufV
  simp [List.map_set]
theorem hsum_Put_at (A0 : Option Addr) (c0 m : Nat) (l0 : List Int) (r1 : List Int) (r2 : Int) (w : World) (hm : l0.length = m) (hr0 : Kd.C (Kd.int .u8) w A0 l0.length l0) (hc0 : l0.length ≤ c0) (h : hsum_Put.f l0 = some (r1, r2)) :
    Calls Tryz.prog 52 #[.slice A0 m c0] w fun e w' => ∃ v0_ : Value, e = .returned (.tuple #[v0_, .int .i64 r2]) ∧ Kd.R (Kd.int .u8) 5 w' w.heap.size (fun _ => True) v0_ r1 ∧ Below w.heap.size w w' := by
  subst hm
  exact hsum_Put.calls A0 c0 l0 r1 r2 w hr0 hc0 h
theorem wpList_copy_string {P : Program} {w : World} {ops : Array Oper} {rest : List Oper} {o : Oper} {a : Act} {Q : Exit → Act → World → Prop} (hgd : o.guard = none) (d s : Operand) (dT sT : TypeId)
    (ho : o.op = .call { callee := .builtin .copy, args := #[d, s], argTypes := #[dT, sT] }) (elem : TypeId) (hu : P.underlying dT = some (.slice elem)) (hsz : (P.info? elem).map (·.size) = some 1)
    (g off dLen dCap : Nat) (t : TypeId) (x : ByteArray) (hd : a.eval d = .slice (some ⟨g, off, none⟩) dLen dCap) (hs : a.eval s = .string x)
    (cur : Array Value) (hg : w.heap[g]? = some (.cells cur t (0, 0))) (hle : x.size ≤ dLen) (hfit : off + x.size ≤ cur.size)
    (h : ∀ w', w'.heap[g]? = some (.cells (cur.toList.take off ++ (Lib.byteCells x.data.toList ++ cur.toList.drop (off + x.size))).toArray t (0, 0)) → Near w w' g → wpList P ops Q rest (a.put o.dst (goInt x.size)) w') : wpList P ops Q (o :: rest) a w := by
  refine wpList_plain hgd fun K hK => ?_
  have hrun := Lib.run_copy_row_string (P := P) w dT sT o.type elem g off dLen dCap x cur t hu hsz hg hle hfit
  unfold Oper.wp
  simp [execOp, ho, resolve, invoke, builtin, hd, hs, hrun, Result.andThen]
  refine hK _ _ (h _ (setRow_heap w g cur _ t (0, 0) hg) ⟨rfl, rfl, rfl, by simp [World.setRow], fun i hi hne => setRow_other w g i _ hne⟩)
theorem drawn_below' {w w' : World} (h : Drawn0 w w') : Below w.heap.size w w' := by
  obtain ⟨n, rfl⟩ := h
  exact pw_below_drewN (Below.refl _ _) n

set_option maxHeartbeats 16000000 in
set_option maxRecDepth 1000000 in
theorem head_Lay.calls (k : Nat) (a0 : ByteArray) (a1 : ByteArray) (a2 : Int) (a3 : Int) (a4 : Int) (a5 : Int) (a6 : Int) (a7 : Int) (a8 : ByteArray) (r1 : List Int) (r2 : Int) (w : World) (h : head_Lay.f k a0 a1 a2 a3 a4 a5 a6 a7 a8 = some (r1, r2)) :
    Calls Tryz.prog 30 #[.agg #[.string a0, .string a1, .int .i64 a2, .int .i64 a3, .int .i64 a4, .int .i64 a5, .int .i64 a6, .int .u8 a7, .string a8]] w fun e w' => ∃ v0_ : Value, e = .returned (.tuple #[v0_, .int .i64 r2]) ∧ Kd.R (Kd.int .u8) 5 w' w.heap.size (fun _ => True) v0_ r1 ∧ Below w.heap.size w w' := by
  have hu57 := Tryz.underlying43
  obtain ⟨b, hT, h⟩ := Option.bind_eq_some_iff.1 h
  have HT := Aside0.mk hT
  clear hT
  cases b with
  | false =>
    rw [if_neg (by decide)] at h
    obtain ⟨rfl, rfl⟩ := Prod.mk.inj (Option.some.inj h)
    go_enter Tryz.func30, Tryz.ntmps30
    go_wp2_with (first | ((with_reducible refine gate_dst (N := 1) rfl ?_); refine box_event ?hg (N := 1) ?hd (cs := #[.string a0, .string a1, .int .i64 a2, .int .i64 a3, .int .i64 a4, .int .i64 a5, .int .i64 a6, .int .u8 a7, .string a8]) (t := 43) ?hr ?_; (case hd => rfl); (case hg => rfl); (case hr => first | (go_simp; done) | (go_simp; rfl)); intro gh hg w1 hbox hb; have HB := Aside0.mk hb; have BH := Aside0.mk hbox; have GH := Aside0.mk (Nat.le_of_eq hg.symm); clear hb hbox hg; have hh7 := (blk_cell BH.out 7).trans (rfl : _ = some (.int .u8 a7 : Value))) | (go_at_call 38; (with_reducible refine (head_IsType.calls a7 false _ HT.out).mono ?_); rintro e w2 ⟨rfl, hd⟩; have hb := drawn_below' hd; have n0_ := Aside0.mk (below_step HB.out hb); have n1_ := Aside0.mk (blk_below BH.out hb); clear HB BH hb hd hh7; have HB := n0_; have BH := n1_; clear n0_ n1_; have hh0 := (blk_cell BH.out 0).trans (rfl : _ = some (.string a0 : Value)); have hh1 := (blk_cell BH.out 1).trans (rfl : _ = some (.string a1 : Value)); have hh2 := (blk_cell BH.out 2).trans (rfl : _ = some (.int .i64 a2 : Value)); have hh3 := (blk_cell BH.out 3).trans (rfl : _ = some (.int .i64 a3 : Value)); have hh4 := (blk_cell BH.out 4).trans (rfl : _ = some (.int .i64 a4 : Value)); have hh5 := (blk_cell BH.out 5).trans (rfl : _ = some (.int .i64 a5 : Value)); have hh6 := (blk_cell BH.out 6).trans (rfl : _ = some (.int .i64 a6 : Value)); have hh7 := (blk_cell BH.out 7).trans (rfl : _ = some (.int .u8 a7 : Value)); have hh8 := (blk_cell BH.out 8).trans (rfl : _ = some (.string a8 : Value))))
    go_ret2
    exact ⟨_, rfl, Kd.R_nil _ _ _ _ _, HB.out⟩
  | true =>
  rw [if_pos rfl] at h
  obtain ⟨st, hS, h⟩ := Option.bind_eq_some_iff.1 h
  unfold head_fieldsL at hS
  obtain ⟨⟨f0, e0⟩, h0_, hS⟩ := Option.bind_eq_some_iff.1 hS
  have HP0 := Aside0.mk h0_
  clear h0_
  obtain ⟨⟨f1, e1⟩, h1_, hS⟩ := Option.bind_eq_some_iff.1 hS
  have HP1 := Aside0.mk h1_
  clear h1_
  obtain ⟨⟨f2, e2⟩, h2_, hS⟩ := Option.bind_eq_some_iff.1 hS
  have HP2 := Aside0.mk h2_
  clear h2_
  obtain ⟨⟨f3, e3⟩, h3_, hS⟩ := Option.bind_eq_some_iff.1 hS
  have HP3 := Aside0.mk h3_
  clear h3_
  obtain ⟨⟨f4, e4⟩, h4_, hS⟩ := Option.bind_eq_some_iff.1 hS
  have HP4 := Aside0.mk h4_
  clear h4_
  obtain ⟨⟨f5, e5⟩, h5_, hS⟩ := Option.bind_eq_some_iff.1 hS
  have HP5 := Aside0.mk h5_
  clear h5_
  obtain ⟨⟨f6, e6⟩, h6_, hS⟩ := Option.bind_eq_some_iff.1 hS
  have HP6 := Aside0.mk h6_
  clear h6_
  obtain ⟨⟨f7, e7⟩, h7_, hS⟩ := Option.bind_eq_some_iff.1 hS
  have HP7 := Aside0.mk h7_
  clear h7_
  obtain ⟨⟨f8, e8⟩, h8_, hS⟩ := Option.bind_eq_some_iff.1 hS
  have HP8 := Aside0.mk h8_
  clear h8_
  obtain ⟨⟨f9, e9⟩, h9_, hS⟩ := Option.bind_eq_some_iff.1 hS
  have HP9 := Aside0.mk h9_
  clear h9_
  split at hS
  case isFalse => cases hS
  rename_i hfit
  have hst := Option.some.inj hS
  clear hS
  obtain ⟨q0, q1, q2, q3, q4, q5, q6, q7, q8, q9⟩ := hfit
  have Q0 : Aside0 (345 + f0.length ≤ 512) := ⟨q0⟩
  clear q0
  have Q1 : Aside0 (0 + f1.length ≤ 512) := ⟨q1⟩
  clear q1
  have Q2 : Aside0 (157 + f2.length ≤ 512) := ⟨q2⟩
  clear q2
  have Q3 : Aside0 (100 + f3.length ≤ 512) := ⟨q3⟩
  clear q3
  have Q4 : Aside0 (108 + f4.length ≤ 512) := ⟨q4⟩
  clear q4
  have Q5 : Aside0 (116 + f5.length ≤ 512) := ⟨q5⟩
  clear q5
  have Q6 : Aside0 (124 + f6.length ≤ 512) := ⟨q6⟩
  clear q6
  have Q7 : Aside0 (136 + f7.length ≤ 512) := ⟨q7⟩
  clear q7
  have Q8 : Aside0 (329 + f8.length ≤ 512) := ⟨q8⟩
  clear q8
  have Q9 : Aside0 (337 + f9.length ≤ 512) := ⟨q9⟩
  clear q9
  have L0 : Aside0 (zeros512.length = 512) := ⟨by decide⟩
  obtain ⟨⟨E1, B1⟩, s0⟩ : ∃ st, layStep (0, zeros512) 345 (f0, e0) = st := ⟨_, rfl⟩
  rw [s0] at hst
  have L1 : Aside0 (B1.length = 512) := ⟨by have h_ := layStep_len 0 zeros512 345 f0 e0 Q0.out L0.out; rw [s0] at h_; exact h_⟩
  have S0 := Aside0.mk s0
  clear s0
  obtain ⟨⟨E2, B2⟩, s1⟩ : ∃ st, layStep (E1, B1) 0 (f1, e1) = st := ⟨_, rfl⟩
  rw [s1] at hst
  have L2 : Aside0 (B2.length = 512) := ⟨by have h_ := layStep_len E1 B1 0 f1 e1 Q1.out L1.out; rw [s1] at h_; exact h_⟩
  have S1 := Aside0.mk s1
  clear s1
  obtain ⟨⟨E3, B3⟩, s2⟩ : ∃ st, layStep (E2, B2) 157 (f2, e2) = st := ⟨_, rfl⟩
  rw [s2] at hst
  have L3 : Aside0 (B3.length = 512) := ⟨by have h_ := layStep_len E2 B2 157 f2 e2 Q2.out L2.out; rw [s2] at h_; exact h_⟩
  have S2 := Aside0.mk s2
  clear s2
  obtain ⟨⟨E4, B4⟩, s3⟩ : ∃ st, layStep (E3, B3) 100 (f3, e3) = st := ⟨_, rfl⟩
  rw [s3] at hst
  have L4 : Aside0 (B4.length = 512) := ⟨by have h_ := layStep_len E3 B3 100 f3 e3 Q3.out L3.out; rw [s3] at h_; exact h_⟩
  have S3 := Aside0.mk s3
  clear s3
  obtain ⟨⟨E5, B5⟩, s4⟩ : ∃ st, layStep (E4, B4) 108 (f4, e4) = st := ⟨_, rfl⟩
  rw [s4] at hst
  have L5 : Aside0 (B5.length = 512) := ⟨by have h_ := layStep_len E4 B4 108 f4 e4 Q4.out L4.out; rw [s4] at h_; exact h_⟩
  have S4 := Aside0.mk s4
  clear s4
  obtain ⟨⟨E6, B6⟩, s5⟩ : ∃ st, layStep (E5, B5) 116 (f5, e5) = st := ⟨_, rfl⟩
  rw [s5] at hst
  have L6 : Aside0 (B6.length = 512) := ⟨by have h_ := layStep_len E5 B5 116 f5 e5 Q5.out L5.out; rw [s5] at h_; exact h_⟩
  have S5 := Aside0.mk s5
  clear s5
  obtain ⟨⟨E7, B7⟩, s6⟩ : ∃ st, layStep (E6, B6) 124 (f6, e6) = st := ⟨_, rfl⟩
  rw [s6] at hst
  have L7 : Aside0 (B7.length = 512) := ⟨by have h_ := layStep_len E6 B6 124 f6 e6 Q6.out L6.out; rw [s6] at h_; exact h_⟩
  have S6 := Aside0.mk s6
  clear s6
  obtain ⟨⟨E8, B8⟩, s7⟩ : ∃ st, layStep (E7, B7) 136 (f7, e7) = st := ⟨_, rfl⟩
  rw [s7] at hst
  have L8 : Aside0 (B8.length = 512) := ⟨by have h_ := layStep_len E7 B7 136 f7 e7 Q7.out L7.out; rw [s7] at h_; exact h_⟩
  have S7 := Aside0.mk s7
  clear s7
  obtain ⟨⟨E9, B9⟩, s8⟩ : ∃ st, layStep (E8, B8) 329 (f8, e8) = st := ⟨_, rfl⟩
  rw [s8] at hst
  have L9 : Aside0 (B9.length = 512) := ⟨by have h_ := layStep_len E8 B8 329 f8 e8 Q8.out L8.out; rw [s8] at h_; exact h_⟩
  have S8 := Aside0.mk s8
  clear s8
  obtain ⟨⟨E10, B10⟩, s9⟩ : ∃ st, layStep (E9, B9) 337 (f9, e9) = st := ⟨_, rfl⟩
  rw [s9] at hst
  have L10 : Aside0 (B10.length = 512) := ⟨by have h_ := layStep_len E9 B9 337 f9 e9 Q9.out L9.out; rw [s9] at h_; exact h_⟩
  have S9 := Aside0.mk s9
  clear s9
  subst hst
  dsimp only at h
  have hmk := print_make (P := Tryz.prog) 31 5 .u8 1 Tryz.underlying31 info5 (by decide) 512 (by decide)
  rw [made512, show (((512 : Nat)) : Int) = 512 from rfl] at hmk
  have HZ : Aside0 (∃ z, z = bufV zeros512) := ⟨_, rfl⟩
  obtain ⟨Zb, hZb⟩ : ∃ z, z = bufV zeros512 := ⟨_, rfl⟩
  rw [← hZb] at hmk
  have HZB := Aside0.mk hZb
  clear hZb HZ
  have HH := Aside0.mk h
  clear h
  go_enter Tryz.func30, Tryz.ntmps30
  go_wp2_with (first | ((with_reducible refine gate_dst (N := 1) rfl ?_); refine box_event ?hg (N := 1) ?hd (cs := #[.string a0, .string a1, .int .i64 a2, .int .i64 a3, .int .i64 a4, .int .i64 a5, .int .i64 a6, .int .u8 a7, .string a8]) (t := 43) ?hr ?_; (case hd => rfl); (case hg => rfl); (case hr => first | (go_simp; done) | (go_simp; rfl)); intro gh hg w1 hbox hb; have HB := Aside0.mk hb; have BH := Aside0.mk hbox; have GH := Aside0.mk (Nat.le_of_eq hg.symm); clear hb hbox hg; have hh7 := (blk_cell BH.out 7).trans (rfl : _ = some (.int .u8 a7 : Value))) | (go_at_call 38; (with_reducible refine (head_IsType.calls a7 true _ HT.out).mono ?_); rintro e w2 ⟨rfl, hd⟩; have hb := drawn_below' hd; have n0_ := Aside0.mk (below_step HB.out hb); have n1_ := Aside0.mk (blk_below BH.out hb); clear HB BH hb hd hh7; have HB := n0_; have BH := n1_; clear n0_ n1_; have hh0 := (blk_cell BH.out 0).trans (rfl : _ = some (.string a0 : Value)); have hh1 := (blk_cell BH.out 1).trans (rfl : _ = some (.string a1 : Value)); have hh2 := (blk_cell BH.out 2).trans (rfl : _ = some (.int .i64 a2 : Value)); have hh3 := (blk_cell BH.out 3).trans (rfl : _ = some (.int .i64 a3 : Value)); have hh4 := (blk_cell BH.out 4).trans (rfl : _ = some (.int .i64 a4 : Value)); have hh5 := (blk_cell BH.out 5).trans (rfl : _ = some (.int .i64 a5 : Value)); have hh6 := (blk_cell BH.out 6).trans (rfl : _ = some (.int .i64 a6 : Value)); have hh7 := (blk_cell BH.out 7).trans (rfl : _ = some (.int .u8 a7 : Value)); have hh8 := (blk_cell BH.out 8).trans (rfl : _ = some (.string a8 : Value))) | ((with_reducible refine gate_dst (N := 11) rfl ?_); refine box_event ?hg (N := 11) ?hd (cs := #[.slice (some ⟨w2.heap.size, 0, none⟩) 512 512, .int .i64 0]) (t := 89) ?hr ?_; (case hd => rfl); (case hg => rfl); (case hr => first | (go_simp; done) | (go_simp; rfl)); intro g hg w3 hbox hb; have n0_ := Aside0.mk (below_step (below_alloc HB.out _) hb); have n1_ := Aside0.mk (blk_below (blk_alloc BH.out (.cells Zb 5)) hb); have BB := Aside0.mk (blk_below (blk_new w2 (.cells Zb 5)) hb); have BL := Aside0.mk hbox; have GB := Aside0.mk (below_size HB.out); have GL : Aside0 (w.heap.size ≤ g) := ⟨by have h1_ := below_size HB.out; have h2_ : w2.heap.size ≤ g := (by rw [hg]; simp); omega⟩; clear HB BH hb hbox hg hh0 hh1 hh2 hh3 hh4 hh5 hh6 hh7 hh8; have HB := n0_; have BH := n1_; clear n0_ n1_; have hh0 := (blk_cell BH.out 0).trans (rfl : _ = some (.string a0 : Value)); have hh1 := (blk_cell BH.out 1).trans (rfl : _ = some (.string a1 : Value)); have hh2 := (blk_cell BH.out 2).trans (rfl : _ = some (.int .i64 a2 : Value)); have hh3 := (blk_cell BH.out 3).trans (rfl : _ = some (.int .i64 a3 : Value)); have hh4 := (blk_cell BH.out 4).trans (rfl : _ = some (.int .i64 a4 : Value)); have hh5 := (blk_cell BH.out 5).trans (rfl : _ = some (.int .i64 a5 : Value)); have hh6 := (blk_cell BH.out 6).trans (rfl : _ = some (.int .i64 a6 : Value)); have hh7 := (blk_cell BH.out 7).trans (rfl : _ = some (.int .u8 a7 : Value)); have hh8 := (blk_cell BH.out 8).trans (rfl : _ = some (.string a8 : Value))))
  rw [HZB.out] at BB
  generalize w2.heap.size = gb at *
  have NHL : Aside0 (gh ≠ g) := ⟨blk_ne BH.out BL.out (by decide)⟩
  have NHB : Aside0 (gh ≠ gb) := ⟨blk_ne BH.out BB.out (by decide)⟩
  go_at_call 50
  with_reducible refine (layer_text.at g gb f0 zeros512 345 155 a0 0 e0 _ 345 155 rfl rfl (by decide) Q0.out L0.out BL.out BB.out ?hp).mono ?_
  case hp => exact HP0.out
  rintro en w4 ⟨rfl, hl_, hb_, hn⟩
  rw [S0.out] at hl_ hb_
  have n0_ := Aside0.mk (Below.near2 HB.out (below_size HB.out) GL.out GB.out hn)
  have n1_ := Aside0.mk (hn.blk BH.out NHL.out NHB.out)
  have n2_ : Aside0 (w4.heap[g]? = some (.cells #[.slice (some ⟨gb, 0, none⟩) 512 512, .int .i64 E1] 89 (0, 0))) := ⟨hl_⟩
  have n3_ : Aside0 (w4.heap[gb]? = some (.cells (bufV B1) 5 (0, 0))) := ⟨hb_⟩
  clear HB BH BL BB hn hl_ hb_ hh0 hh1 hh2 hh3 hh4 hh5 hh6 hh7 hh8
  have HB := n0_
  have BH := n1_
  have BL := n2_
  have BB := n3_
  clear n0_ n1_ n2_ n3_
  obtain ⟨hh0, hh1, hh2, hh3, hh4, hh5, hh6, hh7, hh8, -, -, -, -, -, -, -, -, -⟩ := blk_all9 BH.out
  go_wp2_with fail
  go_at_call 50
  with_reducible refine (layer_text.at g gb f1 B1 0 100 a1 E1 e1 _ 0 100 rfl rfl (by decide) Q1.out L1.out BL.out BB.out ?hp).mono ?_
  case hp => exact HP1.out
  rintro en w5 ⟨rfl, hl_, hb_, hn⟩
  rw [S1.out] at hl_ hb_
  have n0_ := Aside0.mk (Below.near2 HB.out (below_size HB.out) GL.out GB.out hn)
  have n1_ := Aside0.mk (hn.blk BH.out NHL.out NHB.out)
  have n2_ : Aside0 (w5.heap[g]? = some (.cells #[.slice (some ⟨gb, 0, none⟩) 512 512, .int .i64 E2] 89 (0, 0))) := ⟨hl_⟩
  have n3_ : Aside0 (w5.heap[gb]? = some (.cells (bufV B2) 5 (0, 0))) := ⟨hb_⟩
  clear HB BH BL BB hn hl_ hb_ hh0 hh1 hh2 hh3 hh4 hh5 hh6 hh7 hh8
  have HB := n0_
  have BH := n1_
  have BL := n2_
  have BB := n3_
  clear n0_ n1_ n2_ n3_
  obtain ⟨hh0, hh1, hh2, hh3, hh4, hh5, hh6, hh7, hh8, -, -, -, -, -, -, -, -, -⟩ := blk_all9 BH.out
  go_wp2_with fail
  go_at_call 50
  with_reducible refine (layer_text.at g gb f2 B2 157 100 a8 E2 e2 _ 157 100 rfl rfl (by decide) Q2.out L2.out BL.out BB.out ?hp).mono ?_
  case hp => exact HP2.out
  rintro en w6 ⟨rfl, hl_, hb_, hn⟩
  rw [S2.out] at hl_ hb_
  have n0_ := Aside0.mk (Below.near2 HB.out (below_size HB.out) GL.out GB.out hn)
  have n1_ := Aside0.mk (hn.blk BH.out NHL.out NHB.out)
  have n2_ : Aside0 (w6.heap[g]? = some (.cells #[.slice (some ⟨gb, 0, none⟩) 512 512, .int .i64 E3] 89 (0, 0))) := ⟨hl_⟩
  have n3_ : Aside0 (w6.heap[gb]? = some (.cells (bufV B3) 5 (0, 0))) := ⟨hb_⟩
  clear HB BH BL BB hn hl_ hb_ hh0 hh1 hh2 hh3 hh4 hh5 hh6 hh7 hh8
  have HB := n0_
  have BH := n1_
  have BL := n2_
  have BB := n3_
  clear n0_ n1_ n2_ n3_
  obtain ⟨hh0, hh1, hh2, hh3, hh4, hh5, hh6, hh7, hh8, -, -, -, -, -, -, -, -, -⟩ := blk_all9 BH.out
  go_wp2_with fail
  go_at_call 51
  with_reducible refine (layer_number.at k g gb f3 B3 100 8 a2 E3 e3 _ 100 8 rfl rfl (by decide) Q3.out L3.out BL.out BB.out ?hp).mono ?_
  case hp => exact HP3.out
  rintro en w7 ⟨rfl, hl_, hb_, hn⟩
  rw [S3.out] at hl_ hb_
  have n0_ := Aside0.mk (Below.near2 HB.out (below_size HB.out) GL.out GB.out hn)
  have n1_ := Aside0.mk (hn.blk BH.out NHL.out NHB.out)
  have n2_ : Aside0 (w7.heap[g]? = some (.cells #[.slice (some ⟨gb, 0, none⟩) 512 512, .int .i64 E4] 89 (0, 0))) := ⟨hl_⟩
  have n3_ : Aside0 (w7.heap[gb]? = some (.cells (bufV B4) 5 (0, 0))) := ⟨hb_⟩
  clear HB BH BL BB hn hl_ hb_ hh0 hh1 hh2 hh3 hh4 hh5 hh6 hh7 hh8
  have HB := n0_
  have BH := n1_
  have BL := n2_
  have BB := n3_
  clear n0_ n1_ n2_ n3_
  obtain ⟨hh0, hh1, hh2, hh3, hh4, hh5, hh6, hh7, hh8, -, -, -, -, -, -, -, -, -⟩ := blk_all9 BH.out
  go_wp2_with fail
  go_at_call 51
  with_reducible refine (layer_number.at k g gb f4 B4 108 8 a3 E4 e4 _ 108 8 rfl rfl (by decide) Q4.out L4.out BL.out BB.out ?hp).mono ?_
  case hp => exact HP4.out
  rintro en w8 ⟨rfl, hl_, hb_, hn⟩
  rw [S4.out] at hl_ hb_
  have n0_ := Aside0.mk (Below.near2 HB.out (below_size HB.out) GL.out GB.out hn)
  have n1_ := Aside0.mk (hn.blk BH.out NHL.out NHB.out)
  have n2_ : Aside0 (w8.heap[g]? = some (.cells #[.slice (some ⟨gb, 0, none⟩) 512 512, .int .i64 E5] 89 (0, 0))) := ⟨hl_⟩
  have n3_ : Aside0 (w8.heap[gb]? = some (.cells (bufV B5) 5 (0, 0))) := ⟨hb_⟩
  clear HB BH BL BB hn hl_ hb_ hh0 hh1 hh2 hh3 hh4 hh5 hh6 hh7 hh8
  have HB := n0_
  have BH := n1_
  have BL := n2_
  have BB := n3_
  clear n0_ n1_ n2_ n3_
  obtain ⟨hh0, hh1, hh2, hh3, hh4, hh5, hh6, hh7, hh8, -, -, -, -, -, -, -, -, -⟩ := blk_all9 BH.out
  go_wp2_with fail
  go_at_call 51
  with_reducible refine (layer_number.at k g gb f5 B5 116 8 a4 E5 e5 _ 116 8 rfl rfl (by decide) Q5.out L5.out BL.out BB.out ?hp).mono ?_
  case hp => exact HP5.out
  rintro en w9 ⟨rfl, hl_, hb_, hn⟩
  rw [S5.out] at hl_ hb_
  have n0_ := Aside0.mk (Below.near2 HB.out (below_size HB.out) GL.out GB.out hn)
  have n1_ := Aside0.mk (hn.blk BH.out NHL.out NHB.out)
  have n2_ : Aside0 (w9.heap[g]? = some (.cells #[.slice (some ⟨gb, 0, none⟩) 512 512, .int .i64 E6] 89 (0, 0))) := ⟨hl_⟩
  have n3_ : Aside0 (w9.heap[gb]? = some (.cells (bufV B6) 5 (0, 0))) := ⟨hb_⟩
  clear HB BH BL BB hn hl_ hb_ hh0 hh1 hh2 hh3 hh4 hh5 hh6 hh7 hh8
  have HB := n0_
  have BH := n1_
  have BL := n2_
  have BB := n3_
  clear n0_ n1_ n2_ n3_
  obtain ⟨hh0, hh1, hh2, hh3, hh4, hh5, hh6, hh7, hh8, -, -, -, -, -, -, -, -, -⟩ := blk_all9 BH.out
  go_wp2_with fail
  go_at_call 51
  with_reducible refine (layer_number.at k g gb f6 B6 124 12 a6 E6 e6 _ 124 12 rfl rfl (by decide) Q6.out L6.out BL.out BB.out ?hp).mono ?_
  case hp => exact HP6.out
  rintro en w10 ⟨rfl, hl_, hb_, hn⟩
  rw [S6.out] at hl_ hb_
  have n0_ := Aside0.mk (Below.near2 HB.out (below_size HB.out) GL.out GB.out hn)
  have n1_ := Aside0.mk (hn.blk BH.out NHL.out NHB.out)
  have n2_ : Aside0 (w10.heap[g]? = some (.cells #[.slice (some ⟨gb, 0, none⟩) 512 512, .int .i64 E7] 89 (0, 0))) := ⟨hl_⟩
  have n3_ : Aside0 (w10.heap[gb]? = some (.cells (bufV B7) 5 (0, 0))) := ⟨hb_⟩
  clear HB BH BL BB hn hl_ hb_ hh0 hh1 hh2 hh3 hh4 hh5 hh6 hh7 hh8
  have HB := n0_
  have BH := n1_
  have BL := n2_
  have BB := n3_
  clear n0_ n1_ n2_ n3_
  obtain ⟨hh0, hh1, hh2, hh3, hh4, hh5, hh6, hh7, hh8, -, -, -, -, -, -, -, -, -⟩ := blk_all9 BH.out
  go_wp2_with fail
  go_at_call 51
  with_reducible refine (layer_number.at k g gb f7 B7 136 12 a5 E7 e7 _ 136 12 rfl rfl (by decide) Q7.out L7.out BL.out BB.out ?hp).mono ?_
  case hp => exact HP7.out
  rintro en w11 ⟨rfl, hl_, hb_, hn⟩
  rw [S7.out] at hl_ hb_
  have n0_ := Aside0.mk (Below.near2 HB.out (below_size HB.out) GL.out GB.out hn)
  have n1_ := Aside0.mk (hn.blk BH.out NHL.out NHB.out)
  have n2_ : Aside0 (w11.heap[g]? = some (.cells #[.slice (some ⟨gb, 0, none⟩) 512 512, .int .i64 E8] 89 (0, 0))) := ⟨hl_⟩
  have n3_ : Aside0 (w11.heap[gb]? = some (.cells (bufV B8) 5 (0, 0))) := ⟨hb_⟩
  clear HB BH BL BB hn hl_ hb_ hh0 hh1 hh2 hh3 hh4 hh5 hh6 hh7 hh8
  have HB := n0_
  have BH := n1_
  have BL := n2_
  have BB := n3_
  clear n0_ n1_ n2_ n3_
  obtain ⟨hh0, hh1, hh2, hh3, hh4, hh5, hh6, hh7, hh8, -, -, -, -, -, -, -, -, -⟩ := blk_all9 BH.out
  go_wp2_with fail
  go_at_call 51
  with_reducible refine (layer_number.at k g gb f8 B8 329 8 0 E8 e8 _ 329 8 rfl rfl (by decide) Q8.out L8.out BL.out BB.out ?hp).mono ?_
  case hp => exact HP8.out
  rintro en w12 ⟨rfl, hl_, hb_, hn⟩
  rw [S8.out] at hl_ hb_
  have n0_ := Aside0.mk (Below.near2 HB.out (below_size HB.out) GL.out GB.out hn)
  have n1_ := Aside0.mk (hn.blk BH.out NHL.out NHB.out)
  have n2_ : Aside0 (w12.heap[g]? = some (.cells #[.slice (some ⟨gb, 0, none⟩) 512 512, .int .i64 E9] 89 (0, 0))) := ⟨hl_⟩
  have n3_ : Aside0 (w12.heap[gb]? = some (.cells (bufV B9) 5 (0, 0))) := ⟨hb_⟩
  clear HB BH BL BB hn hl_ hb_ hh0 hh1 hh2 hh3 hh4 hh5 hh6 hh7 hh8
  have HB := n0_
  have BH := n1_
  have BL := n2_
  have BB := n3_
  clear n0_ n1_ n2_ n3_
  obtain ⟨hh0, hh1, hh2, hh3, hh4, hh5, hh6, hh7, hh8, -, -, -, -, -, -, -, -, -⟩ := blk_all9 BH.out
  go_wp2_with fail
  go_at_call 51
  with_reducible refine (layer_number.at k g gb f9 B9 337 8 0 E9 e9 _ 337 8 rfl rfl (by decide) Q9.out L9.out BL.out BB.out ?hp).mono ?_
  case hp => exact HP9.out
  rintro en w13 ⟨rfl, hl_, hb_, hn⟩
  rw [S9.out] at hl_ hb_
  have n0_ := Aside0.mk (Below.near2 HB.out (below_size HB.out) GL.out GB.out hn)
  have n1_ := Aside0.mk (hn.blk BH.out NHL.out NHB.out)
  have n2_ : Aside0 (w13.heap[g]? = some (.cells #[.slice (some ⟨gb, 0, none⟩) 512 512, .int .i64 E10] 89 (0, 0))) := ⟨hl_⟩
  have n3_ : Aside0 (w13.heap[gb]? = some (.cells (bufV B10) 5 (0, 0))) := ⟨hb_⟩
  clear HB BH BL BB hn hl_ hb_ hh0 hh1 hh2 hh3 hh4 hh5 hh6 hh7 hh8
  have HB := n0_
  have BH := n1_
  have BL := n2_
  have BB := n3_
  clear n0_ n1_ n2_ n3_
  have hh0 := (blk_cell BH.out 0).trans (rfl : _ = some (.string a0 : Value))
  have hh1 := (blk_cell BH.out 1).trans (rfl : _ = some (.string a1 : Value))
  have hh2 := (blk_cell BH.out 2).trans (rfl : _ = some (.int .i64 a2 : Value))
  have hh3 := (blk_cell BH.out 3).trans (rfl : _ = some (.int .i64 a3 : Value))
  have hh4 := (blk_cell BH.out 4).trans (rfl : _ = some (.int .i64 a4 : Value))
  have hh5 := (blk_cell BH.out 5).trans (rfl : _ = some (.int .i64 a5 : Value))
  have hh6 := (blk_cell BH.out 6).trans (rfl : _ = some (.int .i64 a6 : Value))
  have hh7 := (blk_cell BH.out 7).trans (rfl : _ = some (.int .u8 a7 : Value))
  have hh8 := (blk_cell BH.out 8).trans (rfl : _ = some (.string a8 : Value))
  have hl0 := (blk_cell BL.out 0).trans (rfl : _ = some (.slice (some ⟨gb, 0, none⟩) 512 512 : Value))
  have hl1 := (blk_cell BL.out 1).trans (rfl : _ = some (.int .i64 E10 : Value))
  have h := HH.out
  clear HH
  by_cases cE : ¬ E10 = 0
  · rw [if_neg cE] at h
    obtain ⟨rfl, rfl⟩ := Prod.mk.inj (Option.some.inj h)
    have b1 : (E10 != 0) = true := bne_iff_ne.2 cE
    clear cE
    go_wp2
    go_region
    all_goals go_wp2
    all_goals go_ret2
    all_goals exact ⟨_, rfl, Kd.R_nil _ _ _ _ _, below_drew1 HB.out⟩
  have cE' := Decidable.of_not_not cE
  subst cE'
  clear cE
  rw [if_pos rfl] at h
  obtain ⟨c, hB, h⟩ := Option.bind_eq_some_iff.1 h
  have HBw := Aside0.mk hB
  clear hB
  cases c with
  | true =>
    rw [if_pos rfl] at h
    obtain ⟨rfl, rfl⟩ := Prod.mk.inj (Option.some.inj h)
    go_wp2_with ((go_at_call 39; (with_reducible refine (head_below.calls a0 a1 a2 a3 a4 a5 a6 a7 a8 true _ HBw.out).mono ?_); rintro e w14 ⟨rfl, hb⟩; have n0_ := Aside0.mk (below_step HB.out hb); have n1_ := Aside0.mk (blk_below BH.out hb); have n2_ := Aside0.mk (blk_below BL.out hb); have n3_ := Aside0.mk (blk_below BB.out hb); clear HB BH BL BB hb hl0 hl1 hh0 hh1 hh2 hh3 hh4 hh5 hh6 hh7 hh8; have HB := n0_; have BH := n1_; have BL := n2_; have BB := n3_; clear n0_ n1_ n2_ n3_; have hh7 := (blk_cell BH.out 7).trans (rfl : _ = some (.int .u8 a7 : Value)); have hl0 := (blk_cell BL.out 0).trans (rfl : _ = some (.slice (some ⟨gb, 0, none⟩) 512 512 : Value)); have hx := bufV_cell BB.out 156 (by have := L10.out; omega); have fx := blk_frozen BB.out 156))
    go_ret2
    exact ⟨_, rfl, Kd.R_nil _ _ _ _ _, HB.out⟩
  | false =>
    rw [if_neg (by decide)] at h
    have HS := Aside0.mk h
    clear h
    go_wp2_with ((go_at_call 39; (with_reducible refine (head_below.calls a0 a1 a2 a3 a4 a5 a6 a7 a8 false _ HBw.out).mono ?_); rintro e w14 ⟨rfl, hb⟩; have n0_ := Aside0.mk (below_step HB.out hb); have n1_ := Aside0.mk (blk_below BH.out hb); have n2_ := Aside0.mk (blk_below BL.out hb); have n3_ := Aside0.mk (blk_below BB.out hb); clear HB BH BL BB hb hl0 hl1 hh0 hh1 hh2 hh3 hh4 hh5 hh6 hh7 hh8; have HB := n0_; have BH := n1_; have BL := n2_; have BB := n3_; clear n0_ n1_ n2_ n3_; have hh7 := (blk_cell BH.out 7).trans (rfl : _ = some (.int .u8 a7 : Value)); have hl0 := (blk_cell BL.out 0).trans (rfl : _ = some (.slice (some ⟨gb, 0, none⟩) 512 512 : Value)); have hx := bufV_cell BB.out 156 (by have := L10.out; omega); have fx := blk_frozen BB.out 156))
    have NLB : Aside0 (g ≠ gb) := ⟨blk_ne BL.out BB.out (by decide)⟩
    have h156 := L10.out
    obtain ⟨BF, hBF⟩ : ∃ x, x = splice (B10.set 156 a7) 257 magicI := ⟨_, rfl⟩
    have LF : Aside0 (BF.length = 512) := ⟨by rw [hBF, length_splice _ _ _ (by rw [List.length_set, h156]; decide), List.length_set, h156]⟩
    have HBF := Aside0.mk hBF
    clear hBF h156
    have HCUR : Aside0 ((((bufV (B10.set 156 a7)).toList.take 257 ++ (Lib.byteCells (⟨#[117, 115, 116, 97, 114, 0, 48, 48]⟩ : ByteArray).data.toList ++ (bufV (B10.set 156 a7)).toList.drop (257 + (⟨#[117, 115, 116, 97, 114, 0, 48, 48]⟩ : ByteArray).size))).toArray) = bufV BF) := ⟨by rw [HBF.out]; unfold bufV splice; rw [List.map_append, List.map_append, List.map_take, List.map_drop]; rfl⟩
    have HB156 := Aside0.mk (bufV_set BB.out 156 a7)
    have HFIT : Aside0 (257 + (⟨#[117, 115, 116, 97, 114, 0, 48, 48]⟩ : ByteArray).size ≤ (bufV (B10.set 156 a7)).size) := ⟨by unfold bufV; rw [List.size_toArray, List.length_map, List.length_set, L10.out]; decide⟩
    go_region
    go_wp2_with (first | ((with_reducible refine gate_builtin (b := .copy) (xs := #[.tmp 76, .const (.string ⟨#[117, 115, 116, 97, 114, 0, 48, 48]⟩)]) rfl ?_); refine wpList_copy_string rfl (.tmp 76) _ 31 9 rfl 5 Tryz.underlying31 (by kernel_rfl) gb 257 255 255 5 (⟨#[117, 115, 116, 97, 114, 0, 48, 48]⟩ : ByteArray) rfl rfl (bufV (B10.set 156 a7)) (by exact HB156.out) (by decide) HFIT.out ?_; intro w16 hb16 hn16; rw [HCUR.out] at hb16; have n0_ := Aside0.mk (Below.near (by repeat (first | (with_reducible first | exact HB.out | apply below_alloc | apply pw_below_drewN | apply below_drew1 | refine below_set ?_ GB.out) | exact HB.out)) (below_size (by repeat (first | (with_reducible first | exact HB.out | apply below_alloc | apply pw_below_drewN | apply below_drew1 | refine below_set ?_ GB.out) | exact HB.out))) GB.out hn16); have n2_ := Aside0.mk (hn16.blk (g' := g) (o := .cells #[.slice (some ⟨gb, 0, none⟩) 512 512, .int .i64 0] 89 (0, 0)) (by have h_ := (blk_far BL.out (p := ⟨gb, 156, none⟩) NLB.out (.int .u8 a7)); exact h_) NLB.out); have n3_ := Aside0.mk hb16; clear HB BH BL BB HB156 hb16 hn16 hh7 hl0 hx fx; have HB := n0_; have BL := n2_; have BB := n3_; clear n0_ n2_ n3_; have hl0 := (blk_cell BL.out 0).trans (rfl : _ = some (.slice (some ⟨gb, 0, none⟩) 512 512 : Value))) | (go_at_call 52; (with_reducible refine (hsum_Put_at (some ⟨gb, 0, none⟩) 512 512 BF r1 r2 _ LF.out ?sc ?sl ?sh).mono ?_); (case sc => exact bufV_C BB.out (by have := LF.out; omega)); (case sl => have := LF.out; omega); (case sh => rw [HBF.out]; exact HS.out); rintro e w17 ⟨v0, rfl, hr, hb⟩; have n0_ := Aside0.mk (below_step HB.out hb); have HR := Aside0.mk (Kd.R_lower hr (below_size HB.out)); clear HB hb hr; have HB := n0_; clear n0_))
    go_ret2
    exact ⟨_, rfl, HR.out, HB.out⟩
end Go.Proofs.YtjidenkhgeoaiaaGreatDoor.Hand

/- head.Lay: more rounds give the same answer. -/
namespace Go.Proofs.YtjidenkhgeoaiaaGreatDoor.Hand
open Go.RowKit Go.Proofs.YtjidenkhgeoaiaaGreatDoor.P Go.Proofs.YtjidenkhgeoaiaaGreatDoorW Go.Proofs.YtjidenkhgeoaiaaGreatDoorW.PrintWords Go.Proofs.YtjidenkhgeoaiaaGreatDoorW.PrintLast Go.Proofs.YtjidenkhgeoaiaaGreatDoorW.PrintMore
set_option linter.unusedVariables false
set_option linter.unusedSimpArgs false
theorem head_Lay.mono : ∀ a0 a1 a2 a3 a4 a5 a6 a7 a8 k, LeO (head_Lay.f k a0 a1 a2 a3 a4 a5 a6 a7 a8) (head_Lay.f (k + 1) a0 a1 a2 a3 a4 a5 a6 a7 a8) := by
  intro a0 a1 a2 a3 a4 a5 a6 a7 a8 k
  unfold head_Lay.f head_fieldsL
  repeat' first
    | (with_reducible exact numf_Put.mono _ _ _)
    | (with_reducible exact LeO.refl _)
    | (with_reducible refine LeO.bind ?_ (fun _ => ?_))
    | (with_reducible refine LeO.ite ?_ ?_)
    | (with_reducible refine LeO.dite ?_ ?_)
    | exact LeO.refl _
end Go.Proofs.YtjidenkhgeoaiaaGreatDoor.Hand

namespace Go.Proofs.YtjidenkhgeoaiaaGreatDoor.P
open Go.RowKit Go.Proofs.YtjidenkhgeoaiaaGreatDoorW.PrintWords Go.Proofs.YtjidenkhgeoaiaaGreatDoorW.PrintLast Go.Proofs.YtjidenkhgeoaiaaGreatDoorW.PrintMore Go.Proofs.YtjidenkhgeoaiaaGreatDoor.Hand
attribute [local go_sem] max2_int min2_int max_two min_two max_three min_three max_four min_four   -- for this text's walks alone
set_option linter.unusedVariables false
set_option linter.unusedSimpArgs false

/-! ### memb_ahead: function 29 -/
def memb_ahead.f (k : Nat) (l0 : List (S35)) : Option (List Int × Int) := if (l0.length : Int) = 0 then (some (([] : List Int), 0)) else ((recs_Lay.f k l0).bind fun bt171 => (if bt171.2 = 0 then ((head_Lay.f k (⟨#[]⟩ : ByteArray) (⟨#[112, 97, 120]⟩ : ByteArray) 0 0 0 0 (bt171.1.length : Int) 120 (⟨#[]⟩ : ByteArray)).bind fun bt175 => ((blocks_Fill.f bt171.1).bind fun t179 => (if bt175.1.length + t179.length < 140737488355328 then (some ((bt175.1 ++ t179), bt175.2)) else (none)))) else (some (([] : List Int), bt171.2))))
theorem memb_ahead.mono : ∀ a0 k, LeO (memb_ahead.f k a0) (memb_ahead.f (k + 1) a0) := by
 intro a0 k
 unfold memb_ahead.f
 repeat' first
   | (with_reducible exact head_Lay.mono _ _ _ _ _ _ _ _ _ _)
   | (with_reducible exact recs_Lay.mono _ _)
   | (with_reducible exact LeO.refl _)
   | (with_reducible exact LeO.none _)
   | (with_reducible refine LeO.ite ?_ ?_)
   | (with_reducible refine LeO.bind ?_ (fun _ => ?_))
   | exact head_Lay.mono _ _ _ _ _ _ _ _ _ _
   | exact recs_Lay.mono _ _
   | exact LeO.none _
   | refine LeO.ite ?_ ?_
   | refine LeO.bind ?_ (fun _ => ?_)
set_option maxHeartbeats 8000000 in
set_option maxRecDepth 100000 in
theorem memb_ahead.calls (k : Nat) (A0 : Option Addr) (c0 : Nat) (l0 : List (S35)) (r1 : List Int) (r2 : Int) (w : World) (HTB : Aside0 (TabOk w)) (hr0 : Kd.C k35 w A0 l0.length l0) (hc0 : l0.length ≤ c0) (h : memb_ahead.f k l0 = some (r1, r2)) :
  Calls Tryz.prog 29 #[.slice A0 l0.length c0] w fun e w' => ∃ v0_ : Value, e = .returned (.tuple #[v0_, .int .i64 r2]) ∧ Kd.R (Kd.int .u8) 5 w' w.heap.size (fun _ => True) v0_ r1 ∧ Below w.heap.size w w' := by
 have hu43 := Tryz.underlying43
 have HR0 := Aside0.mk hr0
 have HC0 := Aside0.mk hc0
 clear hr0 hc0
 have HB := Aside0.mk (Below.refl w.heap.size w)
 have H : (if (l0.length : Int) = 0 then (some (([] : List Int), 0)) else ((recs_Lay.f k l0).bind fun bt171 => (if bt171.2 = 0 then ((head_Lay.f k (⟨#[]⟩ : ByteArray) (⟨#[112, 97, 120]⟩ : ByteArray) 0 0 0 0 (bt171.1.length : Int) 120 (⟨#[]⟩ : ByteArray)).bind fun bt175 => ((blocks_Fill.f bt171.1).bind fun t179 => (if bt175.1.length + t179.length < 140737488355328 then (some ((bt175.1 ++ t179), bt175.2)) else (none)))) else (some (([] : List Int), bt171.2))))) = some (r1, r2) := h
 clear h
 by_cases c2 : (l0.length : Int) = 0
 ·rw [if_pos c2] at H
  have c2b0 : ((l0.length : Int) == 0) = true := beq_iff_eq.mpr c2
  have c2b1 : ((l0.length : Int) != 0) = false := bne_eq_false_iff_eq.mpr c2
  clear c2
  simp only [Option.some.injEq, Prod.mk.injEq] at H
  obtain ⟨rfl, rfl⟩ := H
  go_enter Tryz.func29, Tryz.ntmps29
  go_wp2
  go_ret2
  exact ⟨_, by first | rfl | (simp [errW_none, errW_some] <;> rfl) | (simp [*, errW_none, errW_some] <;> rfl), by first | exact Kd.R_nil _ _ _ _ _ | exact Kd.N_nil _ _ _ _ _ | exact Kd.V_nil _ _ _ _ _ | exact Kd.Q_nil _ _ _ _ _ | exact Kd.S_nil _ _ _ _ _, by repeat (first | (with_reducible first | exact HB.out | apply below_alloc | apply pw_below_drewN | apply below_drew1) | exact HB.out)⟩
 ·rw [if_neg c2] at H
  have c2b0 : ((l0.length : Int) == 0) = false := beq_eq_false_iff_ne.mpr c2
  have c2b1 : ((l0.length : Int) != 0) = true := bne_iff_ne.mpr c2
  have c2b2 : ¬ (l0 = []) := fun h_ => c2 (by rw [h_]; rfl)
  replace H := Option.bind_eq_some_iff.mp H
  obtain ⟨⟨t171, t172⟩, A30, H⟩ := H
  try dsimp only at H
  have A3 := Aside0.mk A30
  clear A30
  by_cases c4 : t172 = 0
  ·rw [if_pos c4] at H
   have c4b0 : (t172 == 0) = true := beq_iff_eq.mpr c4
   have c4b1 : (t172 != 0) = false := bne_eq_false_iff_eq.mpr c4
   clear c4
   replace H := Option.bind_eq_some_iff.mp H
   obtain ⟨⟨t175, t178⟩, A50, H⟩ := H
   try dsimp only at H
   have A5 := Aside0.mk A50
   clear A50
   replace H := Option.bind_eq_some_iff.mp H
   obtain ⟨t179, A60, H⟩ := H
   try dsimp only at H
   have A6 := Aside0.mk A60
   clear A60
   by_cases c7 : t175.length + t179.length < 140737488355328
   ·rw [if_pos c7] at H
    have LMc7 := Aside0.mk c7
    clear c7
    obtain ⟨y182, hy182⟩ : ∃ y_ : List Int, y_ = (t175 ++ t179) := ⟨_, rfl⟩
    replace H : (some (y182, t178)) = some (r1, r2) := by first | (rw [hy182]; with_reducible exact H) | (have H2_ := (Option.bind_some _ _).symm.trans H; rw [hy182]; with_reducible exact H2_) | (have H2_ := (Option.bind_some _ _).symm.trans H; with_reducible exact H2_) | with_reducible exact H | (rw [hy182]; exact H) | exact H
    have Ny182 := Aside0.mk hy182
    clear hy182
    simp only [Option.some.injEq, Prod.mk.injEq] at H
    obtain ⟨rfl, rfl⟩ := H
    go_enter Tryz.func29, Tryz.ntmps29
    go_wp2_with (first | ((with_reducible refine gate_callee (f := 49) rfl ?_); refine goesA_ (some 12) Tryz.func49 #[.slice A0 l0.length c0] ?_; (with_reducible refine (recs_Lay.calls k _ _ l0 t171 t172 _ ⟨HTB.out.below belA_⟩ ?side1 ?side2 A3.out).mono ?_); (case side1 => repeat (first | exact HR0.out | (with_reducible refine Kd.C_alloc ?_ _) | (with_reducible refine Kd.C_drewN ?_ _) | (with_reducible refine Kd.C_drew ?_))); (case side2 => exact HC0.out); rintro e w8 ⟨v173, rfl, ho0, hb⟩; refine ⟨_, rfl, ?_⟩; have n0_ := Aside0.mk (Kd.R_lower ho0 bsize_); have n1_ := Aside0.mk (bstep_ hb); clear HB; have HO174 := n0_; have HB := n1_; clear n0_ n1_; (try clear hb); (try clear hb2); (try clear hk); (try clear hi); (try clear ho0); obtain ⟨Ao9, co9, eo9⟩ := Kd.R_slice HO174.out; subst eo9) | ((with_reducible refine gate_callee (f := 30) rfl ?_); refine goesL_ (some 22) rfl rfl Tryz.func30 (by kernel_rfl) rfl #[.agg #[.string (⟨#[]⟩ : ByteArray), .string (⟨#[112, 97, 120]⟩ : ByteArray), .int .i64 0, .int .i64 0, .int .i64 0, .int .i64 0, .int .i64 (t171.length : Int), .int .u8 120, .string (⟨#[]⟩ : ByteArray)]] rfl (by (try simp only [List.map_toArray, List.map_cons, List.map_nil]); first | done | rfl | (simp only [List.length_drop, List.length_take]; rfl)) ?_; (with_reducible refine (head_Lay.calls k (⟨#[]⟩ : ByteArray) (⟨#[112, 97, 120]⟩ : ByteArray) 0 0 0 0 (t171.length : Int) 120 (⟨#[]⟩ : ByteArray) t175 t178 _ A5.out).mono ?_); rintro e w10 ⟨v176, rfl, ho0, hb⟩; refine ⟨_, rfl, ?_⟩; have n0_ := Aside0.mk (Kd.R_elder' (by (with_reducible repeat (first | apply Kd.R_alloc | apply Kd.R_drewN | apply Kd.R_drew)); exact HO174.out) (Kd.R_base ho0) hb); have n1_ := Aside0.mk (Kd.R_lower (Kd.R_new' ho0 (Kd.R_lt (by (with_reducible repeat (first | apply Kd.R_alloc | apply Kd.R_drewN | apply Kd.R_drew)); exact HO174.out))) bsize_); have n2_ := Aside0.mk (bstep_ hb); clear HO174; clear HB; have HO174 := n0_; have HO177 := n1_; have HB := n2_; clear n0_ n1_ n2_; (try clear hb); (try clear hb2); (try clear hk); (try clear hi); (try clear ho0)) | ((with_reducible refine gate_callee (f := 32) rfl ?_); refine goesA_ (some 27) Tryz.func32 #[.slice Ao9 t171.length co9] ?_; (with_reducible refine (blocks_Fill.calls _ _ t171 t179 _ ?side1 ?side2 A6.out).mono ?_); (case side1 => repeat (first | exact (Kd.R_reads' HO174.out).2.2 | (with_reducible refine Kd.C_alloc ?_ _) | (with_reducible refine Kd.C_drewN ?_ _) | (with_reducible refine Kd.C_drew ?_))); (case side2 => exact (Kd.R_reads' HO174.out).2.1); rintro e w11 ⟨v180, rfl, ho0, hb⟩; refine ⟨_, rfl, ?_⟩; have n0_ := Aside0.mk (Kd.R_elder' (by (with_reducible repeat (first | apply Kd.R_alloc | apply Kd.R_drewN | apply Kd.R_drew)); exact HO174.out) (Kd.R_base ho0) hb); have n1_ := Aside0.mk (Kd.R_elder' (by (with_reducible repeat (first | apply Kd.R_alloc | apply Kd.R_drewN | apply Kd.R_drew)); exact HO177.out) (Kd.R_base ho0) hb); have n2_ := Aside0.mk (Kd.R_lower (Kd.R_new' (Kd.R_new' ho0 (Kd.R_lt (by (with_reducible repeat (first | apply Kd.R_alloc | apply Kd.R_drewN | apply Kd.R_drew)); exact HO174.out))) (Kd.R_lt (by (with_reducible repeat (first | apply Kd.R_alloc | apply Kd.R_drewN | apply Kd.R_drew)); exact HO177.out))) bsize_); have n3_ := Aside0.mk (bstep_ hb); clear HO174; clear HO177; clear HB; have HO174 := n0_; have HO177 := n1_; have HO181 := n2_; have HB := n3_; clear n0_ n1_ n2_ n3_; (try clear hb); (try clear hb2); (try clear hk); (try clear hi); (try clear ho0); obtain ⟨Ao13, co13, eo13⟩ := Kd.R_slice HO181.out; subst eo13) | ((with_reducible refine gate_builtin (b := .append) (xs := #[.tmp 25, .tmp 27]) rfl ?_); at_builtin; refine Kd.R_append_rows (Kd.int .u8) (w0 := w) w.heap.size rfl (.tmp 25) (.tmp 27) 31 5 (.int .u8 0) 1 rfl Tryz.underlying31 info5 rfl (by decide) (by omega) v176 t175 t179 _ _ _ (fun k_ => some k_ ≠ (.slice Ao9 t171.length co9 : Value).ownBlock ∧ some k_ ≠ (.slice Ao13 t179.length co13 : Value).ownBlock) (fun _ => False) rfl rfl ?aO ?aR (fun _ _ h => h) (fun _ h => h.elim) ?aF ?aB ?aS ?aL ?_; (case aR => repeat (first | exact (Kd.R_reads' HO181.out).2.2 | (with_reducible refine Kd.C_alloc ?_ _) | (with_reducible refine Kd.C_drewN ?_ _) | (with_reducible refine Kd.C_drew ?_))); (case aB => exact belA_); (case aF => exact (fun k_ hk => ⟨Kd.fresh' (Kd.R_lt (by (with_reducible repeat (first | apply Kd.R_alloc | apply Kd.R_drewN | apply Kd.R_drew)); exact HO174.out)) k_ hk, Kd.fresh' (Kd.R_lt (by (with_reducible repeat (first | apply Kd.R_alloc | apply Kd.R_drewN | apply Kd.R_drew)); exact HO181.out)) k_ hk⟩)); (case aO => exact (by (with_reducible repeat (first | apply Kd.R_alloc | apply Kd.R_drewN | apply Kd.R_drew)); exact Kd.R_mono HO177.out (fun _ hk => ⟨hk.1.2, hk.2⟩))); (case aS => exact bsize_); (case aL => have := LMc7.out; omega); intro v183 w12 ho hb hg hat; rw [← Ny182.out] at ho; have n0_ := Aside0.mk (Kd.R_after (ok := (fun k_ => some k_ ≠ (.slice Ao13 t179.length co13 : Value).ownBlock)) (by (with_reducible repeat (first | apply Kd.R_alloc | apply Kd.R_drewN | apply Kd.R_drew)); exact Kd.R_mono HO174.out (fun _ hk => ⟨hk.2, hk.1.2⟩)) hg hat); have n1_ := Aside0.mk (Kd.R_after (ok := (fun k_ => some k_ ≠ (.slice Ao9 t171.length co9 : Value).ownBlock)) (by (with_reducible repeat (first | apply Kd.R_alloc | apply Kd.R_drewN | apply Kd.R_drew)); exact Kd.R_mono HO181.out (fun _ hk => ⟨hk.1.2, hk.2⟩)) hg hat); have n2_ := Aside0.mk (hb); have n3_ := Aside0.mk (ho); clear HO174; clear HO181; clear HB; clear HO177; have HO174 := n0_; have HO181 := n1_; have HB := n2_; have HO184 := n3_; clear n0_ n1_ n2_ n3_; clear ho hb hg hat))
    go_ret2
    exact ⟨_, by first | rfl | (simp [errW_none, errW_some] <;> rfl) | (simp [*, errW_none, errW_some] <;> rfl), by (with_reducible repeat (first | apply Kd.R_alloc | apply Kd.R_drewN | apply Kd.R_drew)); exact Kd.R_mono HO184.out (fun _ hk => trivial), by repeat (first | (with_reducible first | exact HB.out | apply below_alloc | apply pw_below_drewN | apply below_drew1) | exact HB.out)⟩
   ·rw [if_neg c7] at H
    exact absurd H (by simp)
  ·rw [if_neg c4] at H
   have c4b0 : (t172 == 0) = false := beq_eq_false_iff_ne.mpr c4
   have c4b1 : (t172 != 0) = true := bne_iff_ne.mpr c4
   simp only [Option.some.injEq, Prod.mk.injEq] at H
   obtain ⟨rfl, rfl⟩ := H
   go_enter Tryz.func29, Tryz.ntmps29
   go_wp2_with (first | ((with_reducible refine gate_callee (f := 49) rfl ?_); refine goesA_ (some 12) Tryz.func49 #[.slice A0 l0.length c0] ?_; (with_reducible refine (recs_Lay.calls k _ _ l0 t171 t172 _ ⟨HTB.out.below belA_⟩ ?side1 ?side2 A3.out).mono ?_); (case side1 => repeat (first | exact HR0.out | (with_reducible refine Kd.C_alloc ?_ _) | (with_reducible refine Kd.C_drewN ?_ _) | (with_reducible refine Kd.C_drew ?_))); (case side2 => exact HC0.out); rintro e w14 ⟨v173, rfl, ho0, hb⟩; refine ⟨_, rfl, ?_⟩; have n0_ := Aside0.mk (Kd.R_lower ho0 bsize_); have n1_ := Aside0.mk (bstep_ hb); clear HB; have HO174 := n0_; have HB := n1_; clear n0_ n1_; (try clear hb); (try clear hb2); (try clear hk); (try clear hi); (try clear ho0)))
   go_ret2
   exact ⟨_, by first | rfl | (simp [errW_none, errW_some] <;> rfl) | (simp [*, errW_none, errW_some] <;> rfl), by first | exact Kd.R_nil _ _ _ _ _ | exact Kd.N_nil _ _ _ _ _ | exact Kd.V_nil _ _ _ _ _ | exact Kd.Q_nil _ _ _ _ _ | exact Kd.S_nil _ _ _ _ _, by repeat (first | (with_reducible first | exact HB.out | apply below_alloc | apply pw_below_drewN | apply below_drew1) | exact HB.out)⟩


/-! ### memb_first: function 54 -/
def memb_first.f (a0 : ByteArray) : Option (ByteArray) := if 0 ≤ (mn (a0.size : Int) 100) then (if (mn (a0.size : Int) 100) ≤ (a0.size : Int) then (some (a0.extract 0 ((mn (a0.size : Int) 100) : Int).toNat)) else (none)) else (none)
set_option maxHeartbeats 8000000 in
set_option maxRecDepth 100000 in
theorem memb_first.calls (a0 : ByteArray) (r : ByteArray) (w : World) (h : memb_first.f a0 = some r) :
  Calls Tryz.prog 54 #[.string a0] w fun e w' => e = .returned (.string r) ∧ Below w.heap.size w w' := by
 have HB := Aside0.mk (Below.refl w.heap.size w)
 have H : (if 0 ≤ (mn (a0.size : Int) 100) then (if (mn (a0.size : Int) 100) ≤ (a0.size : Int) then (some (a0.extract 0 ((mn (a0.size : Int) 100) : Int).toNat)) else (none)) else (none)) = some r := h
 clear h
 obtain ⟨ji2, hji2⟩ : ∃ j_ : Int, (mn (a0.size : Int) 100) = j_ := ⟨_, rfl⟩
 replace H : (if 0 ≤ (ji2) then (if (ji2) ≤ (a0.size : Int) then (some (a0.extract 0 ((ji2) : Int).toNat)) else (none)) else (none)) = some r := by first | (rw [hji2] at H; exact H) | (simp only [hji2] at H ⊢; exact H)
 (try (have hji2h : ji2 ≤ 100 := by (rw [← hji2]; unfold mn; (repeat' split) <;> omega)))
 (try (have hji2g : ji2 ≤ 64 := by omega))
 (try (have hji2l : 0 ≤ ji2 := by (rw [← hji2]; unfold mn; (repeat' split) <;> omega)))
 (try (have hji2m : 0 ≤ ji2 := by omega))
 have hji2_ : (if 100 < (a0.size : Int) then 100 else (a0.size : Int)) = ji2 := hji2
 by_cases c3 : 0 ≤ (ji2)
 ·rw [if_pos c3] at H
  have c3b0 := eq_true c3
  have c3b1 : decide (0 ≤ (ji2)) = true := decide_eq_true c3
  clear c3
  by_cases c4 : (ji2) ≤ (a0.size : Int)
  ·rw [if_pos c4] at H
   have c4b0 := eq_true c4
   have c4b1 : decide ((ji2) ≤ (a0.size : Int)) = true := decide_eq_true c4
   clear c4
   obtain rfl := Option.some.inj H
   go_enter Tryz.func54, Tryz.ntmps54
   go_wp2
   go_ret
   exact ⟨by first | rfl | (simp [errW_none, errW_some] <;> rfl) | (simp only [← hji2]; first | rfl | (simp [errW_none, errW_some] <;> rfl)) | (simp [*, errW_none, errW_some] <;> rfl), by repeat (first | (with_reducible first | exact HB.out | apply below_alloc | apply pw_below_drewN | apply below_drew1) | exact HB.out)⟩
  ·rw [if_neg c4] at H
   exact absurd H (by simp)
 ·rw [if_neg c3] at H
  exact absurd H (by simp)


/-! ### memb_header: function 31 -/
def memb_header.f (a0_0 : ByteArray) (a0_1 : Int) (a0_2 : Int) (a0_3 : Int) (a0_4 : Int) (a0_5 : Int) (a0_6 : ByteArray) (l0_7 : List Int) : Option (ByteArray × ByteArray × Int × Int × Int × Int × Int × Int × ByteArray) := (strf_Split.f a0_0).bind fun bt187 => (if bt187.2.2 = true then ((memb_Type.f a0_1).bind fun t190 => ((memb_first.f a0_6).bind fun t191 => (some (bt187.1, bt187.2.1, a0_2, a0_3, a0_4, a0_5, (l0_7.length : Int), t190, t191)))) else ((memb_first.f a0_0).bind fun t192 => ((memb_Type.f a0_1).bind fun t193 => ((memb_first.f a0_6).bind fun t194 => (some (bt187.1, t192, a0_2, a0_3, a0_4, a0_5, (l0_7.length : Int), t193, t194))))))
def memb_header.T4 : Bool × List (List Nat × List Nat) := (true, [([], []), ([], []), ([], []), ([2], [2]), ([], []), ([4], [4]), ([5], [5]), ([], []), ([7], [7]), ([8], [8]), ([], []), ([10], [10]), ([11, 9], [11]), ([0, 1, 3, 6, 9, 12], [0, 1, 3, 6, 9, 12]), ([13, 12, 0, 1, 2, 3, 4, 5, 6, 7, 8, 9, 10, 11, 12, 13], [13])])
def memb_header.B4 : List Nat := [0, 0, 0, 4, 0, 16, 48, 0, 128, 384, 0, 1024, 3968, 8191, 16383]
theorem memb_header.tab4 : rtab .any (opsOf Tryz.f31 4) = memb_header.T4 := by kernel_rfl
theorem memb_header.bits4 : waitsOk memb_header.T4.2 memb_header.B4 = true := by kernel_rfl
set_option maxHeartbeats 8000000 in
set_option maxRecDepth 100000 in
theorem memb_header.calls (a0_0 : ByteArray) (a0_1 : Int) (a0_2 : Int) (a0_3 : Int) (a0_4 : Int) (a0_5 : Int) (a0_6 : ByteArray) (A0_7 : Option Addr) (c0_7 : Nat) (l0_7 : List Int) (r1 : ByteArray) (r2 : ByteArray) (r3 : Int) (r4 : Int) (r5 : Int) (r6 : Int) (r7 : Int) (r8 : Int) (r9 : ByteArray) (w : World) (hr0_7 : Kd.C (Kd.int .u8) w A0_7 l0_7.length l0_7) (hc0_7 : l0_7.length ≤ c0_7) (h : memb_header.f a0_0 a0_1 a0_2 a0_3 a0_4 a0_5 a0_6 l0_7 = some (r1, r2, r3, r4, r5, r6, r7, r8, r9)) :
  Calls Tryz.prog 31 #[.agg #[.string a0_0, .int .i64 a0_1, .int .i64 a0_2, .int .i64 a0_3, .int .i64 a0_4, .int .i64 a0_5, .string a0_6, .slice A0_7 l0_7.length c0_7]] w fun e w' => e = .returned (.agg #[.string r1, .string r2, .int .i64 r3, .int .i64 r4, .int .i64 r5, .int .i64 r6, .int .i64 r7, .int .u8 r8, .string r9]) ∧ Below w.heap.size w w' := by
 have hu38 := Tryz.underlying38
 have hu43 := Tryz.underlying43
 have hu36 := Tryz.underlying36
 have HR0_7 := Aside0.mk hr0_7
 have HC0_7 := Aside0.mk hc0_7
 clear hr0_7 hc0_7
 have HB := Aside0.mk (Below.refl w.heap.size w)
 have H : ((strf_Split.f a0_0).bind fun bt187 => (if bt187.2.2 = true then ((memb_Type.f a0_1).bind fun t190 => ((memb_first.f a0_6).bind fun t191 => (some (bt187.1, bt187.2.1, a0_2, a0_3, a0_4, a0_5, (l0_7.length : Int), t190, t191)))) else ((memb_first.f a0_0).bind fun t192 => ((memb_Type.f a0_1).bind fun t193 => ((memb_first.f a0_6).bind fun t194 => (some (bt187.1, t192, a0_2, a0_3, a0_4, a0_5, (l0_7.length : Int), t193, t194))))))) = some (r1, r2, r3, r4, r5, r6, r7, r8, r9) := h
 clear h
 replace H := Option.bind_eq_some_iff.mp H
 obtain ⟨⟨t187, t188, t189⟩, A20, H⟩ := H
 try dsimp only at H
 have A2 := Aside0.mk A20
 clear A20
 by_cases c3 : t189 = true
 ·subst c3
  have H1 := H; rw [if_pos rfl] at H1
  clear H
  have H := H1
  clear H1
  replace H := Option.bind_eq_some_iff.mp H
  obtain ⟨t190, A40, H⟩ := H
  try dsimp only at H
  have A4 := Aside0.mk A40
  clear A40
  replace H := Option.bind_eq_some_iff.mp H
  obtain ⟨t191, A50, H⟩ := H
  try dsimp only at H
  have A5 := Aside0.mk A50
  clear A50
  simp only [Option.some.injEq, Prod.mk.injEq] at H
  obtain ⟨rfl, rfl, rfl, rfl, rfl, rfl, rfl, rfl, rfl⟩ := H
  go_enter Tryz.func31, Tryz.ntmps31
  try go_wp2_with (first | ((with_reducible refine gate_dst (N := 1) rfl ?_); refine boxA_ 1 38 #[.string a0_0, .int .i64 a0_1, .int .i64 a0_2, .int .i64 a0_3, .int .i64 a0_4, .int .i64 a0_5, .string a0_6, .slice A0_7 l0_7.length c0_7] ?_; intro gb185 hg w6 hbox hb; have n0_ := Aside0.mk (bstep_ hb); have n1_ := Aside0.mk (hbox); have n2_ := Aside0.mk ((by rw [hg]; exact bsize_ : w.heap.size ≤ gb185)); have n3_ := Aside0.mk ((by rw [hg]; exact bsize_ : w.heap.size ≤ gb185)); clear HB; have HB := n0_; have BK185 := n1_; have GW185 := n2_; have GE185 := n3_; clear n0_ n1_ n2_ n3_; clear hb hbox hg) | ((with_reducible refine gate_dst (N := 2) rfl ?_); refine boxA_ 2 43 #[.string (⟨#[]⟩ : ByteArray), .string (⟨#[]⟩ : ByteArray), .int .i64 0, .int .i64 0, .int .i64 0, .int .i64 0, .int .i64 0, .int .u8 0, .string (⟨#[]⟩ : ByteArray)] ?_; intro gb186 hg w7 hbox hb; have n0_ := Aside0.mk (blkB_ BK185.out hb); have n1_ := Aside0.mk (bstep_ hb); have n2_ := Aside0.mk (hbox); have n3_ := Aside0.mk ((by rw [hg]; exact bsize_ : w.heap.size ≤ gb186)); have n4_ := Aside0.mk ((by rw [hg]; exact bsize_ : w.heap.size ≤ gb186)); have n5_ := Aside0.mk ((by rw [hg]; exact Nat.ne_of_lt (blkL_ BK185.out) : gb185 ≠ gb186)); have n6_ := Aside0.mk ((by rw [hg]; exact Nat.ne_of_gt (blkL_ BK185.out) : gb186 ≠ gb185)); clear BK185; clear HB; have BK185 := n0_; have HB := n1_; have BK186 := n2_; have GW186 := n3_; have GE186 := n4_; have NB185_186 := n5_; have NB186_185 := n6_; clear n0_ n1_ n2_ n3_ n4_ n5_ n6_; clear hb hbox hg; have hnb8 := NB185_186.out; have hnc8 := NB186_185.out; obtain ⟨hcz9_0, hcz9_1, hcz9_2, hcz9_3, hcz9_4, hcz9_5, hcz9_6, hcz9_7, hfz9_0, hfz9_1, hfz9_2, hfz9_3, hfz9_4, hfz9_5, hfz9_6, hfz9_7⟩ := blk_all8 BK185.out) | ((with_reducible refine gate_callee (f := 53) rfl ?_); refine goesA_ (some 9) Tryz.func53 #[.string a0_0] ?_; (with_reducible refine (strf_Split.calls a0_0 t187 t188 true _ A2.out).mono ?_); rintro e w10 ⟨rfl, hb⟩; refine ⟨_, rfl, ?_⟩; have n0_ := Aside0.mk (blkB_ BK185.out hb); have n1_ := Aside0.mk (blkB_ BK186.out hb); have n2_ := Aside0.mk (bstep_ hb); clear BK185; clear BK186; clear HB; have BK185 := n0_; have BK186 := n1_; have HB := n2_; clear n0_ n1_ n2_; (try clear hb); (try clear hb2); (try clear hk); (try clear hi)))
  have n0_ := Aside0.mk (blk_drew BK185.out)
  have n1_ := Aside0.mk (blk_drew BK186.out)
  have n2_ := Aside0.mk (below_drew1 HB.out)
  clear BK185
  clear BK186
  clear HB
  have BK185 := n0_
  have BK186 := n1_
  have HB := n2_
  clear n0_ n1_ n2_
  refine start_ (n := 15) (S := fun w' => w'.cell? ⟨gb185, 0, none⟩ = some (.string a0_0) ∧ w'.cell? ⟨gb185, 1, none⟩ = some (.int .i64 a0_1) ∧ w'.cell? ⟨gb185, 2, none⟩ = some (.int .i64 a0_2) ∧ w'.cell? ⟨gb185, 3, none⟩ = some (.int .i64 a0_3) ∧ w'.cell? ⟨gb185, 4, none⟩ = some (.int .i64 a0_4) ∧ w'.cell? ⟨gb185, 5, none⟩ = some (.int .i64 a0_5) ∧ w'.cell? ⟨gb185, 6, none⟩ = some (.string a0_6) ∧ w'.cell? ⟨gb185, 7, none⟩ = some (.slice A0_7 l0_7.length c0_7)) (ds := []) #[false, false, false, false, false, false, false, false, false, false, false, false, false, false, false] (by kernel_rfl) rfl rfl (blk_c8 BK185.out) (fun hHeld => ?_); refine with_tabW memb_header.tab4 memb_header.bits4 (fun HT_ HW_ => ?_)
  generalize w10.drew = w11 at BK185 BK186 HB hHeld ⊢
  refine pureS_ 0 18 ?_
  refine pureS_ 1 19 ?_
  refine pureS_ 2 20 ?_
  refine pureS_ 4 22 ?_
  refine pureS_ 7 25 ?_
  refine pureS_ 10 28 ?_
  refine takeS_ 3 21 ?_
  refine takeS_ 5 23 ?_
  refine pureS_ 6 24 ?_
  refine takeS_ 8 26 ?_
  refine takeS_ 11 29 ?_
  refine one_ (i := 9) (N := some 27) #[true, true, true, true, true, true, true, true, true, true, true, true, false, false, false] rfl rfl (one_of HT_.out (by kernel_rfl)) (by decide) (fun K hK => ?_)
  refine goes_ Tryz.func6 (by kernel_rfl) rfl #[.int .i64 a0_1] (by rfl) rfl rfl (by (try simp only [List.map_toArray, List.map_cons, List.map_nil]); first | done | rfl | (simp only [List.length_drop, List.length_take]; rfl)) ?_
  with_reducible refine (memb_Type.calls a0_1 t190 _ A4.out).mono ?_
  rintro e w' ⟨rfl, ⟨nd, rfl⟩⟩
  refine ⟨_, rfl, ?_⟩
  refine hK.out _ _ (blk_c8 BK185.out) (fun hHeld => ?_)
  clear hK K
  refine normS_ 27 ?_
  refine one_ (i := 12) (N := some 30) #[true, true, true, true, true, true, true, true, true, true, true, true, true, false, false] rfl rfl (one_of HT_.out (by kernel_rfl)) (by decide) (fun K hK => ?_)
  refine goes_ Tryz.func54 (by kernel_rfl) rfl #[.string a0_6] (by rfl) rfl rfl (by (try simp only [List.map_toArray, List.map_cons, List.map_nil]); first | done | rfl | (simp only [List.length_drop, List.length_take]; rfl)) ?_
  with_reducible refine (memb_first.calls a0_6 t191 _ A5.out).mono ?_
  rintro e w12 ⟨rfl, hb⟩
  refine ⟨_, rfl, ?_⟩
  have n0_ := Aside0.mk (blkB_ BK185.out hb)
  have n1_ := Aside0.mk (blkB_ BK186.out hb)
  have n2_ := Aside0.mk (bstep_ hb)
  clear BK185
  clear BK186
  clear HB
  have BK185 := n0_
  have BK186 := n1_
  have HB := n2_
  clear n0_ n1_ n2_
  (try clear hb)
  (try clear hb2)
  (try clear hk)
  (try clear hi)
  refine hK.out _ _ (blk_c8 BK185.out) (fun hHeld => ?_)
  clear hK K
  refine normS_ 30 ?_
  refine pureS_ 13 31 ?_
  refine one_ (i := 14) (N := none) #[true, true, true, true, true, true, true, true, true, true, true, true, true, true, true] rfl rfl (one_of HT_.out (by kernel_rfl)) (by decide) (fun K hK => ?_)
  have hs13 : w12.cell? ⟨gb186, 0, none⟩ = some (.string (⟨#[]⟩ : ByteArray)) := (blk_cell BK186.out 0).trans rfl
  have hfs13 := blk_frozen BK186.out 0
  have hns13_0 := NB185_186.out
  have hms13_0 := NB186_185.out
  have hs14 : w12.cell? ⟨gb186, 1, none⟩ = some (.string (⟨#[]⟩ : ByteArray)) := (blk_cell BK186.out 1).trans rfl
  have hfs14 := blk_frozen BK186.out 1
  have hns14_0 := NB185_186.out
  have hms14_0 := NB186_185.out
  have hs15 : w12.cell? ⟨gb186, 2, none⟩ = some (.int .i64 0) := (blk_cell BK186.out 2).trans rfl
  have hfs15 := blk_frozen BK186.out 2
  have hns15_0 := NB185_186.out
  have hms15_0 := NB186_185.out
  have hs16 : w12.cell? ⟨gb186, 3, none⟩ = some (.int .i64 0) := (blk_cell BK186.out 3).trans rfl
  have hfs16 := blk_frozen BK186.out 3
  have hns16_0 := NB185_186.out
  have hms16_0 := NB186_185.out
  have hs17 : w12.cell? ⟨gb186, 4, none⟩ = some (.int .i64 0) := (blk_cell BK186.out 4).trans rfl
  have hfs17 := blk_frozen BK186.out 4
  have hns17_0 := NB185_186.out
  have hms17_0 := NB186_185.out
  have hs18 : w12.cell? ⟨gb186, 5, none⟩ = some (.int .i64 0) := (blk_cell BK186.out 5).trans rfl
  have hfs18 := blk_frozen BK186.out 5
  have hns18_0 := NB185_186.out
  have hms18_0 := NB186_185.out
  have hs19 : w12.cell? ⟨gb186, 6, none⟩ = some (.int .i64 0) := (blk_cell BK186.out 6).trans rfl
  have hfs19 := blk_frozen BK186.out 6
  have hns19_0 := NB185_186.out
  have hms19_0 := NB186_185.out
  have hs20 : w12.cell? ⟨gb186, 7, none⟩ = some (.int .u8 0) := (blk_cell BK186.out 7).trans rfl
  have hfs20 := blk_frozen BK186.out 7
  have hns20_0 := NB185_186.out
  have hms20_0 := NB186_185.out
  have hs21 : w12.cell? ⟨gb186, 8, none⟩ = some (.string (⟨#[]⟩ : ByteArray)) := (blk_cell BK186.out 8).trans rfl
  have hfs21 := blk_frozen BK186.out 8
  have hns21_0 := NB185_186.out
  have hms21_0 := NB186_185.out
  refine skip_ (w1 := ?_) (by rfl) rfl ?_ ?_
  rotate_left
  ·go_simp
   rfl
  refine hK.out _ _ ⟨((cell_far (p := ⟨gb186, _, none⟩) NB185_186.out _).trans (((cell_far (p := ⟨gb186, _, none⟩) NB185_186.out _).trans (((cell_far (p := ⟨gb186, _, none⟩) NB185_186.out _).trans (((cell_far (p := ⟨gb186, _, none⟩) NB185_186.out _).trans (((cell_far (p := ⟨gb186, _, none⟩) NB185_186.out _).trans (((cell_far (p := ⟨gb186, _, none⟩) NB185_186.out _).trans (((cell_far (p := ⟨gb186, _, none⟩) NB185_186.out _).trans (((cell_far (p := ⟨gb186, _, none⟩) NB185_186.out _).trans (((cell_far (p := ⟨gb186, _, none⟩) NB185_186.out _).trans (hHeld.1)))))))))))))))))), ((cell_far (p := ⟨gb186, _, none⟩) NB185_186.out _).trans (((cell_far (p := ⟨gb186, _, none⟩) NB185_186.out _).trans (((cell_far (p := ⟨gb186, _, none⟩) NB185_186.out _).trans (((cell_far (p := ⟨gb186, _, none⟩) NB185_186.out _).trans (((cell_far (p := ⟨gb186, _, none⟩) NB185_186.out _).trans (((cell_far (p := ⟨gb186, _, none⟩) NB185_186.out _).trans (((cell_far (p := ⟨gb186, _, none⟩) NB185_186.out _).trans (((cell_far (p := ⟨gb186, _, none⟩) NB185_186.out _).trans (((cell_far (p := ⟨gb186, _, none⟩) NB185_186.out _).trans (hHeld.2.1)))))))))))))))))), ((cell_far (p := ⟨gb186, _, none⟩) NB185_186.out _).trans (((cell_far (p := ⟨gb186, _, none⟩) NB185_186.out _).trans (((cell_far (p := ⟨gb186, _, none⟩) NB185_186.out _).trans (((cell_far (p := ⟨gb186, _, none⟩) NB185_186.out _).trans (((cell_far (p := ⟨gb186, _, none⟩) NB185_186.out _).trans (((cell_far (p := ⟨gb186, _, none⟩) NB185_186.out _).trans (((cell_far (p := ⟨gb186, _, none⟩) NB185_186.out _).trans (((cell_far (p := ⟨gb186, _, none⟩) NB185_186.out _).trans (((cell_far (p := ⟨gb186, _, none⟩) NB185_186.out _).trans (hHeld.2.2.1)))))))))))))))))), ((cell_far (p := ⟨gb186, _, none⟩) NB185_186.out _).trans (((cell_far (p := ⟨gb186, _, none⟩) NB185_186.out _).trans (((cell_far (p := ⟨gb186, _, none⟩) NB185_186.out _).trans (((cell_far (p := ⟨gb186, _, none⟩) NB185_186.out _).trans (((cell_far (p := ⟨gb186, _, none⟩) NB185_186.out _).trans (((cell_far (p := ⟨gb186, _, none⟩) NB185_186.out _).trans (((cell_far (p := ⟨gb186, _, none⟩) NB185_186.out _).trans (((cell_far (p := ⟨gb186, _, none⟩) NB185_186.out _).trans (((cell_far (p := ⟨gb186, _, none⟩) NB185_186.out _).trans (hHeld.2.2.2.1)))))))))))))))))), ((cell_far (p := ⟨gb186, _, none⟩) NB185_186.out _).trans (((cell_far (p := ⟨gb186, _, none⟩) NB185_186.out _).trans (((cell_far (p := ⟨gb186, _, none⟩) NB185_186.out _).trans (((cell_far (p := ⟨gb186, _, none⟩) NB185_186.out _).trans (((cell_far (p := ⟨gb186, _, none⟩) NB185_186.out _).trans (((cell_far (p := ⟨gb186, _, none⟩) NB185_186.out _).trans (((cell_far (p := ⟨gb186, _, none⟩) NB185_186.out _).trans (((cell_far (p := ⟨gb186, _, none⟩) NB185_186.out _).trans (((cell_far (p := ⟨gb186, _, none⟩) NB185_186.out _).trans (hHeld.2.2.2.2.1)))))))))))))))))), ((cell_far (p := ⟨gb186, _, none⟩) NB185_186.out _).trans (((cell_far (p := ⟨gb186, _, none⟩) NB185_186.out _).trans (((cell_far (p := ⟨gb186, _, none⟩) NB185_186.out _).trans (((cell_far (p := ⟨gb186, _, none⟩) NB185_186.out _).trans (((cell_far (p := ⟨gb186, _, none⟩) NB185_186.out _).trans (((cell_far (p := ⟨gb186, _, none⟩) NB185_186.out _).trans (((cell_far (p := ⟨gb186, _, none⟩) NB185_186.out _).trans (((cell_far (p := ⟨gb186, _, none⟩) NB185_186.out _).trans (((cell_far (p := ⟨gb186, _, none⟩) NB185_186.out _).trans (hHeld.2.2.2.2.2.1)))))))))))))))))), ((cell_far (p := ⟨gb186, _, none⟩) NB185_186.out _).trans (((cell_far (p := ⟨gb186, _, none⟩) NB185_186.out _).trans (((cell_far (p := ⟨gb186, _, none⟩) NB185_186.out _).trans (((cell_far (p := ⟨gb186, _, none⟩) NB185_186.out _).trans (((cell_far (p := ⟨gb186, _, none⟩) NB185_186.out _).trans (((cell_far (p := ⟨gb186, _, none⟩) NB185_186.out _).trans (((cell_far (p := ⟨gb186, _, none⟩) NB185_186.out _).trans (((cell_far (p := ⟨gb186, _, none⟩) NB185_186.out _).trans (((cell_far (p := ⟨gb186, _, none⟩) NB185_186.out _).trans (hHeld.2.2.2.2.2.2.1)))))))))))))))))), ((cell_far (p := ⟨gb186, _, none⟩) NB185_186.out _).trans (((cell_far (p := ⟨gb186, _, none⟩) NB185_186.out _).trans (((cell_far (p := ⟨gb186, _, none⟩) NB185_186.out _).trans (((cell_far (p := ⟨gb186, _, none⟩) NB185_186.out _).trans (((cell_far (p := ⟨gb186, _, none⟩) NB185_186.out _).trans (((cell_far (p := ⟨gb186, _, none⟩) NB185_186.out _).trans (((cell_far (p := ⟨gb186, _, none⟩) NB185_186.out _).trans (((cell_far (p := ⟨gb186, _, none⟩) NB185_186.out _).trans (((cell_far (p := ⟨gb186, _, none⟩) NB185_186.out _).trans (hHeld.2.2.2.2.2.2.2))))))))))))))))))⟩ (fun hHeld => ?_)
  clear hK K
  refine done_ (done_of HT_.out (by kernel_rfl)) ?_
  try go_wp2
  refine bodyPost_ret (results_cell_row rfl _ _ gb186 43 #[.string t187, .string t188, .int .i64 a0_2, .int .i64 a0_3, .int .i64 a0_4, .int .i64 a0_5, .int .i64 (l0_7.length : Int), .int .u8 t190, .string t191] (0, 0) _ rfl (by (with_reducible repeat (first | refine blk_drewN ?_ _ | refine blk_drew ?_ | refine blk_alloc ?_ _)); refine blk_put (cs := #[.string t187, .string t188, .int .i64 a0_2, .int .i64 a0_3, .int .i64 a0_4, .int .i64 a0_5, .int .i64 (l0_7.length : Int), .int .u8 t190, .string (⟨#[]⟩ : ByteArray)]) ?_ 8 _ rfl; (with_reducible repeat (first | refine blk_drewN ?_ _ | refine blk_drew ?_ | refine blk_alloc ?_ _)); refine blk_put (cs := #[.string t187, .string t188, .int .i64 a0_2, .int .i64 a0_3, .int .i64 a0_4, .int .i64 a0_5, .int .i64 (l0_7.length : Int), .int .u8 0, .string (⟨#[]⟩ : ByteArray)]) ?_ 7 _ rfl; (with_reducible repeat (first | refine blk_drewN ?_ _ | refine blk_drew ?_ | refine blk_alloc ?_ _)); refine blk_put (cs := #[.string t187, .string t188, .int .i64 a0_2, .int .i64 a0_3, .int .i64 a0_4, .int .i64 a0_5, .int .i64 0, .int .u8 0, .string (⟨#[]⟩ : ByteArray)]) ?_ 6 _ rfl; (with_reducible repeat (first | refine blk_drewN ?_ _ | refine blk_drew ?_ | refine blk_alloc ?_ _)); refine blk_put (cs := #[.string t187, .string t188, .int .i64 a0_2, .int .i64 a0_3, .int .i64 a0_4, .int .i64 0, .int .i64 0, .int .u8 0, .string (⟨#[]⟩ : ByteArray)]) ?_ 5 _ rfl; (with_reducible repeat (first | refine blk_drewN ?_ _ | refine blk_drew ?_ | refine blk_alloc ?_ _)); refine blk_put (cs := #[.string t187, .string t188, .int .i64 a0_2, .int .i64 a0_3, .int .i64 0, .int .i64 0, .int .i64 0, .int .u8 0, .string (⟨#[]⟩ : ByteArray)]) ?_ 4 _ rfl; (with_reducible repeat (first | refine blk_drewN ?_ _ | refine blk_drew ?_ | refine blk_alloc ?_ _)); refine blk_put (cs := #[.string t187, .string t188, .int .i64 a0_2, .int .i64 0, .int .i64 0, .int .i64 0, .int .i64 0, .int .u8 0, .string (⟨#[]⟩ : ByteArray)]) ?_ 3 _ rfl; (with_reducible repeat (first | refine blk_drewN ?_ _ | refine blk_drew ?_ | refine blk_alloc ?_ _)); refine blk_put (cs := #[.string t187, .string t188, .int .i64 0, .int .i64 0, .int .i64 0, .int .i64 0, .int .i64 0, .int .u8 0, .string (⟨#[]⟩ : ByteArray)]) ?_ 2 _ rfl; (with_reducible repeat (first | refine blk_drewN ?_ _ | refine blk_drew ?_ | refine blk_alloc ?_ _)); refine blk_put (cs := #[.string t187, .string (⟨#[]⟩ : ByteArray), .int .i64 0, .int .i64 0, .int .i64 0, .int .i64 0, .int .i64 0, .int .u8 0, .string (⟨#[]⟩ : ByteArray)]) ?_ 1 _ rfl; (with_reducible repeat (first | refine blk_drewN ?_ _ | refine blk_drew ?_ | refine blk_alloc ?_ _)); refine blk_put (cs := #[.string (⟨#[]⟩ : ByteArray), .string (⟨#[]⟩ : ByteArray), .int .i64 0, .int .i64 0, .int .i64 0, .int .i64 0, .int .i64 0, .int .u8 0, .string (⟨#[]⟩ : ByteArray)]) ?_ 0 _ rfl; (with_reducible repeat (first | refine blk_drewN ?_ _ | refine blk_drew ?_ | refine blk_alloc ?_ _)); exact BK186.out) Tryz.underlying43 rfl (by kernel_rfl)) rfl ?_
  exact finA_
 ·replace c3 := Bool.eq_false_iff.mpr c3
  subst c3
  have H1 := H; rw [if_neg (show ¬ (false = true) by decide)] at H1
  clear H
  have H := H1
  clear H1
  replace H := Option.bind_eq_some_iff.mp H
  obtain ⟨t192, A220, H⟩ := H
  try dsimp only at H
  have A22 := Aside0.mk A220
  clear A220
  replace H := Option.bind_eq_some_iff.mp H
  obtain ⟨t193, A230, H⟩ := H
  try dsimp only at H
  have A23 := Aside0.mk A230
  clear A230
  replace H := Option.bind_eq_some_iff.mp H
  obtain ⟨t194, A240, H⟩ := H
  try dsimp only at H
  have A24 := Aside0.mk A240
  clear A240
  simp only [Option.some.injEq, Prod.mk.injEq] at H
  obtain ⟨rfl, rfl, rfl, rfl, rfl, rfl, rfl, rfl, rfl⟩ := H
  go_enter Tryz.func31, Tryz.ntmps31
  try go_wp2_with (first | ((with_reducible refine gate_dst (N := 1) rfl ?_); refine boxA_ 1 38 #[.string a0_0, .int .i64 a0_1, .int .i64 a0_2, .int .i64 a0_3, .int .i64 a0_4, .int .i64 a0_5, .string a0_6, .slice A0_7 l0_7.length c0_7] ?_; intro gb185 hg w25 hbox hb; have n0_ := Aside0.mk (bstep_ hb); have n1_ := Aside0.mk (hbox); have n2_ := Aside0.mk ((by rw [hg]; exact bsize_ : w.heap.size ≤ gb185)); have n3_ := Aside0.mk ((by rw [hg]; exact bsize_ : w.heap.size ≤ gb185)); clear HB; have HB := n0_; have BK185 := n1_; have GW185 := n2_; have GE185 := n3_; clear n0_ n1_ n2_ n3_; clear hb hbox hg) | ((with_reducible refine gate_dst (N := 2) rfl ?_); refine boxA_ 2 43 #[.string (⟨#[]⟩ : ByteArray), .string (⟨#[]⟩ : ByteArray), .int .i64 0, .int .i64 0, .int .i64 0, .int .i64 0, .int .i64 0, .int .u8 0, .string (⟨#[]⟩ : ByteArray)] ?_; intro gb186 hg w26 hbox hb; have n0_ := Aside0.mk (blkB_ BK185.out hb); have n1_ := Aside0.mk (bstep_ hb); have n2_ := Aside0.mk (hbox); have n3_ := Aside0.mk ((by rw [hg]; exact bsize_ : w.heap.size ≤ gb186)); have n4_ := Aside0.mk ((by rw [hg]; exact bsize_ : w.heap.size ≤ gb186)); have n5_ := Aside0.mk ((by rw [hg]; exact Nat.ne_of_lt (blkL_ BK185.out) : gb185 ≠ gb186)); have n6_ := Aside0.mk ((by rw [hg]; exact Nat.ne_of_gt (blkL_ BK185.out) : gb186 ≠ gb185)); clear BK185; clear HB; have BK185 := n0_; have HB := n1_; have BK186 := n2_; have GW186 := n3_; have GE186 := n4_; have NB185_186 := n5_; have NB186_185 := n6_; clear n0_ n1_ n2_ n3_ n4_ n5_ n6_; clear hb hbox hg; have hnb27 := NB185_186.out; have hnc27 := NB186_185.out; obtain ⟨hcz28_0, hcz28_1, hcz28_2, hcz28_3, hcz28_4, hcz28_5, hcz28_6, hcz28_7, hfz28_0, hfz28_1, hfz28_2, hfz28_3, hfz28_4, hfz28_5, hfz28_6, hfz28_7⟩ := blk_all8 BK185.out) | ((with_reducible refine gate_callee (f := 53) rfl ?_); refine goesA_ (some 9) Tryz.func53 #[.string a0_0] ?_; (with_reducible refine (strf_Split.calls a0_0 t187 t188 false _ A2.out).mono ?_); rintro e w29 ⟨rfl, hb⟩; refine ⟨_, rfl, ?_⟩; have n0_ := Aside0.mk (blkB_ BK185.out hb); have n1_ := Aside0.mk (blkB_ BK186.out hb); have n2_ := Aside0.mk (bstep_ hb); clear BK185; clear BK186; clear HB; have BK185 := n0_; have BK186 := n1_; have HB := n2_; clear n0_ n1_ n2_; (try clear hb); (try clear hb2); (try clear hk); (try clear hi); obtain ⟨hcz30_0, hcz30_1, hcz30_2, hcz30_3, hcz30_4, hcz30_5, hcz30_6, hcz30_7, hfz30_0, hfz30_1, hfz30_2, hfz30_3, hfz30_4, hfz30_5, hfz30_6, hfz30_7⟩ := blk_all8 BK185.out) | ((with_reducible refine gate_callee (f := 54) rfl ?_); refine goesA_ (some 17) Tryz.func54 #[.string a0_0] ?_; (with_reducible refine (memb_first.calls a0_0 t192 _ A22.out).mono ?_); rintro e w31 ⟨rfl, hb⟩; refine ⟨_, rfl, ?_⟩; have n0_ := Aside0.mk (blkB_ BK185.out hb); have n1_ := Aside0.mk (blkB_ BK186.out hb); have n2_ := Aside0.mk (bstep_ hb); clear BK185; clear BK186; clear HB; have BK185 := n0_; have BK186 := n1_; have HB := n2_; clear n0_ n1_ n2_; (try clear hb); (try clear hb2); (try clear hk); (try clear hi)))
  have n0_ := Aside0.mk (blk_drew BK185.out)
  have n1_ := Aside0.mk (blk_drew BK186.out)
  have n2_ := Aside0.mk (below_drew1 HB.out)
  clear BK185
  clear BK186
  clear HB
  have BK185 := n0_
  have BK186 := n1_
  have HB := n2_
  clear n0_ n1_ n2_
  refine start_ (n := 15) (S := fun w' => w'.cell? ⟨gb185, 0, none⟩ = some (.string a0_0) ∧ w'.cell? ⟨gb185, 1, none⟩ = some (.int .i64 a0_1) ∧ w'.cell? ⟨gb185, 2, none⟩ = some (.int .i64 a0_2) ∧ w'.cell? ⟨gb185, 3, none⟩ = some (.int .i64 a0_3) ∧ w'.cell? ⟨gb185, 4, none⟩ = some (.int .i64 a0_4) ∧ w'.cell? ⟨gb185, 5, none⟩ = some (.int .i64 a0_5) ∧ w'.cell? ⟨gb185, 6, none⟩ = some (.string a0_6) ∧ w'.cell? ⟨gb185, 7, none⟩ = some (.slice A0_7 l0_7.length c0_7)) (ds := []) #[false, false, false, false, false, false, false, false, false, false, false, false, false, false, false] (by kernel_rfl) rfl rfl (blk_c8 BK185.out) (fun hHeld => ?_); refine with_tabW memb_header.tab4 memb_header.bits4 (fun HT_ HW_ => ?_)
  generalize w31.drew = w32 at BK185 BK186 HB hHeld ⊢
  refine pureS_ 0 18 ?_
  refine pureS_ 1 19 ?_
  refine pureS_ 2 20 ?_
  refine pureS_ 4 22 ?_
  refine pureS_ 7 25 ?_
  refine pureS_ 10 28 ?_
  refine takeS_ 3 21 ?_
  refine takeS_ 5 23 ?_
  refine pureS_ 6 24 ?_
  refine takeS_ 8 26 ?_
  refine takeS_ 11 29 ?_
  refine one_ (i := 9) (N := some 27) #[true, true, true, true, true, true, true, true, true, true, true, true, false, false, false] rfl rfl (one_of HT_.out (by kernel_rfl)) (by decide) (fun K hK => ?_)
  refine goes_ Tryz.func6 (by kernel_rfl) rfl #[.int .i64 a0_1] (by rfl) rfl rfl (by (try simp only [List.map_toArray, List.map_cons, List.map_nil]); first | done | rfl | (simp only [List.length_drop, List.length_take]; rfl)) ?_
  with_reducible refine (memb_Type.calls a0_1 t193 _ A23.out).mono ?_
  rintro e w' ⟨rfl, ⟨nd, rfl⟩⟩
  refine ⟨_, rfl, ?_⟩
  refine hK.out _ _ (blk_c8 BK185.out) (fun hHeld => ?_)
  clear hK K
  refine normS_ 27 ?_
  refine one_ (i := 12) (N := some 30) #[true, true, true, true, true, true, true, true, true, true, true, true, true, false, false] rfl rfl (one_of HT_.out (by kernel_rfl)) (by decide) (fun K hK => ?_)
  refine goes_ Tryz.func54 (by kernel_rfl) rfl #[.string a0_6] (by rfl) rfl rfl (by (try simp only [List.map_toArray, List.map_cons, List.map_nil]); first | done | rfl | (simp only [List.length_drop, List.length_take]; rfl)) ?_
  with_reducible refine (memb_first.calls a0_6 t194 _ A24.out).mono ?_
  rintro e w33 ⟨rfl, hb⟩
  refine ⟨_, rfl, ?_⟩
  have n0_ := Aside0.mk (blkB_ BK185.out hb)
  have n1_ := Aside0.mk (blkB_ BK186.out hb)
  have n2_ := Aside0.mk (bstep_ hb)
  clear BK185
  clear BK186
  clear HB
  have BK185 := n0_
  have BK186 := n1_
  have HB := n2_
  clear n0_ n1_ n2_
  (try clear hb)
  (try clear hb2)
  (try clear hk)
  (try clear hi)
  refine hK.out _ _ (blk_c8 BK185.out) (fun hHeld => ?_)
  clear hK K
  refine normS_ 30 ?_
  refine pureS_ 13 31 ?_
  refine one_ (i := 14) (N := none) #[true, true, true, true, true, true, true, true, true, true, true, true, true, true, true] rfl rfl (one_of HT_.out (by kernel_rfl)) (by decide) (fun K hK => ?_)
  have hs34 : w33.cell? ⟨gb186, 0, none⟩ = some (.string (⟨#[]⟩ : ByteArray)) := (blk_cell BK186.out 0).trans rfl
  have hfs34 := blk_frozen BK186.out 0
  have hns34_0 := NB185_186.out
  have hms34_0 := NB186_185.out
  have hs35 : w33.cell? ⟨gb186, 1, none⟩ = some (.string (⟨#[]⟩ : ByteArray)) := (blk_cell BK186.out 1).trans rfl
  have hfs35 := blk_frozen BK186.out 1
  have hns35_0 := NB185_186.out
  have hms35_0 := NB186_185.out
  have hs36 : w33.cell? ⟨gb186, 2, none⟩ = some (.int .i64 0) := (blk_cell BK186.out 2).trans rfl
  have hfs36 := blk_frozen BK186.out 2
  have hns36_0 := NB185_186.out
  have hms36_0 := NB186_185.out
  have hs37 : w33.cell? ⟨gb186, 3, none⟩ = some (.int .i64 0) := (blk_cell BK186.out 3).trans rfl
  have hfs37 := blk_frozen BK186.out 3
  have hns37_0 := NB185_186.out
  have hms37_0 := NB186_185.out
  have hs38 : w33.cell? ⟨gb186, 4, none⟩ = some (.int .i64 0) := (blk_cell BK186.out 4).trans rfl
  have hfs38 := blk_frozen BK186.out 4
  have hns38_0 := NB185_186.out
  have hms38_0 := NB186_185.out
  have hs39 : w33.cell? ⟨gb186, 5, none⟩ = some (.int .i64 0) := (blk_cell BK186.out 5).trans rfl
  have hfs39 := blk_frozen BK186.out 5
  have hns39_0 := NB185_186.out
  have hms39_0 := NB186_185.out
  have hs40 : w33.cell? ⟨gb186, 6, none⟩ = some (.int .i64 0) := (blk_cell BK186.out 6).trans rfl
  have hfs40 := blk_frozen BK186.out 6
  have hns40_0 := NB185_186.out
  have hms40_0 := NB186_185.out
  have hs41 : w33.cell? ⟨gb186, 7, none⟩ = some (.int .u8 0) := (blk_cell BK186.out 7).trans rfl
  have hfs41 := blk_frozen BK186.out 7
  have hns41_0 := NB185_186.out
  have hms41_0 := NB186_185.out
  have hs42 : w33.cell? ⟨gb186, 8, none⟩ = some (.string (⟨#[]⟩ : ByteArray)) := (blk_cell BK186.out 8).trans rfl
  have hfs42 := blk_frozen BK186.out 8
  have hns42_0 := NB185_186.out
  have hms42_0 := NB186_185.out
  refine skip_ (w1 := ?_) (by rfl) rfl ?_ ?_
  rotate_left
  ·go_simp
   rfl
  refine hK.out _ _ ⟨((cell_far (p := ⟨gb186, _, none⟩) NB185_186.out _).trans (((cell_far (p := ⟨gb186, _, none⟩) NB185_186.out _).trans (((cell_far (p := ⟨gb186, _, none⟩) NB185_186.out _).trans (((cell_far (p := ⟨gb186, _, none⟩) NB185_186.out _).trans (((cell_far (p := ⟨gb186, _, none⟩) NB185_186.out _).trans (((cell_far (p := ⟨gb186, _, none⟩) NB185_186.out _).trans (((cell_far (p := ⟨gb186, _, none⟩) NB185_186.out _).trans (((cell_far (p := ⟨gb186, _, none⟩) NB185_186.out _).trans (((cell_far (p := ⟨gb186, _, none⟩) NB185_186.out _).trans (hHeld.1)))))))))))))))))), ((cell_far (p := ⟨gb186, _, none⟩) NB185_186.out _).trans (((cell_far (p := ⟨gb186, _, none⟩) NB185_186.out _).trans (((cell_far (p := ⟨gb186, _, none⟩) NB185_186.out _).trans (((cell_far (p := ⟨gb186, _, none⟩) NB185_186.out _).trans (((cell_far (p := ⟨gb186, _, none⟩) NB185_186.out _).trans (((cell_far (p := ⟨gb186, _, none⟩) NB185_186.out _).trans (((cell_far (p := ⟨gb186, _, none⟩) NB185_186.out _).trans (((cell_far (p := ⟨gb186, _, none⟩) NB185_186.out _).trans (((cell_far (p := ⟨gb186, _, none⟩) NB185_186.out _).trans (hHeld.2.1)))))))))))))))))), ((cell_far (p := ⟨gb186, _, none⟩) NB185_186.out _).trans (((cell_far (p := ⟨gb186, _, none⟩) NB185_186.out _).trans (((cell_far (p := ⟨gb186, _, none⟩) NB185_186.out _).trans (((cell_far (p := ⟨gb186, _, none⟩) NB185_186.out _).trans (((cell_far (p := ⟨gb186, _, none⟩) NB185_186.out _).trans (((cell_far (p := ⟨gb186, _, none⟩) NB185_186.out _).trans (((cell_far (p := ⟨gb186, _, none⟩) NB185_186.out _).trans (((cell_far (p := ⟨gb186, _, none⟩) NB185_186.out _).trans (((cell_far (p := ⟨gb186, _, none⟩) NB185_186.out _).trans (hHeld.2.2.1)))))))))))))))))), ((cell_far (p := ⟨gb186, _, none⟩) NB185_186.out _).trans (((cell_far (p := ⟨gb186, _, none⟩) NB185_186.out _).trans (((cell_far (p := ⟨gb186, _, none⟩) NB185_186.out _).trans (((cell_far (p := ⟨gb186, _, none⟩) NB185_186.out _).trans (((cell_far (p := ⟨gb186, _, none⟩) NB185_186.out _).trans (((cell_far (p := ⟨gb186, _, none⟩) NB185_186.out _).trans (((cell_far (p := ⟨gb186, _, none⟩) NB185_186.out _).trans (((cell_far (p := ⟨gb186, _, none⟩) NB185_186.out _).trans (((cell_far (p := ⟨gb186, _, none⟩) NB185_186.out _).trans (hHeld.2.2.2.1)))))))))))))))))), ((cell_far (p := ⟨gb186, _, none⟩) NB185_186.out _).trans (((cell_far (p := ⟨gb186, _, none⟩) NB185_186.out _).trans (((cell_far (p := ⟨gb186, _, none⟩) NB185_186.out _).trans (((cell_far (p := ⟨gb186, _, none⟩) NB185_186.out _).trans (((cell_far (p := ⟨gb186, _, none⟩) NB185_186.out _).trans (((cell_far (p := ⟨gb186, _, none⟩) NB185_186.out _).trans (((cell_far (p := ⟨gb186, _, none⟩) NB185_186.out _).trans (((cell_far (p := ⟨gb186, _, none⟩) NB185_186.out _).trans (((cell_far (p := ⟨gb186, _, none⟩) NB185_186.out _).trans (hHeld.2.2.2.2.1)))))))))))))))))), ((cell_far (p := ⟨gb186, _, none⟩) NB185_186.out _).trans (((cell_far (p := ⟨gb186, _, none⟩) NB185_186.out _).trans (((cell_far (p := ⟨gb186, _, none⟩) NB185_186.out _).trans (((cell_far (p := ⟨gb186, _, none⟩) NB185_186.out _).trans (((cell_far (p := ⟨gb186, _, none⟩) NB185_186.out _).trans (((cell_far (p := ⟨gb186, _, none⟩) NB185_186.out _).trans (((cell_far (p := ⟨gb186, _, none⟩) NB185_186.out _).trans (((cell_far (p := ⟨gb186, _, none⟩) NB185_186.out _).trans (((cell_far (p := ⟨gb186, _, none⟩) NB185_186.out _).trans (hHeld.2.2.2.2.2.1)))))))))))))))))), ((cell_far (p := ⟨gb186, _, none⟩) NB185_186.out _).trans (((cell_far (p := ⟨gb186, _, none⟩) NB185_186.out _).trans (((cell_far (p := ⟨gb186, _, none⟩) NB185_186.out _).trans (((cell_far (p := ⟨gb186, _, none⟩) NB185_186.out _).trans (((cell_far (p := ⟨gb186, _, none⟩) NB185_186.out _).trans (((cell_far (p := ⟨gb186, _, none⟩) NB185_186.out _).trans (((cell_far (p := ⟨gb186, _, none⟩) NB185_186.out _).trans (((cell_far (p := ⟨gb186, _, none⟩) NB185_186.out _).trans (((cell_far (p := ⟨gb186, _, none⟩) NB185_186.out _).trans (hHeld.2.2.2.2.2.2.1)))))))))))))))))), ((cell_far (p := ⟨gb186, _, none⟩) NB185_186.out _).trans (((cell_far (p := ⟨gb186, _, none⟩) NB185_186.out _).trans (((cell_far (p := ⟨gb186, _, none⟩) NB185_186.out _).trans (((cell_far (p := ⟨gb186, _, none⟩) NB185_186.out _).trans (((cell_far (p := ⟨gb186, _, none⟩) NB185_186.out _).trans (((cell_far (p := ⟨gb186, _, none⟩) NB185_186.out _).trans (((cell_far (p := ⟨gb186, _, none⟩) NB185_186.out _).trans (((cell_far (p := ⟨gb186, _, none⟩) NB185_186.out _).trans (((cell_far (p := ⟨gb186, _, none⟩) NB185_186.out _).trans (hHeld.2.2.2.2.2.2.2))))))))))))))))))⟩ (fun hHeld => ?_)
  clear hK K
  refine done_ (done_of HT_.out (by kernel_rfl)) ?_
  try go_wp2
  refine bodyPost_ret (results_cell_row rfl _ _ gb186 43 #[.string t187, .string t192, .int .i64 a0_2, .int .i64 a0_3, .int .i64 a0_4, .int .i64 a0_5, .int .i64 (l0_7.length : Int), .int .u8 t193, .string t194] (0, 0) _ rfl (by (with_reducible repeat (first | refine blk_drewN ?_ _ | refine blk_drew ?_ | refine blk_alloc ?_ _)); refine blk_put (cs := #[.string t187, .string t192, .int .i64 a0_2, .int .i64 a0_3, .int .i64 a0_4, .int .i64 a0_5, .int .i64 (l0_7.length : Int), .int .u8 t193, .string (⟨#[]⟩ : ByteArray)]) ?_ 8 _ rfl; (with_reducible repeat (first | refine blk_drewN ?_ _ | refine blk_drew ?_ | refine blk_alloc ?_ _)); refine blk_put (cs := #[.string t187, .string t192, .int .i64 a0_2, .int .i64 a0_3, .int .i64 a0_4, .int .i64 a0_5, .int .i64 (l0_7.length : Int), .int .u8 0, .string (⟨#[]⟩ : ByteArray)]) ?_ 7 _ rfl; (with_reducible repeat (first | refine blk_drewN ?_ _ | refine blk_drew ?_ | refine blk_alloc ?_ _)); refine blk_put (cs := #[.string t187, .string t192, .int .i64 a0_2, .int .i64 a0_3, .int .i64 a0_4, .int .i64 a0_5, .int .i64 0, .int .u8 0, .string (⟨#[]⟩ : ByteArray)]) ?_ 6 _ rfl; (with_reducible repeat (first | refine blk_drewN ?_ _ | refine blk_drew ?_ | refine blk_alloc ?_ _)); refine blk_put (cs := #[.string t187, .string t192, .int .i64 a0_2, .int .i64 a0_3, .int .i64 a0_4, .int .i64 0, .int .i64 0, .int .u8 0, .string (⟨#[]⟩ : ByteArray)]) ?_ 5 _ rfl; (with_reducible repeat (first | refine blk_drewN ?_ _ | refine blk_drew ?_ | refine blk_alloc ?_ _)); refine blk_put (cs := #[.string t187, .string t192, .int .i64 a0_2, .int .i64 a0_3, .int .i64 0, .int .i64 0, .int .i64 0, .int .u8 0, .string (⟨#[]⟩ : ByteArray)]) ?_ 4 _ rfl; (with_reducible repeat (first | refine blk_drewN ?_ _ | refine blk_drew ?_ | refine blk_alloc ?_ _)); refine blk_put (cs := #[.string t187, .string t192, .int .i64 a0_2, .int .i64 0, .int .i64 0, .int .i64 0, .int .i64 0, .int .u8 0, .string (⟨#[]⟩ : ByteArray)]) ?_ 3 _ rfl; (with_reducible repeat (first | refine blk_drewN ?_ _ | refine blk_drew ?_ | refine blk_alloc ?_ _)); refine blk_put (cs := #[.string t187, .string t192, .int .i64 0, .int .i64 0, .int .i64 0, .int .i64 0, .int .i64 0, .int .u8 0, .string (⟨#[]⟩ : ByteArray)]) ?_ 2 _ rfl; (with_reducible repeat (first | refine blk_drewN ?_ _ | refine blk_drew ?_ | refine blk_alloc ?_ _)); refine blk_put (cs := #[.string t187, .string (⟨#[]⟩ : ByteArray), .int .i64 0, .int .i64 0, .int .i64 0, .int .i64 0, .int .i64 0, .int .u8 0, .string (⟨#[]⟩ : ByteArray)]) ?_ 1 _ rfl; (with_reducible repeat (first | refine blk_drewN ?_ _ | refine blk_drew ?_ | refine blk_alloc ?_ _)); refine blk_put (cs := #[.string (⟨#[]⟩ : ByteArray), .string (⟨#[]⟩ : ByteArray), .int .i64 0, .int .i64 0, .int .i64 0, .int .i64 0, .int .i64 0, .int .u8 0, .string (⟨#[]⟩ : ByteArray)]) ?_ 0 _ rfl; (with_reducible repeat (first | refine blk_drewN ?_ _ | refine blk_drew ?_ | refine blk_alloc ?_ _)); exact BK186.out) Tryz.underlying43 rfl (by kernel_rfl)) rfl ?_
  exact finA_


/-! ### memb_Lay: function 16 -/
def memb_Lay.f (k : Nat) (a0_0 : ByteArray) (a0_1 : Int) (a0_2 : Int) (a0_3 : Int) (a0_4 : Int) (a0_5 : Int) (a0_6 : ByteArray) (l0_7 : List Int) : Option (List Int × Int) := (memb_May.f a0_0 a0_1 a0_2 a0_3 a0_4 a0_5 a0_6 l0_7).bind fun t196 => (if t196 = 0 then ((memb_Recs.f a0_0 a0_1 a0_2 a0_3 a0_4 a0_5 a0_6 l0_7).bind fun t197 => ((memb_ahead.f k t197).bind fun bt200 => (if bt200.2 = 0 then ((memb_header.f a0_0 a0_1 a0_2 a0_3 a0_4 a0_5 a0_6 l0_7).bind fun bt204 => ((head_Lay.f k bt204.1 bt204.2.1 bt204.2.2.1 bt204.2.2.2.1 bt204.2.2.2.2.1 bt204.2.2.2.2.2.1 bt204.2.2.2.2.2.2.1 bt204.2.2.2.2.2.2.2.1 bt204.2.2.2.2.2.2.2.2).bind fun bt213 => (if bt213.2 = 0 then (if bt200.1.length + bt213.1.length < 140737488355328 then ((some (bt200.1 ++ bt213.1 : List Int)).bind fun y217 => ((blocks_Fill.f l0_7).bind fun t220 => (if y217.length + t220.length < 140737488355328 then (some ((y217 ++ t220), 0)) else (none)))) else (none)) else (some (([] : List Int), bt213.2))))) else (some (([] : List Int), bt200.2))))) else (some (([] : List Int), t196)))
theorem memb_Lay.mono : ∀ a0 a1 a2 a3 a4 a5 a6 a7 k, LeO (memb_Lay.f k a0 a1 a2 a3 a4 a5 a6 a7) (memb_Lay.f (k + 1) a0 a1 a2 a3 a4 a5 a6 a7) := by
 intro a0 a1 a2 a3 a4 a5 a6 a7 k
 unfold memb_Lay.f
 repeat' first
   | (with_reducible exact head_Lay.mono _ _ _ _ _ _ _ _ _ _)
   | (with_reducible exact memb_ahead.mono _ _)
   | (with_reducible exact LeO.refl _)
   | (with_reducible exact LeO.none _)
   | (with_reducible refine LeO.ite ?_ ?_)
   | (with_reducible refine LeO.bind ?_ (fun _ => ?_))
   | exact head_Lay.mono _ _ _ _ _ _ _ _ _ _
   | exact memb_ahead.mono _ _
   | exact LeO.none _
   | refine LeO.ite ?_ ?_
   | refine LeO.bind ?_ (fun _ => ?_)
def memb_Lay.T10 : Bool × List (List Nat × List Nat) := (true, [([], []), ([], []), ([0, 1], [0, 1]), ([], []), ([3], [3]), ([4, 2], [4]), ([2, 5, 5], [2, 5]), ([6, 6, 0, 1, 2, 3, 4, 5, 6], [6]), ([7, 0, 1, 2, 3, 4, 5, 6, 7], [])])
def memb_Lay.B10 : List Nat := [0, 0, 3, 0, 8, 31, 63, 127, 255]
theorem memb_Lay.tab10 : rtab .any (opsOf Tryz.f16 10) = memb_Lay.T10 := by kernel_rfl
theorem memb_Lay.bits10 : waitsOk memb_Lay.T10.2 memb_Lay.B10 = true := by kernel_rfl
set_option maxHeartbeats 8000000 in
set_option maxRecDepth 100000 in
theorem memb_Lay.calls (k : Nat) (a0_0 : ByteArray) (a0_1 : Int) (a0_2 : Int) (a0_3 : Int) (a0_4 : Int) (a0_5 : Int) (a0_6 : ByteArray) (A0_7 : Option Addr) (c0_7 : Nat) (l0_7 : List Int) (r1 : List Int) (r2 : Int) (w : World) (HTB : Aside0 (TabOk w)) (hr0_7 : Kd.C (Kd.int .u8) w A0_7 l0_7.length l0_7) (hc0_7 : l0_7.length ≤ c0_7) (h : memb_Lay.f k a0_0 a0_1 a0_2 a0_3 a0_4 a0_5 a0_6 l0_7 = some (r1, r2)) :
  Calls Tryz.prog 16 #[.agg #[.string a0_0, .int .i64 a0_1, .int .i64 a0_2, .int .i64 a0_3, .int .i64 a0_4, .int .i64 a0_5, .string a0_6, .slice A0_7 l0_7.length c0_7]] w fun e w' => ∃ v0_ : Value, e = .returned (.tuple #[v0_, .int .i64 r2]) ∧ Kd.R (Kd.int .u8) 5 w' w.heap.size (fun _ => True) v0_ r1 ∧ Below w.heap.size w w' := by
 have hu38 := Tryz.underlying38
 have HR0_7 := Aside0.mk hr0_7
 have HC0_7 := Aside0.mk hc0_7
 clear hr0_7 hc0_7
 have HB := Aside0.mk (Below.refl w.heap.size w)
 have H : ((memb_May.f a0_0 a0_1 a0_2 a0_3 a0_4 a0_5 a0_6 l0_7).bind fun t196 => (if t196 = 0 then ((memb_Recs.f a0_0 a0_1 a0_2 a0_3 a0_4 a0_5 a0_6 l0_7).bind fun t197 => ((memb_ahead.f k t197).bind fun bt200 => (if bt200.2 = 0 then ((memb_header.f a0_0 a0_1 a0_2 a0_3 a0_4 a0_5 a0_6 l0_7).bind fun bt204 => ((head_Lay.f k bt204.1 bt204.2.1 bt204.2.2.1 bt204.2.2.2.1 bt204.2.2.2.2.1 bt204.2.2.2.2.2.1 bt204.2.2.2.2.2.2.1 bt204.2.2.2.2.2.2.2.1 bt204.2.2.2.2.2.2.2.2).bind fun bt213 => (if bt213.2 = 0 then (if bt200.1.length + bt213.1.length < 140737488355328 then ((some (bt200.1 ++ bt213.1 : List Int)).bind fun y217 => ((blocks_Fill.f l0_7).bind fun t220 => (if y217.length + t220.length < 140737488355328 then (some ((y217 ++ t220), 0)) else (none)))) else (none)) else (some (([] : List Int), bt213.2))))) else (some (([] : List Int), bt200.2))))) else (some (([] : List Int), t196)))) = some (r1, r2) := h
 clear h
 replace H := Option.bind_eq_some_iff.mp H
 obtain ⟨t196, A20, H⟩ := H
 try dsimp only at H
 have A2 := Aside0.mk A20
 clear A20
 by_cases c3 : t196 = 0
 ·rw [if_pos c3] at H
  have c3b0 : (t196 == 0) = true := beq_iff_eq.mpr c3
  have c3b1 : (t196 != 0) = false := bne_eq_false_iff_eq.mpr c3
  clear c3
  replace H := Option.bind_eq_some_iff.mp H
  obtain ⟨t197, A40, H⟩ := H
  try dsimp only at H
  have A4 := Aside0.mk A40
  clear A40
  replace H := Option.bind_eq_some_iff.mp H
  obtain ⟨⟨t200, t201⟩, A50, H⟩ := H
  try dsimp only at H
  have A5 := Aside0.mk A50
  clear A50
  by_cases c6 : t201 = 0
  ·rw [if_pos c6] at H
   have c6b0 : (t201 == 0) = true := beq_iff_eq.mpr c6
   have c6b1 : (t201 != 0) = false := bne_eq_false_iff_eq.mpr c6
   clear c6
   replace H := Option.bind_eq_some_iff.mp H
   obtain ⟨⟨t204, t205, t206, t207, t208, t209, t210, t211, t212⟩, A70, H⟩ := H
   try dsimp only at H
   have A7 := Aside0.mk A70
   clear A70
   replace H := Option.bind_eq_some_iff.mp H
   obtain ⟨⟨t213, t216⟩, A80, H⟩ := H
   try dsimp only at H
   have A8 := Aside0.mk A80
   clear A80
   by_cases c9 : t216 = 0
   ·rw [if_pos c9] at H
    have c9b0 : (t216 == 0) = true := beq_iff_eq.mpr c9
    have c9b1 : (t216 != 0) = false := bne_eq_false_iff_eq.mpr c9
    clear c9
    by_cases c10 : t200.length + t213.length < 140737488355328
    ·rw [if_pos c10] at H
     have LMc10 := Aside0.mk c10
     clear c10
     obtain ⟨y217, hy217⟩ : ∃ y_ : List Int, y_ = (t200 ++ t213) := ⟨_, rfl⟩
     replace H : ((blocks_Fill.f l0_7).bind fun t220 => (if y217.length + t220.length < 140737488355328 then (some ((y217 ++ t220), 0)) else (none))) = some (r1, r2) := by first | (rw [hy217]; with_reducible exact H) | (have H2_ := (Option.bind_some _ _).symm.trans H; rw [hy217]; with_reducible exact H2_) | (have H2_ := (Option.bind_some _ _).symm.trans H; with_reducible exact H2_) | with_reducible exact H | (rw [hy217]; exact H) | exact H
     have Ny217 := Aside0.mk hy217
     clear hy217
     replace H := Option.bind_eq_some_iff.mp H
     obtain ⟨t220, A110, H⟩ := H
     try dsimp only at H
     have A11 := Aside0.mk A110
     clear A110
     by_cases c12 : y217.length + t220.length < 140737488355328
     ·rw [if_pos c12] at H
      have LMc12 := Aside0.mk c12
      clear c12
      obtain ⟨y223, hy223⟩ : ∃ y_ : List Int, y_ = (y217 ++ t220) := ⟨_, rfl⟩
      replace H : (some (y223, 0)) = some (r1, r2) := by first | (rw [hy223]; with_reducible exact H) | (have H2_ := (Option.bind_some _ _).symm.trans H; rw [hy223]; with_reducible exact H2_) | (have H2_ := (Option.bind_some _ _).symm.trans H; with_reducible exact H2_) | with_reducible exact H | (rw [hy223]; exact H) | exact H
      have Ny223 := Aside0.mk hy223
      clear hy223
      simp only [Option.some.injEq, Prod.mk.injEq] at H
      obtain ⟨rfl, rfl⟩ := H
      go_enter Tryz.func16, Tryz.ntmps16
      try go_wp2_with (first | ((with_reducible refine gate_dst (N := 1) rfl ?_); refine boxA_ 1 38 #[.string a0_0, .int .i64 a0_1, .int .i64 a0_2, .int .i64 a0_3, .int .i64 a0_4, .int .i64 a0_5, .string a0_6, .slice A0_7 l0_7.length c0_7] ?_; intro gb195 hg w13 hbox hb; have n0_ := Aside0.mk (bstep_ hb); have n1_ := Aside0.mk (hbox); have n2_ := Aside0.mk ((by rw [hg]; exact bsize_ : w.heap.size ≤ gb195)); have n3_ := Aside0.mk ((by rw [hg]; exact bsize_ : w.heap.size ≤ gb195)); clear HB; have HB := n0_; have BK195 := n1_; have GW195 := n2_; have GE195 := n3_; clear n0_ n1_ n2_ n3_; clear hb hbox hg; obtain ⟨hcz14_0, hcz14_1, hcz14_2, hcz14_3, hcz14_4, hcz14_5, hcz14_6, hcz14_7, hfz14_0, hfz14_1, hfz14_2, hfz14_3, hfz14_4, hfz14_5, hfz14_6, hfz14_7⟩ := blk_all8 BK195.out) | ((with_reducible refine gate_callee (f := 24) rfl ?_); refine goesA_ (some 9) Tryz.func24 #[.agg #[.string a0_0, .int .i64 a0_1, .int .i64 a0_2, .int .i64 a0_3, .int .i64 a0_4, .int .i64 a0_5, .string a0_6, .slice A0_7 l0_7.length c0_7]] ?_; (with_reducible refine (memb_May.calls a0_0 a0_1 a0_2 a0_3 a0_4 a0_5 a0_6 _ _ l0_7 t196 _ ?side1 ?side2 A2.out).mono ?_); (case side1 => repeat (first | exact (Kd.C_below HR0_7.out HB.out) | (with_reducible refine Kd.C_alloc ?_ _) | (with_reducible refine Kd.C_drewN ?_ _) | (with_reducible refine Kd.C_drew ?_))); (case side2 => exact HC0_7.out); rintro e w15 ⟨rfl, hb⟩; refine ⟨_, rfl, ?_⟩; have n0_ := Aside0.mk (blkB_ BK195.out hb); have n1_ := Aside0.mk (bstep_ hb); clear BK195; clear HB; have BK195 := n0_; have HB := n1_; clear n0_ n1_; (try clear hb); (try clear hb2); (try clear hk); (try clear hi); obtain ⟨hcz16_0, hcz16_1, hcz16_2, hcz16_3, hcz16_4, hcz16_5, hcz16_6, hcz16_7, hfz16_0, hfz16_1, hfz16_2, hfz16_3, hfz16_4, hfz16_5, hfz16_6, hfz16_7⟩ := blk_all8 BK195.out) | ((with_reducible refine gate_callee (f := 17) rfl ?_); refine goesA_ (some 15) Tryz.func17 #[.agg #[.string a0_0, .int .i64 a0_1, .int .i64 a0_2, .int .i64 a0_3, .int .i64 a0_4, .int .i64 a0_5, .string a0_6, .slice A0_7 l0_7.length c0_7]] ?_; (with_reducible refine (memb_Recs.calls a0_0 a0_1 a0_2 a0_3 a0_4 a0_5 a0_6 _ _ l0_7 t197 _ ?side1 ?side2 A4.out).mono ?_); (case side1 => repeat (first | exact (Kd.C_below HR0_7.out HB.out) | (with_reducible refine Kd.C_alloc ?_ _) | (with_reducible refine Kd.C_drewN ?_ _) | (with_reducible refine Kd.C_drew ?_))); (case side2 => exact HC0_7.out); rintro e w17 ⟨v198, rfl, ho0, hb⟩; refine ⟨_, rfl, ?_⟩; have n0_ := Aside0.mk (Kd.R_lower ho0 bsize_); have n1_ := Aside0.mk (blkB_ BK195.out hb); have n2_ := Aside0.mk (bstep_ hb); clear BK195; clear HB; have HO199 := n0_; have BK195 := n1_; have HB := n2_; clear n0_ n1_ n2_; (try clear hb); (try clear hb2); (try clear hk); (try clear hi); (try clear ho0); obtain ⟨Ao18, co18, eo18⟩ := Kd.R_slice HO199.out; subst eo18) | ((with_reducible refine gate_callee (f := 29) rfl ?_); refine goesA_ (some 16) Tryz.func29 #[.slice Ao18 t197.length co18] ?_; (with_reducible refine (memb_ahead.calls k _ _ t197 t200 t201 _ ⟨HTB.out.below belA_⟩ ?side1 ?side2 A5.out).mono ?_); (case side1 => repeat (first | exact (Kd.R_reads' HO199.out).2.2 | (with_reducible refine Kd.C_alloc ?_ _) | (with_reducible refine Kd.C_drewN ?_ _) | (with_reducible refine Kd.C_drew ?_))); (case side2 => exact (Kd.R_reads' HO199.out).2.1); rintro e w19 ⟨v202, rfl, ho0, hb⟩; refine ⟨_, rfl, ?_⟩; have n0_ := Aside0.mk (Kd.R_below (by (with_reducible repeat (first | apply Kd.R_alloc | apply Kd.R_drewN | apply Kd.R_drew)); exact HO199.out) hb); have n1_ := Aside0.mk (Kd.R_lower ho0 bsize_); have n2_ := Aside0.mk (blkB_ BK195.out hb); have n3_ := Aside0.mk (bstep_ hb); clear HO199; clear BK195; clear HB; have HO199 := n0_; have HO203 := n1_; have BK195 := n2_; have HB := n3_; clear n0_ n1_ n2_ n3_; (try clear hb); (try clear hb2); (try clear hk); (try clear hi); (try clear ho0); obtain ⟨hcz20_0, hcz20_1, hcz20_2, hcz20_3, hcz20_4, hcz20_5, hcz20_6, hcz20_7, hfz20_0, hfz20_1, hfz20_2, hfz20_3, hfz20_4, hfz20_5, hfz20_6, hfz20_7⟩ := blk_all8 BK195.out) | ((with_reducible refine gate_callee (f := 31) rfl ?_); refine goesA_ (some 24) Tryz.func31 #[.agg #[.string a0_0, .int .i64 a0_1, .int .i64 a0_2, .int .i64 a0_3, .int .i64 a0_4, .int .i64 a0_5, .string a0_6, .slice A0_7 l0_7.length c0_7]] ?_; (with_reducible refine (memb_header.calls a0_0 a0_1 a0_2 a0_3 a0_4 a0_5 a0_6 _ _ l0_7 t204 t205 t206 t207 t208 t209 t210 t211 t212 _ ?side1 ?side2 A7.out).mono ?_); (case side1 => repeat (first | exact (Kd.C_below HR0_7.out HB.out) | (with_reducible refine Kd.C_alloc ?_ _) | (with_reducible refine Kd.C_drewN ?_ _) | (with_reducible refine Kd.C_drew ?_))); (case side2 => exact HC0_7.out); rintro e w21 ⟨rfl, hb⟩; refine ⟨_, rfl, ?_⟩; have n0_ := Aside0.mk (Kd.R_below (by (with_reducible repeat (first | apply Kd.R_alloc | apply Kd.R_drewN | apply Kd.R_drew)); exact HO199.out) hb); have n1_ := Aside0.mk (Kd.R_below (by (with_reducible repeat (first | apply Kd.R_alloc | apply Kd.R_drewN | apply Kd.R_drew)); exact HO203.out) hb); have n2_ := Aside0.mk (blkB_ BK195.out hb); have n3_ := Aside0.mk (bstep_ hb); clear HO199; clear HO203; clear BK195; clear HB; have HO199 := n0_; have HO203 := n1_; have BK195 := n2_; have HB := n3_; clear n0_ n1_ n2_ n3_; (try clear hb); (try clear hb2); (try clear hk); (try clear hi)) | ((with_reducible refine gate_callee (f := 30) rfl ?_); refine goesA_ (some 25) Tryz.func30 #[.agg #[.string t204, .string t205, .int .i64 t206, .int .i64 t207, .int .i64 t208, .int .i64 t209, .int .i64 t210, .int .u8 t211, .string t212]] ?_; (with_reducible refine (head_Lay.calls k t204 t205 t206 t207 t208 t209 t210 t211 t212 t213 t216 _ A8.out).mono ?_); rintro e w22 ⟨v214, rfl, ho0, hb⟩; refine ⟨_, rfl, ?_⟩; have n0_ := Aside0.mk (Kd.R_below (by (with_reducible repeat (first | apply Kd.R_alloc | apply Kd.R_drewN | apply Kd.R_drew)); exact HO199.out) hb); have n1_ := Aside0.mk (Kd.R_elder' (by (with_reducible repeat (first | apply Kd.R_alloc | apply Kd.R_drewN | apply Kd.R_drew)); exact HO203.out) (Kd.R_base ho0) hb); have n2_ := Aside0.mk (Kd.R_lower (Kd.R_new' ho0 (Kd.R_lt (by (with_reducible repeat (first | apply Kd.R_alloc | apply Kd.R_drewN | apply Kd.R_drew)); exact HO203.out))) bsize_); have n3_ := Aside0.mk (blkB_ BK195.out hb); have n4_ := Aside0.mk (bstep_ hb); clear HO199; clear HO203; clear BK195; clear HB; have HO199 := n0_; have HO203 := n1_; have HO215 := n2_; have BK195 := n3_; have HB := n4_; clear n0_ n1_ n2_ n3_ n4_; (try clear hb); (try clear hb2); (try clear hk); (try clear hi); (try clear ho0)))
      have n0_ := Aside0.mk (Kd.R_drew HO199.out)
      have n1_ := Aside0.mk (Kd.R_drew HO203.out)
      have n2_ := Aside0.mk (Kd.R_drew HO215.out)
      have n3_ := Aside0.mk (blk_drew BK195.out)
      have n4_ := Aside0.mk (below_drew1 HB.out)
      clear HO199
      clear HO203
      clear HO215
      clear BK195
      clear HB
      have HO199 := n0_
      have HO203 := n1_
      have HO215 := n2_
      have BK195 := n3_
      have HB := n4_
      clear n0_ n1_ n2_ n3_ n4_
      obtain ⟨Ao25, co25, eo25⟩ := Kd.R_slice HO215.out
      (first | subst eo25 | (injection eo25 with f1_ f2_ f3_; have f4_ := f1_.symm; have f5_ := f3_.symm; clear f1_ f2_ f3_; subst f4_; subst f5_))
      refine start_ (n := 9) (S := fun w' => w'.cell? ⟨gb195, 0, none⟩ = some (.string a0_0) ∧ w'.cell? ⟨gb195, 1, none⟩ = some (.int .i64 a0_1) ∧ w'.cell? ⟨gb195, 2, none⟩ = some (.int .i64 a0_2) ∧ w'.cell? ⟨gb195, 3, none⟩ = some (.int .i64 a0_3) ∧ w'.cell? ⟨gb195, 4, none⟩ = some (.int .i64 a0_4) ∧ w'.cell? ⟨gb195, 5, none⟩ = some (.int .i64 a0_5) ∧ w'.cell? ⟨gb195, 6, none⟩ = some (.string a0_6) ∧ w'.cell? ⟨gb195, 7, none⟩ = some (.slice A0_7 l0_7.length c0_7)) (ds := []) #[false, false, false, false, false, false, false, false, false] (by kernel_rfl) rfl rfl (blk_c8 BK195.out) (fun hHeld => ?_); refine with_tabW memb_Lay.tab10 memb_Lay.bits10 (fun HT_ HW_ => ?_)
      generalize w22.drew = w23 at HO199 HO203 HO215 BK195 HB hHeld ⊢
      refine pureS_ 0 31 ?_
      refine pureS_ 1 32 ?_
      refine pureS_ 3 34 ?_
      refine takeS_ 4 35 ?_
      refine one_ (i := 2) (N := some 33) #[true, true, true, true, true, false, false, false, false] rfl rfl (one_of HT_.out (by kernel_rfl)) (by decide) (fun K hK => ?_)
      refine Kd.R_append_rows_step (Kd.int .u8) (w0 := w) w.heap.size (by rfl) (.tmp 31) (.tmp 32) 31 5 (.int .u8 0) 1 rfl Tryz.underlying31 info5 rfl (by decide) (by omega) v202 t200 t213 _ _ _ (fun k_ => some k_ ≠ (.slice Ao25 t213.length co25 : Value).ownBlock) (fun _ => False) rfl rfl ?aO ?aR (fun _ _ h => h) (fun _ h => h.elim) ?aF ?aB ?aS ?aL ?_
      (case aR => repeat (first | exact (Kd.R_reads' HO215.out).2.2 | (with_reducible refine Kd.C_alloc ?_ _) | (with_reducible refine Kd.C_drewN ?_ _) | (with_reducible refine Kd.C_drew ?_)))
      (case aB => exact belA_)
      (case aF => exact (fun k_ hk => Kd.fresh' (Kd.R_lt (by (with_reducible repeat (first | apply Kd.R_alloc | apply Kd.R_drewN | apply Kd.R_drew)); exact HO215.out)) k_ hk))
      (case aO => exact (by (with_reducible repeat (first | apply Kd.R_alloc | apply Kd.R_drewN | apply Kd.R_drew)); exact Kd.R_mono HO203.out (fun _ hk => hk.2)))
      (case aS => exact bsize_)
      (case aL => have := LMc10.out; omega)
      intro v218 w24 ho hb hg hat
      rw [← Ny217.out] at ho
      have n0_ := Aside0.mk (blk_grown (g := gb195) (o := .cells #[.string a0_0, .int .i64 a0_1, .int .i64 a0_2, .int .i64 a0_3, .int .i64 a0_4, .int .i64 a0_5, .string a0_6, .slice A0_7 l0_7.length c0_7] 38 (0, 0)) (by (with_reducible repeat (first | refine blk_drewN ?_ _ | refine blk_drew ?_ | refine blk_alloc ?_ _)); exact BK195.out) hg (Kd.R_ne HO203.out BK195.out (by decide)))
      have n1_ := Aside0.mk (Kd.R_over' (by (with_reducible repeat (first | apply Kd.R_alloc | apply Kd.R_drewN | apply Kd.R_drew)); exact HO199.out) (Kd.R_typed (by (with_reducible repeat (first | apply Kd.R_alloc | apply Kd.R_drewN | apply Kd.R_drew)); exact HO203.out)) (by decide) hg)
      have n2_ := Aside0.mk (Kd.R_after (ok := (fun _ => True)) (by (with_reducible repeat (first | apply Kd.R_alloc | apply Kd.R_drewN | apply Kd.R_drew)); exact HO215.out) hg hat)
      have n3_ := Aside0.mk (hb)
      have n4_ := Aside0.mk (ho)
      clear BK195
      clear HO199
      clear HO215
      clear HB
      clear HO203
      have BK195 := n0_
      have HO199 := n1_
      have HO215 := n2_
      have HB := n3_
      have HO219 := n4_
      clear n0_ n1_ n2_ n3_ n4_
      clear ho hb hg hat
      refine hK.out _ _ (blk_c8 BK195.out) (fun hHeld => ?_)
      clear hK K
      refine normS_ 33 ?_
      refine one_ (i := 5) (N := some 36) #[true, true, true, true, true, true, false, false, false] rfl rfl (one_of HT_.out (by kernel_rfl)) (by decide) (fun K hK => ?_)
      refine goes_ Tryz.func32 (by kernel_rfl) rfl #[.slice A0_7 l0_7.length c0_7] (by rfl) rfl rfl (by (try simp only [List.map_toArray, List.map_cons, List.map_nil]); first | done | rfl | (simp only [List.length_drop, List.length_take]; rfl)) ?_
      with_reducible refine (blocks_Fill.calls _ _ l0_7 t220 _ ?side1 ?side2 A11.out).mono ?_
      (case side1 => repeat (first | exact (Kd.C_below HR0_7.out HB.out) | (with_reducible refine Kd.C_alloc ?_ _) | (with_reducible refine Kd.C_drewN ?_ _) | (with_reducible refine Kd.C_drew ?_)))
      (case side2 => exact HC0_7.out)
      rintro e w26 ⟨v221, rfl, ho0, hb⟩
      refine ⟨_, rfl, ?_⟩
      have n0_ := Aside0.mk (Kd.R_below (by (with_reducible repeat (first | apply Kd.R_alloc | apply Kd.R_drewN | apply Kd.R_drew)); exact HO199.out) hb)
      have n1_ := Aside0.mk (Kd.R_elder' (by (with_reducible repeat (first | apply Kd.R_alloc | apply Kd.R_drewN | apply Kd.R_drew)); exact HO215.out) (Kd.R_base ho0) hb)
      have n2_ := Aside0.mk (Kd.R_elder' (by (with_reducible repeat (first | apply Kd.R_alloc | apply Kd.R_drewN | apply Kd.R_drew)); exact HO219.out) (Kd.R_base ho0) hb)
      have n3_ := Aside0.mk (Kd.R_lower (Kd.R_new' (Kd.R_new' ho0 (Kd.R_lt (by (with_reducible repeat (first | apply Kd.R_alloc | apply Kd.R_drewN | apply Kd.R_drew)); exact HO215.out))) (Kd.R_lt (by (with_reducible repeat (first | apply Kd.R_alloc | apply Kd.R_drewN | apply Kd.R_drew)); exact HO219.out))) bsize_)
      have n4_ := Aside0.mk (blkB_ BK195.out hb)
      have n5_ := Aside0.mk (bstep_ hb)
      clear HO199
      clear HO215
      clear HO219
      clear BK195
      clear HB
      have HO199 := n0_
      have HO215 := n1_
      have HO219 := n2_
      have HO222 := n3_
      have BK195 := n4_
      have HB := n5_
      clear n0_ n1_ n2_ n3_ n4_ n5_
      (try clear hb)
      (try clear hb2)
      (try clear hk)
      (try clear hi)
      (try clear ho0)
      obtain ⟨Ao28, co28, eo28⟩ := Kd.R_slice HO222.out
      (first | subst eo28 | (injection eo28 with f1_ f2_ f3_; have f4_ := f1_.symm; have f5_ := f3_.symm; clear f1_ f2_ f3_; subst f4_; subst f5_))
      refine hK.out _ _ (blk_c8 BK195.out) (fun hHeld => ?_)
      clear hK K
      refine normS_ 36 ?_
      refine one_ (i := 6) (N := some 37) #[true, true, true, true, true, true, true, false, false] rfl rfl (one_of HT_.out (by kernel_rfl)) (by decide) (fun K hK => ?_)
      refine Kd.R_append_rows_step (Kd.int .u8) (w0 := w) w.heap.size (by rfl) (.tmp 33) (.tmp 36) 31 5 (.int .u8 0) 1 rfl Tryz.underlying31 info5 rfl (by decide) (by omega) v218 y217 t220 _ _ _ (fun k_ => some k_ ≠ (.slice Ao25 t213.length co25 : Value).ownBlock ∧ some k_ ≠ (.slice Ao28 t220.length co28 : Value).ownBlock) (fun _ => False) rfl rfl ?aO ?aR (fun _ _ h => h) (fun _ h => h.elim) ?aF ?aB ?aS ?aL ?_
      (case aR => repeat (first | exact (Kd.R_reads' HO222.out).2.2 | (with_reducible refine Kd.C_alloc ?_ _) | (with_reducible refine Kd.C_drewN ?_ _) | (with_reducible refine Kd.C_drew ?_)))
      (case aB => exact belA_)
      (case aF => exact (fun k_ hk => ⟨Kd.fresh' (Kd.R_lt (by (with_reducible repeat (first | apply Kd.R_alloc | apply Kd.R_drewN | apply Kd.R_drew)); exact HO215.out)) k_ hk, Kd.fresh' (Kd.R_lt (by (with_reducible repeat (first | apply Kd.R_alloc | apply Kd.R_drewN | apply Kd.R_drew)); exact HO222.out)) k_ hk⟩))
      (case aO => exact (by (with_reducible repeat (first | apply Kd.R_alloc | apply Kd.R_drewN | apply Kd.R_drew)); exact HO219.out))
      (case aS => exact bsize_)
      (case aL => have := LMc12.out; omega)
      intro v224 w27 ho hb hg hat
      rw [← Ny223.out] at ho
      have n0_ := Aside0.mk (blk_grown (g := gb195) (o := .cells #[.string a0_0, .int .i64 a0_1, .int .i64 a0_2, .int .i64 a0_3, .int .i64 a0_4, .int .i64 a0_5, .string a0_6, .slice A0_7 l0_7.length c0_7] 38 (0, 0)) (by (with_reducible repeat (first | refine blk_drewN ?_ _ | refine blk_drew ?_ | refine blk_alloc ?_ _)); exact BK195.out) hg (Kd.R_ne HO219.out BK195.out (by decide)))
      have n1_ := Aside0.mk (Kd.R_over' (by (with_reducible repeat (first | apply Kd.R_alloc | apply Kd.R_drewN | apply Kd.R_drew)); exact HO199.out) (Kd.R_typed (by (with_reducible repeat (first | apply Kd.R_alloc | apply Kd.R_drewN | apply Kd.R_drew)); exact HO219.out)) (by decide) hg)
      have n2_ := Aside0.mk (Kd.R_after (ok := (fun k_ => some k_ ≠ (.slice Ao28 t220.length co28 : Value).ownBlock)) (by (with_reducible repeat (first | apply Kd.R_alloc | apply Kd.R_drewN | apply Kd.R_drew)); exact Kd.R_mono HO215.out (fun _ hk => ⟨hk.2, hk.1.2⟩)) hg hat)
      have n3_ := Aside0.mk (Kd.R_after (ok := (fun k_ => some k_ ≠ (.slice Ao25 t213.length co25 : Value).ownBlock)) (by (with_reducible repeat (first | apply Kd.R_alloc | apply Kd.R_drewN | apply Kd.R_drew)); exact Kd.R_mono HO222.out (fun _ hk => ⟨hk.1.2, hk.2⟩)) hg hat)
      have n4_ := Aside0.mk (hb)
      have n5_ := Aside0.mk (ho)
      clear BK195
      clear HO199
      clear HO215
      clear HO222
      clear HB
      clear HO219
      have BK195 := n0_
      have HO199 := n1_
      have HO215 := n2_
      have HO222 := n3_
      have HB := n4_
      have HO225 := n5_
      clear n0_ n1_ n2_ n3_ n4_ n5_
      clear ho hb hg hat
      refine hK.out _ _ (blk_c8 BK195.out) (fun hHeld => ?_)
      clear hK K
      refine normS_ 37 ?_
      refine pureS_ 7 2 ?_
      refine pureS_ 8 3 ?_
      refine done_ (done_of HT_.out (by kernel_rfl)) ?_
      try go_wp2
      go_ret2
      exact ⟨_, by first | rfl | (simp [errW_none, errW_some] <;> rfl) | (simp [*, errW_none, errW_some] <;> rfl), by (with_reducible repeat (first | apply Kd.R_alloc | apply Kd.R_drewN | apply Kd.R_drew)); exact Kd.R_mono HO225.out (fun _ hk => trivial), by repeat (first | (with_reducible first | exact HB.out | apply below_alloc | apply pw_below_drewN | apply below_drew1 | refine below_set ?_ GE195.out) | exact HB.out)⟩
     ·rw [if_neg c12] at H
      exact absurd H (by simp)
    ·rw [if_neg c10] at H
     exact absurd H (by simp)
   ·rw [if_neg c9] at H
    have c9b0 : (t216 == 0) = false := beq_eq_false_iff_ne.mpr c9
    have c9b1 : (t216 != 0) = true := bne_iff_ne.mpr c9
    simp only [Option.some.injEq, Prod.mk.injEq] at H
    obtain ⟨rfl, rfl⟩ := H
    go_enter Tryz.func16, Tryz.ntmps16
    go_wp2_with (first | ((with_reducible refine gate_dst (N := 1) rfl ?_); refine boxA_ 1 38 #[.string a0_0, .int .i64 a0_1, .int .i64 a0_2, .int .i64 a0_3, .int .i64 a0_4, .int .i64 a0_5, .string a0_6, .slice A0_7 l0_7.length c0_7] ?_; intro gb195 hg w29 hbox hb; have n0_ := Aside0.mk (bstep_ hb); have n1_ := Aside0.mk (hbox); have n2_ := Aside0.mk ((by rw [hg]; exact bsize_ : w.heap.size ≤ gb195)); have n3_ := Aside0.mk ((by rw [hg]; exact bsize_ : w.heap.size ≤ gb195)); clear HB; have HB := n0_; have BK195 := n1_; have GW195 := n2_; have GE195 := n3_; clear n0_ n1_ n2_ n3_; clear hb hbox hg; obtain ⟨hcz30_0, hcz30_1, hcz30_2, hcz30_3, hcz30_4, hcz30_5, hcz30_6, hcz30_7, hfz30_0, hfz30_1, hfz30_2, hfz30_3, hfz30_4, hfz30_5, hfz30_6, hfz30_7⟩ := blk_all8 BK195.out) | ((with_reducible refine gate_callee (f := 24) rfl ?_); refine goesA_ (some 9) Tryz.func24 #[.agg #[.string a0_0, .int .i64 a0_1, .int .i64 a0_2, .int .i64 a0_3, .int .i64 a0_4, .int .i64 a0_5, .string a0_6, .slice A0_7 l0_7.length c0_7]] ?_; (with_reducible refine (memb_May.calls a0_0 a0_1 a0_2 a0_3 a0_4 a0_5 a0_6 _ _ l0_7 t196 _ ?side1 ?side2 A2.out).mono ?_); (case side1 => repeat (first | exact (Kd.C_below HR0_7.out HB.out) | (with_reducible refine Kd.C_alloc ?_ _) | (with_reducible refine Kd.C_drewN ?_ _) | (with_reducible refine Kd.C_drew ?_))); (case side2 => exact HC0_7.out); rintro e w31 ⟨rfl, hb⟩; refine ⟨_, rfl, ?_⟩; have n0_ := Aside0.mk (blkB_ BK195.out hb); have n1_ := Aside0.mk (bstep_ hb); clear BK195; clear HB; have BK195 := n0_; have HB := n1_; clear n0_ n1_; (try clear hb); (try clear hb2); (try clear hk); (try clear hi); obtain ⟨hcz32_0, hcz32_1, hcz32_2, hcz32_3, hcz32_4, hcz32_5, hcz32_6, hcz32_7, hfz32_0, hfz32_1, hfz32_2, hfz32_3, hfz32_4, hfz32_5, hfz32_6, hfz32_7⟩ := blk_all8 BK195.out) | ((with_reducible refine gate_callee (f := 17) rfl ?_); refine goesA_ (some 15) Tryz.func17 #[.agg #[.string a0_0, .int .i64 a0_1, .int .i64 a0_2, .int .i64 a0_3, .int .i64 a0_4, .int .i64 a0_5, .string a0_6, .slice A0_7 l0_7.length c0_7]] ?_; (with_reducible refine (memb_Recs.calls a0_0 a0_1 a0_2 a0_3 a0_4 a0_5 a0_6 _ _ l0_7 t197 _ ?side1 ?side2 A4.out).mono ?_); (case side1 => repeat (first | exact (Kd.C_below HR0_7.out HB.out) | (with_reducible refine Kd.C_alloc ?_ _) | (with_reducible refine Kd.C_drewN ?_ _) | (with_reducible refine Kd.C_drew ?_))); (case side2 => exact HC0_7.out); rintro e w33 ⟨v198, rfl, ho0, hb⟩; refine ⟨_, rfl, ?_⟩; have n0_ := Aside0.mk (Kd.R_lower ho0 bsize_); have n1_ := Aside0.mk (blkB_ BK195.out hb); have n2_ := Aside0.mk (bstep_ hb); clear BK195; clear HB; have HO199 := n0_; have BK195 := n1_; have HB := n2_; clear n0_ n1_ n2_; (try clear hb); (try clear hb2); (try clear hk); (try clear hi); (try clear ho0); obtain ⟨Ao34, co34, eo34⟩ := Kd.R_slice HO199.out; subst eo34) | ((with_reducible refine gate_callee (f := 29) rfl ?_); refine goesA_ (some 16) Tryz.func29 #[.slice Ao34 t197.length co34] ?_; (with_reducible refine (memb_ahead.calls k _ _ t197 t200 t201 _ ⟨HTB.out.below belA_⟩ ?side1 ?side2 A5.out).mono ?_); (case side1 => repeat (first | exact (Kd.R_reads' HO199.out).2.2 | (with_reducible refine Kd.C_alloc ?_ _) | (with_reducible refine Kd.C_drewN ?_ _) | (with_reducible refine Kd.C_drew ?_))); (case side2 => exact (Kd.R_reads' HO199.out).2.1); rintro e w35 ⟨v202, rfl, ho0, hb⟩; refine ⟨_, rfl, ?_⟩; have n0_ := Aside0.mk (Kd.R_below (by (with_reducible repeat (first | apply Kd.R_alloc | apply Kd.R_drewN | apply Kd.R_drew)); exact HO199.out) hb); have n1_ := Aside0.mk (Kd.R_lower ho0 bsize_); have n2_ := Aside0.mk (blkB_ BK195.out hb); have n3_ := Aside0.mk (bstep_ hb); clear HO199; clear BK195; clear HB; have HO199 := n0_; have HO203 := n1_; have BK195 := n2_; have HB := n3_; clear n0_ n1_ n2_ n3_; (try clear hb); (try clear hb2); (try clear hk); (try clear hi); (try clear ho0); obtain ⟨hcz36_0, hcz36_1, hcz36_2, hcz36_3, hcz36_4, hcz36_5, hcz36_6, hcz36_7, hfz36_0, hfz36_1, hfz36_2, hfz36_3, hfz36_4, hfz36_5, hfz36_6, hfz36_7⟩ := blk_all8 BK195.out) | ((with_reducible refine gate_callee (f := 31) rfl ?_); refine goesA_ (some 24) Tryz.func31 #[.agg #[.string a0_0, .int .i64 a0_1, .int .i64 a0_2, .int .i64 a0_3, .int .i64 a0_4, .int .i64 a0_5, .string a0_6, .slice A0_7 l0_7.length c0_7]] ?_; (with_reducible refine (memb_header.calls a0_0 a0_1 a0_2 a0_3 a0_4 a0_5 a0_6 _ _ l0_7 t204 t205 t206 t207 t208 t209 t210 t211 t212 _ ?side1 ?side2 A7.out).mono ?_); (case side1 => repeat (first | exact (Kd.C_below HR0_7.out HB.out) | (with_reducible refine Kd.C_alloc ?_ _) | (with_reducible refine Kd.C_drewN ?_ _) | (with_reducible refine Kd.C_drew ?_))); (case side2 => exact HC0_7.out); rintro e w37 ⟨rfl, hb⟩; refine ⟨_, rfl, ?_⟩; have n0_ := Aside0.mk (Kd.R_below (by (with_reducible repeat (first | apply Kd.R_alloc | apply Kd.R_drewN | apply Kd.R_drew)); exact HO199.out) hb); have n1_ := Aside0.mk (Kd.R_below (by (with_reducible repeat (first | apply Kd.R_alloc | apply Kd.R_drewN | apply Kd.R_drew)); exact HO203.out) hb); have n2_ := Aside0.mk (blkB_ BK195.out hb); have n3_ := Aside0.mk (bstep_ hb); clear HO199; clear HO203; clear BK195; clear HB; have HO199 := n0_; have HO203 := n1_; have BK195 := n2_; have HB := n3_; clear n0_ n1_ n2_ n3_; (try clear hb); (try clear hb2); (try clear hk); (try clear hi)) | ((with_reducible refine gate_callee (f := 30) rfl ?_); refine goesA_ (some 25) Tryz.func30 #[.agg #[.string t204, .string t205, .int .i64 t206, .int .i64 t207, .int .i64 t208, .int .i64 t209, .int .i64 t210, .int .u8 t211, .string t212]] ?_; (with_reducible refine (head_Lay.calls k t204 t205 t206 t207 t208 t209 t210 t211 t212 t213 t216 _ A8.out).mono ?_); rintro e w38 ⟨v214, rfl, ho0, hb⟩; refine ⟨_, rfl, ?_⟩; have n0_ := Aside0.mk (Kd.R_below (by (with_reducible repeat (first | apply Kd.R_alloc | apply Kd.R_drewN | apply Kd.R_drew)); exact HO199.out) hb); have n1_ := Aside0.mk (Kd.R_elder' (by (with_reducible repeat (first | apply Kd.R_alloc | apply Kd.R_drewN | apply Kd.R_drew)); exact HO203.out) (Kd.R_base ho0) hb); have n2_ := Aside0.mk (Kd.R_lower (Kd.R_new' ho0 (Kd.R_lt (by (with_reducible repeat (first | apply Kd.R_alloc | apply Kd.R_drewN | apply Kd.R_drew)); exact HO203.out))) bsize_); have n3_ := Aside0.mk (blkB_ BK195.out hb); have n4_ := Aside0.mk (bstep_ hb); clear HO199; clear HO203; clear BK195; clear HB; have HO199 := n0_; have HO203 := n1_; have HO215 := n2_; have BK195 := n3_; have HB := n4_; clear n0_ n1_ n2_ n3_ n4_; (try clear hb); (try clear hb2); (try clear hk); (try clear hi); (try clear ho0)))
    go_ret2
    exact ⟨_, by first | rfl | (simp [errW_none, errW_some] <;> rfl) | (simp [*, errW_none, errW_some] <;> rfl), by first | exact Kd.R_nil _ _ _ _ _ | exact Kd.N_nil _ _ _ _ _ | exact Kd.V_nil _ _ _ _ _ | exact Kd.Q_nil _ _ _ _ _ | exact Kd.S_nil _ _ _ _ _, by repeat (first | (with_reducible first | exact HB.out | apply below_alloc | apply pw_below_drewN | apply below_drew1 | refine below_set ?_ GE195.out) | exact HB.out)⟩
  ·rw [if_neg c6] at H
   have c6b0 : (t201 == 0) = false := beq_eq_false_iff_ne.mpr c6
   have c6b1 : (t201 != 0) = true := bne_iff_ne.mpr c6
   simp only [Option.some.injEq, Prod.mk.injEq] at H
   obtain ⟨rfl, rfl⟩ := H
   go_enter Tryz.func16, Tryz.ntmps16
   go_wp2_with (first | ((with_reducible refine gate_dst (N := 1) rfl ?_); refine boxA_ 1 38 #[.string a0_0, .int .i64 a0_1, .int .i64 a0_2, .int .i64 a0_3, .int .i64 a0_4, .int .i64 a0_5, .string a0_6, .slice A0_7 l0_7.length c0_7] ?_; intro gb195 hg w39 hbox hb; have n0_ := Aside0.mk (bstep_ hb); have n1_ := Aside0.mk (hbox); have n2_ := Aside0.mk ((by rw [hg]; exact bsize_ : w.heap.size ≤ gb195)); have n3_ := Aside0.mk ((by rw [hg]; exact bsize_ : w.heap.size ≤ gb195)); clear HB; have HB := n0_; have BK195 := n1_; have GW195 := n2_; have GE195 := n3_; clear n0_ n1_ n2_ n3_; clear hb hbox hg; obtain ⟨hcz40_0, hcz40_1, hcz40_2, hcz40_3, hcz40_4, hcz40_5, hcz40_6, hcz40_7, hfz40_0, hfz40_1, hfz40_2, hfz40_3, hfz40_4, hfz40_5, hfz40_6, hfz40_7⟩ := blk_all8 BK195.out) | ((with_reducible refine gate_callee (f := 24) rfl ?_); refine goesA_ (some 9) Tryz.func24 #[.agg #[.string a0_0, .int .i64 a0_1, .int .i64 a0_2, .int .i64 a0_3, .int .i64 a0_4, .int .i64 a0_5, .string a0_6, .slice A0_7 l0_7.length c0_7]] ?_; (with_reducible refine (memb_May.calls a0_0 a0_1 a0_2 a0_3 a0_4 a0_5 a0_6 _ _ l0_7 t196 _ ?side1 ?side2 A2.out).mono ?_); (case side1 => repeat (first | exact (Kd.C_below HR0_7.out HB.out) | (with_reducible refine Kd.C_alloc ?_ _) | (with_reducible refine Kd.C_drewN ?_ _) | (with_reducible refine Kd.C_drew ?_))); (case side2 => exact HC0_7.out); rintro e w41 ⟨rfl, hb⟩; refine ⟨_, rfl, ?_⟩; have n0_ := Aside0.mk (blkB_ BK195.out hb); have n1_ := Aside0.mk (bstep_ hb); clear BK195; clear HB; have BK195 := n0_; have HB := n1_; clear n0_ n1_; (try clear hb); (try clear hb2); (try clear hk); (try clear hi); obtain ⟨hcz42_0, hcz42_1, hcz42_2, hcz42_3, hcz42_4, hcz42_5, hcz42_6, hcz42_7, hfz42_0, hfz42_1, hfz42_2, hfz42_3, hfz42_4, hfz42_5, hfz42_6, hfz42_7⟩ := blk_all8 BK195.out) | ((with_reducible refine gate_callee (f := 17) rfl ?_); refine goesA_ (some 15) Tryz.func17 #[.agg #[.string a0_0, .int .i64 a0_1, .int .i64 a0_2, .int .i64 a0_3, .int .i64 a0_4, .int .i64 a0_5, .string a0_6, .slice A0_7 l0_7.length c0_7]] ?_; (with_reducible refine (memb_Recs.calls a0_0 a0_1 a0_2 a0_3 a0_4 a0_5 a0_6 _ _ l0_7 t197 _ ?side1 ?side2 A4.out).mono ?_); (case side1 => repeat (first | exact (Kd.C_below HR0_7.out HB.out) | (with_reducible refine Kd.C_alloc ?_ _) | (with_reducible refine Kd.C_drewN ?_ _) | (with_reducible refine Kd.C_drew ?_))); (case side2 => exact HC0_7.out); rintro e w43 ⟨v198, rfl, ho0, hb⟩; refine ⟨_, rfl, ?_⟩; have n0_ := Aside0.mk (Kd.R_lower ho0 bsize_); have n1_ := Aside0.mk (blkB_ BK195.out hb); have n2_ := Aside0.mk (bstep_ hb); clear BK195; clear HB; have HO199 := n0_; have BK195 := n1_; have HB := n2_; clear n0_ n1_ n2_; (try clear hb); (try clear hb2); (try clear hk); (try clear hi); (try clear ho0); obtain ⟨Ao44, co44, eo44⟩ := Kd.R_slice HO199.out; subst eo44) | ((with_reducible refine gate_callee (f := 29) rfl ?_); refine goesA_ (some 16) Tryz.func29 #[.slice Ao44 t197.length co44] ?_; (with_reducible refine (memb_ahead.calls k _ _ t197 t200 t201 _ ⟨HTB.out.below belA_⟩ ?side1 ?side2 A5.out).mono ?_); (case side1 => repeat (first | exact (Kd.R_reads' HO199.out).2.2 | (with_reducible refine Kd.C_alloc ?_ _) | (with_reducible refine Kd.C_drewN ?_ _) | (with_reducible refine Kd.C_drew ?_))); (case side2 => exact (Kd.R_reads' HO199.out).2.1); rintro e w45 ⟨v202, rfl, ho0, hb⟩; refine ⟨_, rfl, ?_⟩; have n0_ := Aside0.mk (Kd.R_below (by (with_reducible repeat (first | apply Kd.R_alloc | apply Kd.R_drewN | apply Kd.R_drew)); exact HO199.out) hb); have n1_ := Aside0.mk (Kd.R_lower ho0 bsize_); have n2_ := Aside0.mk (blkB_ BK195.out hb); have n3_ := Aside0.mk (bstep_ hb); clear HO199; clear BK195; clear HB; have HO199 := n0_; have HO203 := n1_; have BK195 := n2_; have HB := n3_; clear n0_ n1_ n2_ n3_; (try clear hb); (try clear hb2); (try clear hk); (try clear hi); (try clear ho0)))
   go_ret2
   exact ⟨_, by first | rfl | (simp [errW_none, errW_some] <;> rfl) | (simp [*, errW_none, errW_some] <;> rfl), by first | exact Kd.R_nil _ _ _ _ _ | exact Kd.N_nil _ _ _ _ _ | exact Kd.V_nil _ _ _ _ _ | exact Kd.Q_nil _ _ _ _ _ | exact Kd.S_nil _ _ _ _ _, by repeat (first | (with_reducible first | exact HB.out | apply below_alloc | apply pw_below_drewN | apply below_drew1 | refine below_set ?_ GE195.out) | exact HB.out)⟩
 ·rw [if_neg c3] at H
  have c3b0 : (t196 == 0) = false := beq_eq_false_iff_ne.mpr c3
  have c3b1 : (t196 != 0) = true := bne_iff_ne.mpr c3
  simp only [Option.some.injEq, Prod.mk.injEq] at H
  obtain ⟨rfl, rfl⟩ := H
  go_enter Tryz.func16, Tryz.ntmps16
  go_wp2_with (first | ((with_reducible refine gate_dst (N := 1) rfl ?_); refine boxA_ 1 38 #[.string a0_0, .int .i64 a0_1, .int .i64 a0_2, .int .i64 a0_3, .int .i64 a0_4, .int .i64 a0_5, .string a0_6, .slice A0_7 l0_7.length c0_7] ?_; intro gb195 hg w46 hbox hb; have n0_ := Aside0.mk (bstep_ hb); have n1_ := Aside0.mk (hbox); have n2_ := Aside0.mk ((by rw [hg]; exact bsize_ : w.heap.size ≤ gb195)); have n3_ := Aside0.mk ((by rw [hg]; exact bsize_ : w.heap.size ≤ gb195)); clear HB; have HB := n0_; have BK195 := n1_; have GW195 := n2_; have GE195 := n3_; clear n0_ n1_ n2_ n3_; clear hb hbox hg; obtain ⟨hcz47_0, hcz47_1, hcz47_2, hcz47_3, hcz47_4, hcz47_5, hcz47_6, hcz47_7, hfz47_0, hfz47_1, hfz47_2, hfz47_3, hfz47_4, hfz47_5, hfz47_6, hfz47_7⟩ := blk_all8 BK195.out) | ((with_reducible refine gate_callee (f := 24) rfl ?_); refine goesA_ (some 9) Tryz.func24 #[.agg #[.string a0_0, .int .i64 a0_1, .int .i64 a0_2, .int .i64 a0_3, .int .i64 a0_4, .int .i64 a0_5, .string a0_6, .slice A0_7 l0_7.length c0_7]] ?_; (with_reducible refine (memb_May.calls a0_0 a0_1 a0_2 a0_3 a0_4 a0_5 a0_6 _ _ l0_7 t196 _ ?side1 ?side2 A2.out).mono ?_); (case side1 => repeat (first | exact (Kd.C_below HR0_7.out HB.out) | (with_reducible refine Kd.C_alloc ?_ _) | (with_reducible refine Kd.C_drewN ?_ _) | (with_reducible refine Kd.C_drew ?_))); (case side2 => exact HC0_7.out); rintro e w48 ⟨rfl, hb⟩; refine ⟨_, rfl, ?_⟩; have n0_ := Aside0.mk (blkB_ BK195.out hb); have n1_ := Aside0.mk (bstep_ hb); clear BK195; clear HB; have BK195 := n0_; have HB := n1_; clear n0_ n1_; (try clear hb); (try clear hb2); (try clear hk); (try clear hi)))
  go_ret2
  exact ⟨_, by first | rfl | (simp [errW_none, errW_some] <;> rfl) | (simp [*, errW_none, errW_some] <;> rfl), by first | exact Kd.R_nil _ _ _ _ _ | exact Kd.N_nil _ _ _ _ _ | exact Kd.V_nil _ _ _ _ _ | exact Kd.Q_nil _ _ _ _ _ | exact Kd.S_nil _ _ _ _ _, by repeat (first | (with_reducible first | exact HB.out | apply below_alloc | apply pw_below_drewN | apply below_drew1 | refine below_set ?_ GE195.out) | exact HB.out)⟩


/-! ### memb_Len: function 20 -/
def memb_Len.f (k : Nat) (a0_0 : ByteArray) (a0_1 : Int) (a0_2 : Int) (a0_3 : Int) (a0_4 : Int) (a0_5 : Int) (a0_6 : ByteArray) (l0_7 : List Int) : Option (Int) := (memb_Lay.f k a0_0 a0_1 a0_2 a0_3 a0_4 a0_5 a0_6 l0_7).bind fun bt227 => (some (bt227.1.length : Int))
theorem memb_Len.mono : ∀ a0 a1 a2 a3 a4 a5 a6 a7 k, LeO (memb_Len.f k a0 a1 a2 a3 a4 a5 a6 a7) (memb_Len.f (k + 1) a0 a1 a2 a3 a4 a5 a6 a7) := by
 intro a0 a1 a2 a3 a4 a5 a6 a7 k
 unfold memb_Len.f
 repeat' first
   | (with_reducible exact memb_Lay.mono _ _ _ _ _ _ _ _ _)
   | (with_reducible exact LeO.refl _)
   | (with_reducible exact LeO.none _)
   | (with_reducible refine LeO.ite ?_ ?_)
   | (with_reducible refine LeO.bind ?_ (fun _ => ?_))
   | exact memb_Lay.mono _ _ _ _ _ _ _ _ _
   | exact LeO.none _
   | refine LeO.ite ?_ ?_
   | refine LeO.bind ?_ (fun _ => ?_)
set_option maxHeartbeats 8000000 in
set_option maxRecDepth 100000 in
theorem memb_Len.calls (k : Nat) (a0_0 : ByteArray) (a0_1 : Int) (a0_2 : Int) (a0_3 : Int) (a0_4 : Int) (a0_5 : Int) (a0_6 : ByteArray) (A0_7 : Option Addr) (c0_7 : Nat) (l0_7 : List Int) (r : Int) (w : World) (HTB : Aside0 (TabOk w)) (hr0_7 : Kd.C (Kd.int .u8) w A0_7 l0_7.length l0_7) (hc0_7 : l0_7.length ≤ c0_7) (h : memb_Len.f k a0_0 a0_1 a0_2 a0_3 a0_4 a0_5 a0_6 l0_7 = some r) :
  Calls Tryz.prog 20 #[.agg #[.string a0_0, .int .i64 a0_1, .int .i64 a0_2, .int .i64 a0_3, .int .i64 a0_4, .int .i64 a0_5, .string a0_6, .slice A0_7 l0_7.length c0_7]] w fun e w' => e = .returned (.int .i64 r) ∧ Below w.heap.size w w' := by
 have hu38 := Tryz.underlying38
 have HR0_7 := Aside0.mk hr0_7
 have HC0_7 := Aside0.mk hc0_7
 clear hr0_7 hc0_7
 have HB := Aside0.mk (Below.refl w.heap.size w)
 have H : ((memb_Lay.f k a0_0 a0_1 a0_2 a0_3 a0_4 a0_5 a0_6 l0_7).bind fun bt227 => (some (bt227.1.length : Int))) = some r := h
 clear h
 replace H := Option.bind_eq_some_iff.mp H
 obtain ⟨⟨t227, t230⟩, A20, H⟩ := H
 try dsimp only at H
 have A2 := Aside0.mk A20
 clear A20
 obtain rfl := Option.some.inj H
 go_enter Tryz.func20, Tryz.ntmps20
 go_wp2_with (first | ((with_reducible refine gate_dst (N := 1) rfl ?_); refine boxA_ 1 38 #[.string a0_0, .int .i64 a0_1, .int .i64 a0_2, .int .i64 a0_3, .int .i64 a0_4, .int .i64 a0_5, .string a0_6, .slice A0_7 l0_7.length c0_7] ?_; intro gb226 hg w3 hbox hb; have n0_ := Aside0.mk (bstep_ hb); have n1_ := Aside0.mk (hbox); have n2_ := Aside0.mk ((by rw [hg]; exact bsize_ : w.heap.size ≤ gb226)); have n3_ := Aside0.mk ((by rw [hg]; exact bsize_ : w.heap.size ≤ gb226)); clear HB; have HB := n0_; have BK226 := n1_; have GW226 := n2_; have GE226 := n3_; clear n0_ n1_ n2_ n3_; clear hb hbox hg; obtain ⟨hcz4_0, hcz4_1, hcz4_2, hcz4_3, hcz4_4, hcz4_5, hcz4_6, hcz4_7, hfz4_0, hfz4_1, hfz4_2, hfz4_3, hfz4_4, hfz4_5, hfz4_6, hfz4_7⟩ := blk_all8 BK226.out) | ((with_reducible refine gate_callee (f := 16) rfl ?_); refine goesA_ (some 7) Tryz.func16 #[.agg #[.string a0_0, .int .i64 a0_1, .int .i64 a0_2, .int .i64 a0_3, .int .i64 a0_4, .int .i64 a0_5, .string a0_6, .slice A0_7 l0_7.length c0_7]] ?_; (with_reducible refine (memb_Lay.calls k a0_0 a0_1 a0_2 a0_3 a0_4 a0_5 a0_6 _ _ l0_7 t227 t230 _ ⟨HTB.out.below belA_⟩ ?side1 ?side2 A2.out).mono ?_); (case side1 => repeat (first | exact (Kd.C_below HR0_7.out HB.out) | (with_reducible refine Kd.C_alloc ?_ _) | (with_reducible refine Kd.C_drewN ?_ _) | (with_reducible refine Kd.C_drew ?_))); (case side2 => exact HC0_7.out); rintro e w5 ⟨v228, rfl, ho0, hb⟩; refine ⟨_, rfl, ?_⟩; have n0_ := Aside0.mk (Kd.R_lower ho0 bsize_); have n1_ := Aside0.mk (blkB_ BK226.out hb); have n2_ := Aside0.mk (bstep_ hb); clear BK226; clear HB; have HO229 := n0_; have BK226 := n1_; have HB := n2_; clear n0_ n1_ n2_; (try clear hb); (try clear hb2); (try clear hk); (try clear hi); (try clear ho0); obtain ⟨Ao6, co6, eo6⟩ := Kd.R_slice HO229.out; subst eo6))
 go_ret
 exact finA_


/-! ### hsum_Told: function 56 -/
def hsum_Told.f (l0 : List Int) : Option (Int × Int) := if (l0.length : Int) = 512 then (if 148 ≤ 156 then (if 156 ≤ (l0.length : Int) then ((numf_Get.f ((l0.take 156).drop 148)).bind fun bt487 => (if bt487.2 = 0 then (if bt487.1 < 0 then (some (0, 3)) else (if bt487.1 > 1048576 then (some (0, 3)) else (some (bt487.1, 0)))) else (some (0, bt487.2)))) else (none)) else (none)) else (some (0, 1))
set_option maxHeartbeats 8000000 in
set_option maxRecDepth 100000 in
theorem hsum_Told.calls (A0 : Option Addr) (c0 : Nat) (l0 : List Int) (r1 : Int) (r2 : Int) (w : World) (hr0 : Kd.C (Kd.int .u8) w A0 l0.length l0) (hc0 : l0.length ≤ c0) (h : hsum_Told.f l0 = some (r1, r2)) :
  Calls Tryz.prog 56 #[.slice A0 l0.length c0] w fun e w' => e = .returned (.tuple #[.int .i64 r1, .int .i64 r2]) ∧ Below w.heap.size w w' := by
 have HR0 := Aside0.mk hr0
 have HC0 := Aside0.mk hc0
 clear hr0 hc0
 have HB := Aside0.mk (Below.refl w.heap.size w)
 have H : (if (l0.length : Int) = 512 then (if 148 ≤ 156 then (if 156 ≤ (l0.length : Int) then ((numf_Get.f ((l0.take 156).drop 148)).bind fun bt487 => (if bt487.2 = 0 then (if bt487.1 < 0 then (some (0, 3)) else (if bt487.1 > 1048576 then (some (0, 3)) else (some (bt487.1, 0)))) else (some (0, bt487.2)))) else (none)) else (none)) else (some (0, 1))) = some (r1, r2) := h
 clear h
 by_cases c2 : (l0.length : Int) = 512
 ·rw [if_pos c2] at H
  have c2b0 : ((l0.length : Int) == 512) = true := beq_iff_eq.mpr c2
  have c2b1 : ((l0.length : Int) != 512) = false := bne_eq_false_iff_eq.mpr c2
  clear c2
  by_cases c3 : 148 ≤ 156
  ·rw [if_pos c3] at H
   have c3b0 := eq_true c3
   have c3b1 : decide (148 ≤ 156) = true := decide_eq_true c3
   clear c3
   by_cases c4 : 156 ≤ (l0.length : Int)
   ·rw [if_pos c4] at H
    have c4b0 := eq_true c4
    have c4b1 : decide (156 ≤ (l0.length : Int)) = true := decide_eq_true c4
    clear c4
    replace H := Option.bind_eq_some_iff.mp H
    obtain ⟨⟨t487, t488⟩, A50, H⟩ := H
    try dsimp only at H
    have A5 := Aside0.mk A50
    clear A50
    by_cases c6 : t488 = 0
    ·rw [if_pos c6] at H
     have c6b0 : (t488 == 0) = true := beq_iff_eq.mpr c6
     have c6b1 : (t488 != 0) = false := bne_eq_false_iff_eq.mpr c6
     clear c6
     by_cases c7 : t487 < 0
     ·rw [if_pos c7] at H
      have c7b0 : decide (t487 < 0) = true := decide_eq_true c7
      clear c7
      simp only [Option.some.injEq, Prod.mk.injEq] at H
      obtain ⟨rfl, rfl⟩ := H
      obtain ⟨i08, hi08, _, hsz8, _⟩ := info_parts info5
      obtain ⟨A8, hcut8, hA8, hC8⟩ := print_mid_of (P := Tryz.prog) (Value.int .u8) 0 31 5 .i64 .i64 Tryz.underlying31 hi08 hsz8 A0 c0 l0 148 156 (by omega) (by first | omega | exact of_decide_eq_true (by first | (with_reducible assumption) | assumption)) (of_decide_eq_true (by first | (with_reducible assumption) | assumption)) HC0.out
      have HR486 := Aside0.mk (Kd.C_of_reads (h1 := fun _ => rfl) (hA8 _ (Kd.reads_of_C HR0.out)))
      have HC486 := Aside0.mk hC8
      clear hA8 hC8 hi08 hsz8
      go_enter Tryz.func56, Tryz.ntmps56
      go_wp2_with (first | ((with_reducible refine gate_callee (f := 59) rfl ?_); refine goesL_ (some 12) rfl rfl Tryz.func59 (by kernel_rfl) rfl #[.slice A8 ((l0.take 156).drop 148).length (c0 - 148)] rfl (by (try simp only [List.map_toArray, List.map_cons, List.map_nil]); first | done | (rw [show ((l0.take 156).drop 148).length = (156 - 148) from (by rw [List.length_drop, List.length_take]; have h_ : (156 : Int) ≤ (l0.length : Int) := of_decide_eq_true (by first | (with_reducible assumption) | assumption); omega)] <;> rfl) | rfl | (simp only [List.length_drop, List.length_take]; rfl)) ?_; (with_reducible refine (numf_Get.calls _ _ ((l0.take 156).drop 148) t487 t488 _ ?side1 ?side2 A5.out).mono ?_); (case side1 => repeat (first | exact HR486.out | (with_reducible refine Kd.C_alloc ?_ _) | (with_reducible refine Kd.C_drewN ?_ _) | (with_reducible refine Kd.C_drew ?_))); (case side2 => exact HC486.out); rintro e w9 ⟨rfl, hb⟩; refine ⟨_, rfl, ?_⟩; have n0_ := Aside0.mk (bstep_ hb); clear HB; have HB := n0_; clear n0_; (try clear hb); (try clear hb2); (try clear hk); (try clear hi)))
      go_ret2
      exact finA_
     ·rw [if_neg c7] at H
      have c7b0 : decide (t487 < 0) = false := decide_eq_false c7
      clear c7
      by_cases c10 : t487 > 1048576
      ·rw [if_pos c10] at H
       have c10b0 : decide (1048576 < t487) = true := decide_eq_true c10
       clear c10
       simp only [Option.some.injEq, Prod.mk.injEq] at H
       obtain ⟨rfl, rfl⟩ := H
       obtain ⟨i011, hi011, _, hsz11, _⟩ := info_parts info5
       obtain ⟨A11, hcut11, hA11, hC11⟩ := print_mid_of (P := Tryz.prog) (Value.int .u8) 0 31 5 .i64 .i64 Tryz.underlying31 hi011 hsz11 A0 c0 l0 148 156 (by omega) (by first | omega | exact of_decide_eq_true (by first | (with_reducible assumption) | assumption)) (of_decide_eq_true (by first | (with_reducible assumption) | assumption)) HC0.out
       have HR486 := Aside0.mk (Kd.C_of_reads (h1 := fun _ => rfl) (hA11 _ (Kd.reads_of_C HR0.out)))
       have HC486 := Aside0.mk hC11
       clear hA11 hC11 hi011 hsz11
       go_enter Tryz.func56, Tryz.ntmps56
       go_wp2_with (first | ((with_reducible refine gate_callee (f := 59) rfl ?_); refine goesL_ (some 12) rfl rfl Tryz.func59 (by kernel_rfl) rfl #[.slice A11 ((l0.take 156).drop 148).length (c0 - 148)] rfl (by (try simp only [List.map_toArray, List.map_cons, List.map_nil]); first | done | (rw [show ((l0.take 156).drop 148).length = (156 - 148) from (by rw [List.length_drop, List.length_take]; have h_ : (156 : Int) ≤ (l0.length : Int) := of_decide_eq_true (by first | (with_reducible assumption) | assumption); omega)] <;> rfl) | rfl | (simp only [List.length_drop, List.length_take]; rfl)) ?_; (with_reducible refine (numf_Get.calls _ _ ((l0.take 156).drop 148) t487 t488 _ ?side1 ?side2 A5.out).mono ?_); (case side1 => repeat (first | exact HR486.out | (with_reducible refine Kd.C_alloc ?_ _) | (with_reducible refine Kd.C_drewN ?_ _) | (with_reducible refine Kd.C_drew ?_))); (case side2 => exact HC486.out); rintro e w12 ⟨rfl, hb⟩; refine ⟨_, rfl, ?_⟩; have n0_ := Aside0.mk (bstep_ hb); clear HB; have HB := n0_; clear n0_; (try clear hb); (try clear hb2); (try clear hk); (try clear hi)))
       go_ret2
       exact finA_
      ·rw [if_neg c10] at H
       have c10b0 : decide (1048576 < t487) = false := decide_eq_false c10
       clear c10
       simp only [Option.some.injEq, Prod.mk.injEq] at H
       obtain ⟨rfl, rfl⟩ := H
       obtain ⟨i013, hi013, _, hsz13, _⟩ := info_parts info5
       obtain ⟨A13, hcut13, hA13, hC13⟩ := print_mid_of (P := Tryz.prog) (Value.int .u8) 0 31 5 .i64 .i64 Tryz.underlying31 hi013 hsz13 A0 c0 l0 148 156 (by omega) (by first | omega | exact of_decide_eq_true (by first | (with_reducible assumption) | assumption)) (of_decide_eq_true (by first | (with_reducible assumption) | assumption)) HC0.out
       have HR486 := Aside0.mk (Kd.C_of_reads (h1 := fun _ => rfl) (hA13 _ (Kd.reads_of_C HR0.out)))
       have HC486 := Aside0.mk hC13
       clear hA13 hC13 hi013 hsz13
       go_enter Tryz.func56, Tryz.ntmps56
       go_wp2_with (first | ((with_reducible refine gate_callee (f := 59) rfl ?_); refine goesL_ (some 12) rfl rfl Tryz.func59 (by kernel_rfl) rfl #[.slice A13 ((l0.take 156).drop 148).length (c0 - 148)] rfl (by (try simp only [List.map_toArray, List.map_cons, List.map_nil]); first | done | (rw [show ((l0.take 156).drop 148).length = (156 - 148) from (by rw [List.length_drop, List.length_take]; have h_ : (156 : Int) ≤ (l0.length : Int) := of_decide_eq_true (by first | (with_reducible assumption) | assumption); omega)] <;> rfl) | rfl | (simp only [List.length_drop, List.length_take]; rfl)) ?_; (with_reducible refine (numf_Get.calls _ _ ((l0.take 156).drop 148) t487 t488 _ ?side1 ?side2 A5.out).mono ?_); (case side1 => repeat (first | exact HR486.out | (with_reducible refine Kd.C_alloc ?_ _) | (with_reducible refine Kd.C_drewN ?_ _) | (with_reducible refine Kd.C_drew ?_))); (case side2 => exact HC486.out); rintro e w14 ⟨rfl, hb⟩; refine ⟨_, rfl, ?_⟩; have n0_ := Aside0.mk (bstep_ hb); clear HB; have HB := n0_; clear n0_; (try clear hb); (try clear hb2); (try clear hk); (try clear hi)))
       go_ret2
       exact finA_
    ·rw [if_neg c6] at H
     have c6b0 : (t488 == 0) = false := beq_eq_false_iff_ne.mpr c6
     have c6b1 : (t488 != 0) = true := bne_iff_ne.mpr c6
     simp only [Option.some.injEq, Prod.mk.injEq] at H
     obtain ⟨rfl, rfl⟩ := H
     obtain ⟨i015, hi015, _, hsz15, _⟩ := info_parts info5
     obtain ⟨A15, hcut15, hA15, hC15⟩ := print_mid_of (P := Tryz.prog) (Value.int .u8) 0 31 5 .i64 .i64 Tryz.underlying31 hi015 hsz15 A0 c0 l0 148 156 (by omega) (by first | omega | exact of_decide_eq_true (by first | (with_reducible assumption) | assumption)) (of_decide_eq_true (by first | (with_reducible assumption) | assumption)) HC0.out
     have HR486 := Aside0.mk (Kd.C_of_reads (h1 := fun _ => rfl) (hA15 _ (Kd.reads_of_C HR0.out)))
     have HC486 := Aside0.mk hC15
     clear hA15 hC15 hi015 hsz15
     go_enter Tryz.func56, Tryz.ntmps56
     go_wp2_with (first | ((with_reducible refine gate_callee (f := 59) rfl ?_); refine goesL_ (some 12) rfl rfl Tryz.func59 (by kernel_rfl) rfl #[.slice A15 ((l0.take 156).drop 148).length (c0 - 148)] rfl (by (try simp only [List.map_toArray, List.map_cons, List.map_nil]); first | done | (rw [show ((l0.take 156).drop 148).length = (156 - 148) from (by rw [List.length_drop, List.length_take]; have h_ : (156 : Int) ≤ (l0.length : Int) := of_decide_eq_true (by first | (with_reducible assumption) | assumption); omega)] <;> rfl) | rfl | (simp only [List.length_drop, List.length_take]; rfl)) ?_; (with_reducible refine (numf_Get.calls _ _ ((l0.take 156).drop 148) t487 t488 _ ?side1 ?side2 A5.out).mono ?_); (case side1 => repeat (first | exact HR486.out | (with_reducible refine Kd.C_alloc ?_ _) | (with_reducible refine Kd.C_drewN ?_ _) | (with_reducible refine Kd.C_drew ?_))); (case side2 => exact HC486.out); rintro e w16 ⟨rfl, hb⟩; refine ⟨_, rfl, ?_⟩; have n0_ := Aside0.mk (bstep_ hb); clear HB; have HB := n0_; clear n0_; (try clear hb); (try clear hb2); (try clear hk); (try clear hi)))
     go_ret2
     exact finA_
   ·rw [if_neg c4] at H
    exact absurd H (by simp)
  ·rw [if_neg c3] at H
   exact absurd H (by simp)
 ·rw [if_neg c2] at H
  have c2b0 : ((l0.length : Int) == 512) = false := beq_eq_false_iff_ne.mpr c2
  have c2b1 : ((l0.length : Int) != 512) = true := bne_iff_ne.mpr c2
  simp only [Option.some.injEq, Prod.mk.injEq] at H
  obtain ⟨rfl, rfl⟩ := H
  go_enter Tryz.func56, Tryz.ntmps56
  go_wp2
  go_ret2
  exact finA_


/-! ### hsum_Check: function 34 -/
def hsum_Check.f (k : Nat) (l0 : List Int) : Option (Int) := (hsum_Told.f l0).bind fun bt489 => (if bt489.2 = 0 then ((hsum_Sum.f k l0).bind fun bt491 => (if bt491.2 = 0 then (if bt491.1 = bt489.1 then (some bt491.2) else (some 9)) else (some bt491.2))) else (some bt489.2))
theorem hsum_Check.mono : ∀ a0 k, LeO (hsum_Check.f k a0) (hsum_Check.f (k + 1) a0) := by
 intro a0 k
 unfold hsum_Check.f
 repeat' first
   | (with_reducible exact hsum_Sum.mono _ _)
   | (with_reducible exact LeO.refl _)
   | (with_reducible exact LeO.none _)
   | (with_reducible refine LeO.ite ?_ ?_)
   | (with_reducible refine LeO.bind ?_ (fun _ => ?_))
   | exact hsum_Sum.mono _ _
   | exact LeO.none _
   | refine LeO.ite ?_ ?_
   | refine LeO.bind ?_ (fun _ => ?_)
set_option maxHeartbeats 8000000 in
set_option maxRecDepth 100000 in
theorem hsum_Check.calls (k : Nat) (A0 : Option Addr) (c0 : Nat) (l0 : List Int) (r : Int) (w : World) (hr0 : Kd.C (Kd.int .u8) w A0 l0.length l0) (hc0 : l0.length ≤ c0) (h : hsum_Check.f k l0 = some r) :
  Calls Tryz.prog 34 #[.slice A0 l0.length c0] w fun e w' => e = .returned (.int .i64 r) ∧ Below w.heap.size w w' := by
 have HR0 := Aside0.mk hr0
 have HC0 := Aside0.mk hc0
 clear hr0 hc0
 have HB := Aside0.mk (Below.refl w.heap.size w)
 have H : ((hsum_Told.f l0).bind fun bt489 => (if bt489.2 = 0 then ((hsum_Sum.f k l0).bind fun bt491 => (if bt491.2 = 0 then (if bt491.1 = bt489.1 then (some bt491.2) else (some 9)) else (some bt491.2))) else (some bt489.2))) = some r := h
 clear h
 replace H := Option.bind_eq_some_iff.mp H
 obtain ⟨⟨t489, t490⟩, A20, H⟩ := H
 try dsimp only at H
 have A2 := Aside0.mk A20
 clear A20
 by_cases c3 : t490 = 0
 ·rw [if_pos c3] at H
  have c3b0 : (t490 == 0) = true := beq_iff_eq.mpr c3
  have c3b1 : (t490 != 0) = false := bne_eq_false_iff_eq.mpr c3
  clear c3
  replace H := Option.bind_eq_some_iff.mp H
  obtain ⟨⟨t491, t492⟩, A40, H⟩ := H
  try dsimp only at H
  have A4 := Aside0.mk A40
  clear A40
  by_cases c5 : t492 = 0
  ·rw [if_pos c5] at H
   have c5b0 : (t492 == 0) = true := beq_iff_eq.mpr c5
   have c5b1 : (t492 != 0) = false := bne_eq_false_iff_eq.mpr c5
   clear c5
   by_cases c6 : t491 = t489
   ·rw [if_pos c6] at H
    have c6b0 : (t491 == t489) = true := beq_iff_eq.mpr c6
    have c6b1 : (t491 != t489) = false := bne_eq_false_iff_eq.mpr c6
    clear c6
    obtain rfl := Option.some.inj H
    go_enter Tryz.func34, Tryz.ntmps34
    go_wp2_with (first | ((with_reducible refine gate_callee (f := 56) rfl ?_); refine goesA_ (some 8) Tryz.func56 #[.slice A0 l0.length c0] ?_; (with_reducible refine (hsum_Told.calls _ _ l0 t489 t490 _ ?side1 ?side2 A2.out).mono ?_); (case side1 => repeat (first | exact HR0.out | (with_reducible refine Kd.C_alloc ?_ _) | (with_reducible refine Kd.C_drewN ?_ _) | (with_reducible refine Kd.C_drew ?_))); (case side2 => exact HC0.out); rintro e w7 ⟨rfl, hb⟩; refine ⟨_, rfl, ?_⟩; have n0_ := Aside0.mk (bstep_ hb); clear HB; have HB := n0_; clear n0_; (try clear hb); (try clear hb2); (try clear hk); (try clear hi)) | ((with_reducible refine gate_callee (f := 57) rfl ?_); refine goesA_ (some 16) Tryz.func57 #[.slice A0 l0.length c0] ?_; (with_reducible refine (hsum_Sum.calls k _ _ l0 t491 t492 _ ?side1 ?side2 A4.out).mono ?_); (case side1 => repeat (first | exact (Kd.C_below HR0.out HB.out) | (with_reducible refine Kd.C_alloc ?_ _) | (with_reducible refine Kd.C_drewN ?_ _) | (with_reducible refine Kd.C_drew ?_))); (case side2 => exact HC0.out); rintro e w' ⟨rfl, ⟨nd, rfl⟩⟩; refine ⟨_, rfl, ?_⟩))
    go_ret
    exact finA_
   ·rw [if_neg c6] at H
    have c6b0 : (t491 == t489) = false := beq_eq_false_iff_ne.mpr c6
    have c6b1 : (t491 != t489) = true := bne_iff_ne.mpr c6
    obtain rfl := Option.some.inj H
    go_enter Tryz.func34, Tryz.ntmps34
    go_wp2_with (first | ((with_reducible refine gate_callee (f := 56) rfl ?_); refine goesA_ (some 8) Tryz.func56 #[.slice A0 l0.length c0] ?_; (with_reducible refine (hsum_Told.calls _ _ l0 t489 t490 _ ?side1 ?side2 A2.out).mono ?_); (case side1 => repeat (first | exact HR0.out | (with_reducible refine Kd.C_alloc ?_ _) | (with_reducible refine Kd.C_drewN ?_ _) | (with_reducible refine Kd.C_drew ?_))); (case side2 => exact HC0.out); rintro e w8 ⟨rfl, hb⟩; refine ⟨_, rfl, ?_⟩; have n0_ := Aside0.mk (bstep_ hb); clear HB; have HB := n0_; clear n0_; (try clear hb); (try clear hb2); (try clear hk); (try clear hi)) | ((with_reducible refine gate_callee (f := 57) rfl ?_); refine goesA_ (some 16) Tryz.func57 #[.slice A0 l0.length c0] ?_; (with_reducible refine (hsum_Sum.calls k _ _ l0 t491 t492 _ ?side1 ?side2 A4.out).mono ?_); (case side1 => repeat (first | exact (Kd.C_below HR0.out HB.out) | (with_reducible refine Kd.C_alloc ?_ _) | (with_reducible refine Kd.C_drewN ?_ _) | (with_reducible refine Kd.C_drew ?_))); (case side2 => exact HC0.out); rintro e w' ⟨rfl, ⟨nd, rfl⟩⟩; refine ⟨_, rfl, ?_⟩))
    go_ret
    exact finA_
  ·rw [if_neg c5] at H
   have c5b0 : (t492 == 0) = false := beq_eq_false_iff_ne.mpr c5
   have c5b1 : (t492 != 0) = true := bne_iff_ne.mpr c5
   obtain rfl := Option.some.inj H
   go_enter Tryz.func34, Tryz.ntmps34
   go_wp2_with (first | ((with_reducible refine gate_callee (f := 56) rfl ?_); refine goesA_ (some 8) Tryz.func56 #[.slice A0 l0.length c0] ?_; (with_reducible refine (hsum_Told.calls _ _ l0 t489 t490 _ ?side1 ?side2 A2.out).mono ?_); (case side1 => repeat (first | exact HR0.out | (with_reducible refine Kd.C_alloc ?_ _) | (with_reducible refine Kd.C_drewN ?_ _) | (with_reducible refine Kd.C_drew ?_))); (case side2 => exact HC0.out); rintro e w9 ⟨rfl, hb⟩; refine ⟨_, rfl, ?_⟩; have n0_ := Aside0.mk (bstep_ hb); clear HB; have HB := n0_; clear n0_; (try clear hb); (try clear hb2); (try clear hk); (try clear hi)) | ((with_reducible refine gate_callee (f := 57) rfl ?_); refine goesA_ (some 16) Tryz.func57 #[.slice A0 l0.length c0] ?_; (with_reducible refine (hsum_Sum.calls k _ _ l0 t491 t492 _ ?side1 ?side2 A4.out).mono ?_); (case side1 => repeat (first | exact (Kd.C_below HR0.out HB.out) | (with_reducible refine Kd.C_alloc ?_ _) | (with_reducible refine Kd.C_drewN ?_ _) | (with_reducible refine Kd.C_drew ?_))); (case side2 => exact HC0.out); rintro e w' ⟨rfl, ⟨nd, rfl⟩⟩; refine ⟨_, rfl, ?_⟩))
   go_ret
   exact finA_
 ·rw [if_neg c3] at H
  have c3b0 : (t490 == 0) = false := beq_eq_false_iff_ne.mpr c3
  have c3b1 : (t490 != 0) = true := bne_iff_ne.mpr c3
  obtain rfl := Option.some.inj H
  go_enter Tryz.func34, Tryz.ntmps34
  go_wp2_with (first | ((with_reducible refine gate_callee (f := 56) rfl ?_); refine goesA_ (some 8) Tryz.func56 #[.slice A0 l0.length c0] ?_; (with_reducible refine (hsum_Told.calls _ _ l0 t489 t490 _ ?side1 ?side2 A2.out).mono ?_); (case side1 => repeat (first | exact HR0.out | (with_reducible refine Kd.C_alloc ?_ _) | (with_reducible refine Kd.C_drewN ?_ _) | (with_reducible refine Kd.C_drew ?_))); (case side2 => exact HC0.out); rintro e w10 ⟨rfl, hb⟩; refine ⟨_, rfl, ?_⟩; have n0_ := Aside0.mk (bstep_ hb); clear HB; have HB := n0_; clear n0_; (try clear hb); (try clear hb2); (try clear hk); (try clear hi)))
  go_ret
  exact finA_

end Go.Proofs.YtjidenkhgeoaiaaGreatDoor.P

/- '[]byte("..")' of a constant: the literal's row as it stands behind the conversion. -/
namespace Go.Proofs.YtjidenkhgeoaiaaGreatDoor.Hand
open Go.RowKit Go.Shelf Go.Proofs.YtjidenkhgeoaiaaGreatDoorW Go.Proofs.YtjidenkhgeoaiaaGreatDoorW.PrintWords Go.Proofs.YtjidenkhgeoaiaaGreatDoorW.PrintLast Go.Proofs.YtjidenkhgeoaiaaGreatDoorW.PrintMore
set_option linter.unusedVariables false
theorem C_lit (w : World) (xs : List Int) (h : xs.length ≤ 9223372036854775807) (t : TypeId) (fr : Nat × Nat) :
    Kd.C (Kd.int .u8) (w.alloc (.cells (xs.map (Value.int .u8)).toArray t fr)) (some ⟨w.heap.size, 0, none⟩) xs.length xs := by
  refine Kd.C_of_reads (enc := Value.int .u8) (d := (0 : Int)) (h1 := fun _ => rfl) ⟨rfl, h, fun _ => ⟨_, rfl, fun j hj => ?_⟩⟩
  rw [add_flat, Nat.zero_add, cell_fresh]
  simp [hj]
end Go.Proofs.YtjidenkhgeoaiaaGreatDoor.Hand
