/- Contracts, by hand, of globs.Check and globs.Least, in the printer's form, by the pieces between a pattern's slashes. -/
import Derived.Test.YtpjanlpjjemenaaDoorHPpath
import Derived.Test.YtpjanlpjjemenaaDoorF81
namespace Go.Proofs.YtpjanlpjjemenaaDoor.Hand
open Go.RowKit Go.Shelf Go.Proofs.YtpjanlpjjemenaaDoorW Go.Proofs.YtpjanlpjjemenaaDoor.P Go.Proofs.YtpjanlpjjemenaaDoorW.PrintWords Go.Proofs.YtpjanlpjjemenaaDoorW.PrintLast
attribute [local go_sem] Oper.semAt_some
set_option linter.unusedVariables false
set_option linter.unusedSimpArgs false

/-- May all of these be parts? -/
def allParts : List ByteArray → Option Bool
  | [] => some true
  | x :: l => (globs_isPart.f 1000 x).bind fun b => if b.2 = true then allParts l else some false
def globs_Check.f (a0 : ByteArray) : Option Int :=
  if 300 < a0.size then some 10 else (allParts (pieces 47 a0)).bind fun b => some (if b = true then 0 else 3)

def HeldC (B : Nat) (w : World) (l : List ByteArray) (bq : Bool) (j : Nat) (W : World) : Prop :=
  Boxed W B 24 (.int .i64 0) ∧ Below B w W ∧ allParts (l.drop j) = some bq
def LeftC (B : Nat) (w : World) (bq : Bool) (c : Code) (W : World) : Prop :=
  c = .ret ∧ bq = false ∧ Boxed W B 24 (.int .i64 3) ∧ Below B w W
theorem HeldC.keep {B k j : Nat} {w W W' : World} {l : List ByteArray} {bq : Bool} (h : HeldC B w l bq j W) (hg : W.grownBy W' (some k)) (h1 : B < k) : HeldC B w l bq j W' := by
  obtain ⟨hE, hb, hn⟩ := h
  exact ⟨box_keep hE hg (by omega), hb.grown hg (Nat.le_of_lt hE.lt) (fun i e => by cases e; omega), hn⟩
theorem LeftC.keep {B k : Nat} {w W W' : World} {bq : Bool} {c : Code} (h : LeftC B w bq c W) (hg : W.grownBy W' (some k)) (h1 : B < k) : LeftC B w bq c W' := by
  obtain ⟨hc, hq, hE, hb⟩ := h
  exact ⟨hc, hq, box_keep hE hg (by omega), hb.grown hg (Nat.le_of_lt hE.lt) (fun i e => by cases e; omega)⟩
theorem HeldC.alloc {B j : Nat} {w W : World} {l : List ByteArray} {bq : Bool} (h : HeldC B w l bq j W) (o : Obj) : HeldC B w l bq j (W.alloc o) := by
  obtain ⟨hE, hb, hn⟩ := h
  exact ⟨hE.alloc o, hb.alloc (Nat.le_of_lt hE.lt) o, hn⟩
theorem check_results (tmps : Array Value) (W : World) (B : Nat) (n : Int) (h2 : tmps[2]?.getD undef = .pointer (some ⟨B, 0, none⟩)) (hE : W.cell? ⟨B, 0, none⟩ = some (.int .i64 n)) :
    (results Tryd.f55 tmps).run Tryd.prog W = .ok (.int .i64 n) W := by
  have hr : Tryd.f55.results = #[.cell 2 24] := rfl
  simp only [results, hr]
  simp [Sem.run_bind, Result.andThen, h2]
  go_simp
  try simp [hE]

set_option maxHeartbeats 4000000 in
set_option maxRecDepth 1000000 in
theorem globs_Check.calls (a0 : ByteArray) (r : Int) (w : World) (h : globs_Check.f a0 = some r) :
    Calls Tryd.prog 55 #[.string a0] w fun e w' => e = .returned (.int .i64 r) ∧ Below w.heap.size w w' := by
  refine (callsIn_wide (n := 3)).1 ?_
  refine callsIn_of_wp_marks Tryd.func55 rfl trivial ?_ rfl
  simp only [Tryd.ntmps55, List.size_toArray, List.length_cons, List.length_nil, Nat.reduceAdd, Nat.reduceSub, Array.replicate_succ, Array.replicate_zero, List.push_toArray, List.append_toArray, List.nil_append, List.cons_append]
  by_cases c1 : 300 < a0.size
  · have b1 : decide ((300 : Int) < (a0.size : Int)) = true := decide_eq_true (by omega)
    have hres : some (10 : Int) = some r := by
      unfold globs_Check.f at h
      rw [if_pos c1] at h
      exact h
    simp only [Option.some.injEq] at hres
    subst hres
    clear h c1
    have hE := Boxed.new w 24 (.int .i64 10)
    gi_wp2
    refine ⟨_, check_results _ _ w.heap.size 10 rfl hE.cell, rfl, ?_⟩
    exact (Below.refl w.heap.size w).alloc (Nat.le_refl _) _
  · have b1 : decide ((300 : Int) < (a0.size : Int)) = false := decide_eq_false (by omega)
    gi_wp2_with (refine ⟨trivial, ?_⟩; gi_at_call 72; refine (splitSeq_made a0 _ _).mono ?_; rintro e w' ⟨rfl, rfl⟩)
    have hm : ∃ bq, allParts (pieces 47 a0) = some bq ∧ some (if bq = true then (0 : Int) else 3) = some r := by
      unfold globs_Check.f at h
      rw [if_neg c1] at h
      exact Option.bind_eq_some_iff.1 h
    obtain ⟨bq, hq, hres⟩ := hm
    clear h
    obtain ⟨B, hB⟩ : ∃ B, w.heap.size = B := ⟨_, rfl⟩
    have bE := Boxed.new w 24 (.int .i64 0)
    have bS := Boxed.new (w.alloc (.cells #[.int .i64 0] 24)) 9 (.string a0)
    have bP := Boxed.new ((w.alloc (.cells #[.int .i64 0] 24)).alloc (.cells #[.string a0] 9)) 9 (.string ⟨#[47]⟩)
    have bZ := Boxed.new (((w.alloc (.cells #[.int .i64 0] 24)).alloc (.cells #[.string a0] 9)).alloc (.cells #[.string ⟨#[47]⟩] 9)) 3 (.int .i64 0)
    have bE0 := ((bE.alloc (.cells #[.string a0] 9)).alloc (.cells #[.string ⟨#[47]⟩] 9)).alloc (.cells #[.int .i64 0] 3)
    have bS0 := (bS.alloc (.cells #[.string ⟨#[47]⟩] 9)).alloc (.cells #[.int .i64 0] 3)
    have bP0 := bP.alloc (.cells #[.int .i64 0] 3)
    have hbel := ((((Below.refl w.heap.size w).alloc (Nat.le_refl _) (.cells #[.int .i64 0] 24)).alloc (by simp) (.cells #[.string a0] 9)).alloc (by simp; omega) (.cells #[.string ⟨#[47]⟩] 9)).alloc (by simp; omega) (.cells #[.int .i64 0] 3)
    have hsz : ((((w.alloc (.cells #[.int .i64 0] 24)).alloc (.cells #[.string a0] 9)).alloc (.cells #[.string ⟨#[47]⟩] 9)).alloc (.cells #[.int .i64 0] 3)).heap.size = B + 4 := by simp; omega
    simp only [World.size_alloc, hB] at bE0 bS0 bP0 bZ hbel
    generalize ((((w.alloc (.cells #[.int .i64 0] 24)).alloc (.cells #[.string a0] 9)).alloc (.cells #[.string ⟨#[47]⟩] 9)).alloc (.cells #[.int .i64 0] 3)) = W0 at *
    rw [hB]
    clear bE bS bP
    have hbx : Boxes W0 (B + 2) (B + 1) (B + 3) 47 a0 := ⟨bP0.cell, bS0.cell, bS0.frozen, bZ.cell⟩
    refine range_split 3 (B + 2) (B + 1) (B + 3) (by omega) (by omega) (by omega) (by omega) (by omega) (by omega) 47 a0 (by omega) rfl hbx (HeldC B w (pieces 47 a0) bq) (LeftC B w bq) (fun j W v h => h.keep (grownBy_setCell' W (B + 1) v) (by omega)) (fun j W o h => h.alloc o)
      (fun j W k o h1 h2 h => h.keep (grownBy_putObj' W k o) (by omega)) (fun c W k o h1 h2 h => h.keep (grownBy_putObj' W k o) (by omega)) ⟨bE0, hbel, hq⟩
      (fun x => { tmps := #[.string a0, undef, .pointer (some ⟨B, 0, none⟩), .string x, undef, undef, .string a0, .int .i64 a0.size, .bool false, .string a0, .func (.func 123) #[] #[.pointer (some ⟨B + 1 + 1, 0, none⟩), .pointer (some ⟨B + 1, 0, none⟩), .pointer (some ⟨B + 1 + 2, 0, none⟩)], .string x, undef, undef, undef, undef, undef, undef, undef], defers := [] }) ?assign ?body ?done ?stop
    case assign =>
      intro l x W K hK
      gi_wp2
      exact hK
    case body =>
      rintro l j x W hx ⟨hE, hBl, hN⟩ hlt
      obtain ⟨hjl, hxe⟩ := List.getElem?_eq_some_iff.1 hx
      have hd : (pieces 47 a0).drop j = x :: (pieces 47 a0).drop (j + 1) := by rw [List.drop_eq_getElem_cons hjl, hxe]
      rw [hd] at hN
      obtain ⟨⟨n1, nb⟩, hname, hN2⟩ := Option.bind_eq_some_iff.1 (show (globs_isPart.f 1000 x).bind (fun b => if b.2 = true then allParts ((pieces 47 a0).drop (j + 1)) else some false) = some bq from hN)
      have hname' := Aside0.mk hname
      clear hname hN
      cases nb
      · simp only [Bool.false_eq_true, if_false, Option.some.injEq] at hN2
        subst hN2
        gi_wp2_with (refine ⟨trivial, ?_⟩; gi_at_call 81; refine (CallsIn.inRound l (callsIn_wide.2 (globs_isPart.calls 1000 x n1 false W hname'.out))).mono ?_; rintro e w2 ⟨rfl, hdr2⟩; have hb2 := hdr2.below; have hE2 := hE.below hb2; have cE2 := hE2.cell; have fE2 := hE2.frozen)
        have hB6 : B ≤ W.heap.size := by omega
        have kp : ∀ k, k ≠ B → k < W.heap.size → (w2.setCell ⟨B, 0, none⟩ (.int .i64 3)).heap[k]? = W.heap[k]? := fun k h1 h3 => (Below.heap_setCell _ _ _ k h1).trans (hb2.block k h3)
        rw [hsz] at hlt ⊢
        exact ⟨⟨kp _ (by omega) (by omega), kp _ (by omega) (by omega), kp _ (by omega) (by omega), kp _ (by omega) (by omega), kp _ (by omega) (by omega)⟩, rfl, rfl,
          hE2.set _, (hBl.trans (hb2.mono hB6)).setCell (p := ⟨B, 0, none⟩) (Nat.le_refl _) _⟩
      · simp only [if_true] at hN2
        have HN2 := Aside0.mk hN2
        have hBl' := Aside0.mk hBl
        rw [hsz] at hlt
        clear hN2 hBl
        gi_wp2_with (refine ⟨trivial, ?_⟩; gi_at_call 81; refine (CallsIn.inRound l (callsIn_wide.2 (globs_isPart.calls 1000 x n1 true W hname'.out))).mono ?_; rintro e w2 ⟨rfl, hdr2⟩; have hb2 := hdr2.below; have hE2 := hE.below hb2)
        have hB6 : B ≤ W.heap.size := by omega
        have kp : ∀ k, k < B + 8 → k < W.heap.size → w2.heap[k]? = W.heap[k]? := fun k h1 h3 => hb2.block k h3
        rw [hsz]
        exact ⟨⟨kp _ (by omega) (by omega), kp _ (by omega) (by omega), kp _ (by omega) (by omega), kp _ (by omega) (by omega), kp _ (by omega) (by omega)⟩, hE2, hBl'.out.trans (hb2.mono hB6), HN2.out⟩
    case done =>
      rintro W ⟨hE, hBl, hN⟩ hK
      rw [List.drop_length] at hN
      have hbq : true = bq := Option.some.inj hN
      subst hbq
      rw [if_pos rfl] at hres
      simp only [Option.some.injEq] at hres
      subst hres
      have cE := hE.cell
      have fE := hE.frozen
      rw [hsz] at hK ⊢
      gi_wp2
      have hK2 : (W.setCell ⟨B, 0, none⟩ (.int .i64 0)).heap[B + 4]? = some (.deferred (some [])) := (Below.heap_setCell _ _ _ (B + 4) (by simp)).trans hK
      refine ⟨by simp, .inl ⟨_, _, rfl, run_takeDeferred hK2, ?_⟩⟩
      have hgr := grownBy_putObj' (W.setCell ⟨B, 0, none⟩ (.int .i64 0)) (B + 4) (.deferred none)
      have hE2 := box_keep (hE.set (.int .i64 0)) hgr (by omega)
      have hBl2 := (hBl.setCell (p := ⟨B, 0, none⟩) (Nat.le_refl _) (.int .i64 0)).grown hgr (by simp; have := hE.lt; omega) (fun i e => by cases e; omega)
      exact ⟨_, check_results _ _ B 0 rfl hE2.cell, rfl, by rw [hB]; exact hBl2⟩
    case stop =>
      rintro c W ⟨rfl, hbq, hE, hBl⟩ hK
      subst hbq
      rw [if_neg (by decide)] at hres
      simp only [Option.some.injEq] at hres
      subst hres
      rw [hsz] at hK ⊢
      gi_wp2
      refine ⟨by simp, .inl ⟨_, _, rfl, run_takeDeferred hK, ?_⟩⟩
      have hgr := grownBy_putObj' W (B + 4) (.deferred none)
      have hltk : B + 4 < W.heap.size := (Array.getElem?_eq_some_iff.1 hK).1
      refine ⟨_, check_results _ _ B 3 rfl (box_keep hE hgr (by omega)).cell, rfl, ?_⟩
      rw [hB]
      exact hBl.grown hgr (by omega) (fun i e => by cases e; omega)

/-- What parts that are not two stars ask, added up. -/
def sumParts : Int → List ByteArray → Option Int
  | n, [] => some n
  | n, x :: l => if x.toList = [42, 42] then sumParts n l else (globs_isPart.f 1000 x).bind fun b => sumParts (wrap64 (n + wrap64 (b.1 + 1))) l
def globs_Least.f (a0 : ByteArray) : Option Int :=
  (globs_Check.f a0).bind fun e => if e = 0 then (if a0.size ≤ 300 then (sumParts (-1) (pieces 47 a0)).bind fun n => some (mx n 0) else none) else some 0

def HeldL (B : Nat) (w : World) (l : List ByteArray) (r : Int) (j : Nat) (W : World) : Prop :=
  ∃ n : Int, Boxed W B 3 (.int .i64 n) ∧ Below B w W ∧ sumParts n (l.drop j) = some r
theorem HeldL.keep {B k j : Nat} {w W W' : World} {l : List ByteArray} {r : Int} (h : HeldL B w l r j W) (hg : W.grownBy W' (some k)) (h1 : B < k) : HeldL B w l r j W' := by
  obtain ⟨n, hE, hb, hn⟩ := h
  exact ⟨n, box_keep hE hg (by omega), hb.grown hg (Nat.le_of_lt hE.lt) (fun i e => by cases e; omega), hn⟩
theorem HeldL.alloc {B j : Nat} {w W : World} {l : List ByteArray} {r : Int} (h : HeldL B w l r j W) (o : Obj) : HeldL B w l r j (W.alloc o) := by
  obtain ⟨n, hE, hb, hn⟩ := h
  exact ⟨n, hE.alloc o, hb.alloc (Nat.le_of_lt hE.lt) o, hn⟩
theorem least_results (tmps : Array Value) (W : World) (n : Int) (h2 : tmps[2]?.getD undef = .int .i64 n) :
    (results Tryd.f57 tmps).run Tryd.prog W = .ok (.int .i64 n) W := by
  have hr : Tryd.f57.results = #[.tmp 2] := rfl
  simp only [results, hr]
  simp [Sem.run_bind, Result.andThen, h2]
  try go_simp

set_option maxHeartbeats 4000000 in
set_option maxRecDepth 1000000 in
theorem globs_Least.calls (a0 : ByteArray) (r : Int) (w : World) (h : globs_Least.f a0 = some r) :
    Calls Tryd.prog 57 #[.string a0] w fun e w' => e = .returned (.int .i64 r) ∧ Below w.heap.size w w' := by
  unfold globs_Least.f at h
  obtain ⟨ce, hce, h⟩ := Option.bind_eq_some_iff.1 h
  have hce' := Aside0.mk hce
  clear hce
  refine (callsIn_wide (n := 3)).1 ?_
  refine callsIn_of_wp_marks Tryd.func57 rfl trivial ?_ rfl
  simp only [Tryd.ntmps57, List.size_toArray, List.length_cons, List.length_nil, Nat.reduceAdd, Nat.reduceSub, Array.replicate_succ, Array.replicate_zero, List.push_toArray, List.append_toArray, List.nil_append, List.cons_append]
  by_cases c1 : ¬ ce = 0
  · have b1 : (ce != 0) = true := bne_iff_ne.2 c1
    rw [if_neg c1] at h
    obtain rfl := Option.some.inj h
    clear h
    gi_wp2_with (refine ⟨trivial, ?_⟩; gi_at_call 55; refine (callsIn_wide.2 (globs_Check.calls a0 ce w hce'.out)).mono ?_; rintro e w1 ⟨rfl, hb1⟩)
    exact ⟨_, least_results _ _ 0 rfl, rfl, hb1⟩
  · have c2 := Decidable.of_not_not c1
    subst c2
    clear c1
    rw [if_pos rfl] at h
    by_cases c3 : ¬ a0.size ≤ 300
    · rw [if_neg c3] at h; cases h
    have c4 := Decidable.of_not_not c3
    clear c3
    rw [if_pos c4] at h
    obtain ⟨tot, hq, hres⟩ := Option.bind_eq_some_iff.1 h
    have hq' := Aside0.mk hq
    have c4' := Aside0.mk c4
    have hres' := Aside0.mk hres
    clear h hq c4 hres
    gi_wp2_with (first
      | (refine ⟨trivial, ?_⟩; gi_at_call 55; refine (callsIn_wide.2 (globs_Check.calls a0 0 w hce'.out)).mono ?_; rintro e w1 ⟨rfl, hb1⟩)
      | (refine ⟨trivial, ?_⟩; gi_at_call 72; refine (splitSeq_made a0 _ _).mono ?_; rintro e w' ⟨rfl, rfl⟩))
    obtain ⟨B, hB⟩ : ∃ B, w1.heap.size = B := ⟨_, rfl⟩
    have bE := Boxed.new w1 3 (.int .i64 (-1))
    have bS := Boxed.new (w1.alloc (.cells #[.int .i64 (-1)] 3)) 9 (.string a0)
    have bP := Boxed.new ((w1.alloc (.cells #[.int .i64 (-1)] 3)).alloc (.cells #[.string a0] 9)) 9 (.string ⟨#[47]⟩)
    have bZ := Boxed.new (((w1.alloc (.cells #[.int .i64 (-1)] 3)).alloc (.cells #[.string a0] 9)).alloc (.cells #[.string ⟨#[47]⟩] 9)) 3 (.int .i64 0)
    have bE0 := ((bE.alloc (.cells #[.string a0] 9)).alloc (.cells #[.string ⟨#[47]⟩] 9)).alloc (.cells #[.int .i64 0] 3)
    have bS0 := (bS.alloc (.cells #[.string ⟨#[47]⟩] 9)).alloc (.cells #[.int .i64 0] 3)
    have bP0 := bP.alloc (.cells #[.int .i64 0] 3)
    have hbel := ((((Below.refl w1.heap.size w1).alloc (Nat.le_refl _) (.cells #[.int .i64 (-1)] 3)).alloc (by simp) (.cells #[.string a0] 9)).alloc (by simp; omega) (.cells #[.string ⟨#[47]⟩] 9)).alloc (by simp; omega) (.cells #[.int .i64 0] 3)
    have hsz : ((((w1.alloc (.cells #[.int .i64 (-1)] 3)).alloc (.cells #[.string a0] 9)).alloc (.cells #[.string ⟨#[47]⟩] 9)).alloc (.cells #[.int .i64 0] 3)).heap.size = B + 4 := by simp; omega
    simp only [World.size_alloc, hB] at bE0 bS0 bP0 bZ hbel
    generalize ((((w1.alloc (.cells #[.int .i64 (-1)] 3)).alloc (.cells #[.string a0] 9)).alloc (.cells #[.string ⟨#[47]⟩] 9)).alloc (.cells #[.int .i64 0] 3)) = W0 at *
    rw [hB]
    clear bE bS bP
    have hbx : Boxes W0 (B + 2) (B + 1) (B + 3) 47 a0 := ⟨bP0.cell, bS0.cell, bS0.frozen, bZ.cell⟩
    refine range_split 3 (B + 2) (B + 1) (B + 3) (by omega) (by omega) (by omega) (by omega) (by omega) (by omega) 47 a0 (by have := c4'.out; omega) rfl hbx (HeldL B w1 (pieces 47 a0) tot) (fun _ _ => False) (fun j W v h => h.keep (grownBy_setCell' W (B + 1) v) (by omega)) (fun j W o h => h.alloc o)
      (fun j W k o h1 h2 h => h.keep (grownBy_putObj' W k o) (by omega)) (fun c W k o h1 h2 h => h) ⟨-1, bE0, hbel, hq'.out⟩
      (fun x => { tmps := #[.string a0, undef, .int .i64 0, .pointer (some ⟨B, 0, none⟩), .string x, undef, undef, .string a0, .int .i64 0, .bool false, .string a0, .func (.func 123) #[] #[.pointer (some ⟨B + 1 + 1, 0, none⟩), .pointer (some ⟨B + 1, 0, none⟩), .pointer (some ⟨B + 1 + 2, 0, none⟩)], .string x, undef, undef, undef, undef, undef, undef, undef, undef, undef, undef, undef, undef, undef], defers := [] }) ?assign ?body ?done ?stop
    case assign =>
      intro l x W K hK
      gi_wp2
      exact hK
    case body =>
      rintro l j x W hx ⟨n, hE, hBl, hN⟩ hlt
      obtain ⟨hjl, hxe⟩ := List.getElem?_eq_some_iff.1 hx
      have hd : (pieces 47 a0).drop j = x :: (pieces 47 a0).drop (j + 1) := by rw [List.drop_eq_getElem_cons hjl, hxe]
      rw [hd] at hN
      replace hN : (if x.toList = [42, 42] then sumParts n ((pieces 47 a0).drop (j + 1)) else (globs_isPart.f 1000 x).bind fun b => sumParts (wrap64 (n + wrap64 (b.1 + 1))) ((pieces 47 a0).drop (j + 1))) = some tot := hN
      have hBl' := Aside0.mk hBl
      clear hBl
      rw [hsz] at hlt
      by_cases cx : x.toList = [42, 42]
      · rw [if_pos cx] at hN
        have d1 : (x.toList == [42, 42]) = true := beq_iff_eq.2 cx
        clear cx
        have hN' := Aside0.mk hN
        clear hN
        gi_wp2
        exact ⟨⟨rfl, rfl, rfl, rfl, rfl⟩, n, hE, hBl'.out, hN'.out⟩
      · rw [if_neg cx] at hN
        have d1 : (x.toList == [42, 42]) = false := beq_eq_false_iff_ne.2 cx
        clear cx
        obtain ⟨⟨n1, nb⟩, hname, hN2⟩ := Option.bind_eq_some_iff.1 hN
        have hname' := Aside0.mk hname
        have hN' := Aside0.mk hN2
        clear hN hname hN2
        gi_wp2_with (refine ⟨trivial, ?_⟩; gi_at_call 81; refine (CallsIn.inRound l (callsIn_wide.2 (globs_isPart.calls 1000 x n1 nb W hname'.out))).mono ?_; rintro e w2 ⟨rfl, hdr2⟩; have hb2 := hdr2.below; have hE2 := hE.below hb2; have cE2 := hE2.cell; have fE2 := hE2.frozen)
        have hB6 : B ≤ W.heap.size := by omega
        have kp : ∀ k, k ≠ B → k < W.heap.size → (w2.setCell ⟨B, 0, none⟩ (.int .i64 (wrap64 (n + wrap64 (n1 + 1))))).heap[k]? = W.heap[k]? := fun k h1 h3 => (Below.heap_setCell _ _ _ k h1).trans (hb2.block k h3)
        rw [hsz]
        exact ⟨⟨kp _ (by omega) (by omega), kp _ (by omega) (by omega), kp _ (by omega) (by omega), kp _ (by omega) (by omega), kp _ (by omega) (by omega)⟩, _, hE2.set _, (hBl'.out.trans (hb2.mono hB6)).setCell (p := ⟨B, 0, none⟩) (Nat.le_refl _) _, hN'.out⟩
    case done =>
      rintro W ⟨n, hE, hBl, hN⟩ hK
      rw [List.drop_length] at hN
      obtain rfl : n = tot := Option.some.inj hN
      obtain rfl := Option.some.inj hres'.out
      have cE := hE.cell
      rw [hsz] at hK ⊢
      clear hres' hN
      gi_wp2
      refine ⟨by simp, .inl ⟨_, _, rfl, run_takeDeferred hK, ?_⟩⟩
      have hgr := grownBy_putObj' W (B + 4) (.deferred none)
      have hBl2 := hBl.grown hgr (by have := hE.lt; have := (Array.getElem?_eq_some_iff.1 hK).1; omega) (fun i e => by cases e; omega)
      refine ⟨_, least_results _ _ _ rfl, by rw [show max n 0 = mx n 0 by unfold mx; split <;> omega], ?_⟩
      exact hb1.trans ((show Below w1.heap.size w1 _ by rw [hB]; exact hBl2).mono hb1.size)
    case stop =>
      rintro c W hf
      exact hf.elim
end Go.Proofs.YtpjanlpjjemenaaDoor.Hand
