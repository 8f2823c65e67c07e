/- Contract, by hand, of ppath.Parts, in the printer's form: a text's names, by the pieces between its slashes. -/
import Derived.Test.YtpjanlpjjemenaaDoorHSeq
import Derived.Test.YtpjanlpjjemenaaDoorF39
import Derived.RangeFuncBox
import Derived.Maps.AppendAt
namespace Go.Proofs.YtpjanlpjjemenaaDoor.Hand
open Go.RowKit Go.Shelf Go.Proofs.YtpjanlpjjemenaaDoor.P Go.Proofs.YtpjanlpjjemenaaDoorW.PrintWords Go.Proofs.YtpjanlpjjemenaaDoorW.PrintLast
attribute [local go_sem] Oper.semAt_some
set_option linter.unusedVariables false
set_option linter.unusedSimpArgs false

/-- Are all of these names? -/
def allNames : List ByteArray → Option Bool
  | [] => some true
  | x :: l => (ppath_Name.f 20 x).bind fun b => if b = true then allNames l else some false
def ppath_Parts.f (a0 : ByteArray) : Option (List ByteArray × Int) :=
  if 300 < a0.size then some ([], 8) else (allNames (pieces 47 a0)).bind fun b => if b = true then some (pieces 47 a0, 0) else some ([], 8)

theorem splitSeq_made (s sep : ByteArray) (w : World) :
    CallsIn Fence.wide 2 Tryd.prog 72 #[.string s, .string sep] w fun e w' => e = .returned (.func (.func 123) #[] #[.pointer (some ⟨w.heap.size + 1, 0, none⟩), .pointer (some ⟨w.heap.size, 0, none⟩), .pointer (some ⟨w.heap.size + 2, 0, none⟩)]) ∧
      w' = ((w.alloc (.cells #[.string s] 9)).alloc (.cells #[.string sep] 9)).alloc (.cells #[.int .i64 0] 3) := by
  refine callsIn_wide.2 ?_
  have hI : ∀ W : World, Calls Tryd.prog 100 #[.string s, .string sep, .int .i64 0] W fun e w' => e = .returned (.func (.func 123) #[] #[.pointer (some ⟨W.heap.size + 1, 0, none⟩), .pointer (some ⟨W.heap.size, 0, none⟩), .pointer (some ⟨W.heap.size + 2, 0, none⟩)]) ∧
      w' = ((W.alloc (.cells #[.string s] 9)).alloc (.cells #[.string sep] 9)).alloc (.cells #[.int .i64 0] 3) := fun W => by
    go_enter Tryd.func100, Tryd.ntmps100
    go_wp2
    go_ret
    exact ⟨by simp, rfl⟩
  go_enter Tryd.func72, Tryd.ntmps72
  go_wp2_with (go_at_call 100; refine (hI w).mono ?_; rintro e w' ⟨rfl, hw⟩; rw [hw])
  go_ret
  exact ⟨rfl, rfl⟩

theorem row_keep {W W' : World} {base k n : Nat} {e : TypeId} {v : Value} {xs : List Value} (h : W.ownsRow base e 1 v n xs) (hg : W.grownBy W' (some k)) (hk : k < base) : W'.ownsRow base e 1 v n xs := by
  refine h.kept hg ?_
  rcases h.2 with ⟨rfl, _⟩ | ⟨g, cap, cur, rfl, hb, _⟩
  · exact .inl rfl
  · refine .inr fun e' => ?_
    have : g = k := by simpa [Value.ownBlock] using e'
    omega
theorem _root_.Go.Boxed.below {W W' : World} {B : Nat} {t : TypeId} {v : Value} (h : Boxed W B t v) (hb : Below W.heap.size W W') : Boxed W' B t v := (hb.block B h.lt).trans h
theorem own_below {W W' : World} {base n : Nat} {e : TypeId} {v : Value} {xs : List Value} (h : W.ownsRow base e 1 v n xs) (hb : Below W.heap.size W W') : W'.ownsRow base e 1 v n xs := by
  refine ⟨h.1, ?_⟩
  rcases h.2 with h2 | ⟨g, cap, cur, h1, h2, h3, h4⟩
  · exact .inl h2
  · exact .inr ⟨g, cap, cur, h1, h2, (hb.block g (Array.getElem?_eq_some_iff.1 h3).1).trans h3, h4⟩
theorem own_far {W : World} {base n : Nat} {e : TypeId} {v : Value} {xs : List Value} (h : W.ownsRow base e 1 v n xs) (k : Nat) (hk : k < base) : some k ≠ v.ownBlock := fun e' => by
  have := own_base h k e'.symm
  omega
theorem box_keep {W W' : World} {B k : Nat} {t : TypeId} {v : Value} (h : Boxed W B t v) (hg : W.grownBy W' (some k)) (hk : B ≠ k) : Boxed W' B t v := h.kept hg (fun e => hk (Option.some.inj e))
/-- What the caller's boxes hold between two rounds. -/
def Held (B : Nat) (w : World) (l : List ByteArray) (bq : Bool) (j : Nat) (W : World) : Prop :=
  (∃ v, Boxed W B 55 (.slice none 0 0) ∧ Boxed W (B + 1) 24 (.int .i64 0) ∧ Boxed W (B + 2) 55 v ∧ W.ownsRow (B + 8) 9 1 v j ((l.take j).map Value.string)) ∧ Below B w W ∧ allNames (l.drop j) = some bq
def Left (B : Nat) (w : World) (bq : Bool) (c : Code) (W : World) : Prop :=
  c = .ret ∧ bq = false ∧ Boxed W B 55 (.slice none 0 0) ∧ Boxed W (B + 1) 24 (.int .i64 8) ∧ Below B w W
theorem Held.keep {B k j : Nat} {w W W' : World} {l : List ByteArray} {bq : Bool} (h : Held B w l bq j W) (hg : W.grownBy W' (some k)) (h1 : B + 2 < k) (h2 : k < B + 8) : Held B w l bq j W' := by
  obtain ⟨⟨v, hA, hE, hL, hr⟩, hb, hn⟩ := h
  exact ⟨⟨v, box_keep hA hg (by omega), box_keep hE hg (by omega), box_keep hL hg (by omega), row_keep hr hg h2⟩, hb.grown hg (Nat.le_trans (by omega) (Nat.le_of_lt hL.lt)) (fun i e => by cases e; omega), hn⟩
theorem Left.keep {B k : Nat} {w W W' : World} {bq : Bool} {c : Code} (h : Left B w bq c W) (hg : W.grownBy W' (some k)) (h1 : B + 2 < k) : Left B w bq c W' := by
  obtain ⟨hc, hq, hA, hE, hb⟩ := h
  exact ⟨hc, hq, box_keep hA hg (by omega), box_keep hE hg (by omega), hb.grown hg (Nat.le_of_lt hA.lt) (fun i e => by cases e; omega)⟩
theorem Held.alloc {B j : Nat} {w W : World} {l : List ByteArray} {bq : Bool} (h : Held B w l bq j W) (o : Obj) : Held B w l bq j (W.alloc o) := by
  obtain ⟨⟨v, hA, hE, hL, hr⟩, hb, hn⟩ := h
  exact ⟨⟨v, hA.alloc o, hE.alloc o, hL.alloc o, hr.alloc o⟩, hb.alloc (Nat.le_of_lt hA.lt) o, hn⟩

theorem parts_results (tmps : Array Value) (W : World) (B : Nat) (v : Value) (n : Int) (A : Option Addr) (m c : Nat) (hv : v = .slice A m c) (h2 : tmps[2]?.getD undef = .pointer (some ⟨B, 0, none⟩)) (h3 : tmps[3]?.getD undef = .pointer (some ⟨B + 1, 0, none⟩)) (hA : W.cell? ⟨B, 0, none⟩ = some v) (hE : W.cell? ⟨B + 1, 0, none⟩ = some (.int .i64 n)) :
    (results Tryd.f36 tmps).run Tryd.prog W = .ok (.tuple #[v, .int .i64 n]) W := by
  subst hv
  have hr : Tryd.f36.results = #[.cell 2 55, .cell 3 24] := rfl
  simp only [results, hr]
  simp [Sem.run_bind, Result.andThen, h2, h3]
  go_simp
  try simp [hA, hE]

set_option maxHeartbeats 4000000 in
set_option maxRecDepth 1000000 in
theorem ppath_Parts.calls (a0 : ByteArray) (r1 : List ByteArray) (r2 : Int) (w : World) (h : ppath_Parts.f a0 = some (r1, r2)) :
    Calls Tryd.prog 36 #[.string a0] w fun e w' => ∃ v0_ : Value, e = .returned (.tuple #[v0_, .int .i64 r2]) ∧ Kd.R Kd.string 9 w' w.heap.size (fun _ => True) v0_ r1 ∧ Below w.heap.size w w' := by
  refine (callsIn_wide (n := 3)).1 ?_
  refine callsIn_of_wp_marks Tryd.func36 rfl trivial ?_ rfl
  simp only [Tryd.ntmps36, List.size_toArray, List.length_cons, List.length_nil, Nat.reduceAdd, Nat.reduceSub, Array.replicate_succ, Array.replicate_zero, List.push_toArray, List.append_toArray, List.nil_append, List.cons_append]
  by_cases c1 : 300 < a0.size
  · have b1 : decide ((300 : Int) < (a0.size : Int)) = true := decide_eq_true (by omega)
    have hres : some (([] : List ByteArray), (8 : Int)) = some (r1, r2) := by
      unfold ppath_Parts.f at h
      rw [if_pos c1] at h
      exact h
    simp only [Option.some.injEq, Prod.mk.injEq] at hres
    obtain ⟨rfl, rfl⟩ := hres
    clear h c1
    have hA := (Boxed.new w 55 (.slice none 0 0)).alloc (.cells #[.int .i64 8] 24)
    have hE := Boxed.new (w.alloc (.cells #[.slice none 0 0] 55)) 24 (.int .i64 8)
    rw [World.size_alloc] at hE
    gi_wp2
    refine ⟨_, parts_results _ _ w.heap.size _ 8 none 0 0 rfl rfl rfl hA.cell hE.cell, _, rfl, Kd.R_nil _ _ _ _ _, ?_⟩
    exact ((Below.refl w.heap.size w).alloc (Nat.le_refl _) _).alloc (by simp) _
  · have b1 : decide ((300 : Int) < (a0.size : Int)) = false := decide_eq_false (by omega)
    gi_wp2_with (refine ⟨trivial, ?_⟩; gi_at_call 72; refine (splitSeq_made a0 _ _).mono ?_; rintro e w' ⟨rfl, rfl⟩)
    have hm : ∃ bq, allNames (pieces 47 a0) = some bq ∧ (if bq = true then some (pieces 47 a0, (0 : Int)) else some ([], 8)) = some (r1, r2) := by
      unfold ppath_Parts.f at h
      rw [if_neg c1] at h
      exact Option.bind_eq_some_iff.1 h
    obtain ⟨bq, hq, hres⟩ := hm
    clear h
    obtain ⟨B, hB⟩ : ∃ B, w.heap.size = B := ⟨_, rfl⟩
    have bA := Boxed.new w 55 (.slice none 0 0)
    have bE := Boxed.new (w.alloc (.cells #[.slice none 0 0] 55)) 24 (.int .i64 0)
    have bL := Boxed.new ((w.alloc (.cells #[.slice none 0 0] 55)).alloc (.cells #[.int .i64 0] 24)) 55 (.slice none 0 0)
    have bS := Boxed.new (((w.alloc (.cells #[.slice none 0 0] 55)).alloc (.cells #[.int .i64 0] 24)).alloc (.cells #[.slice none 0 0] 55)) 9 (.string a0)
    have bP := Boxed.new ((((w.alloc (.cells #[.slice none 0 0] 55)).alloc (.cells #[.int .i64 0] 24)).alloc (.cells #[.slice none 0 0] 55)).alloc (.cells #[.string a0] 9)) 9 (.string ⟨#[47]⟩)
    have bZ := Boxed.new (((((w.alloc (.cells #[.slice none 0 0] 55)).alloc (.cells #[.int .i64 0] 24)).alloc (.cells #[.slice none 0 0] 55)).alloc (.cells #[.string a0] 9)).alloc (.cells #[.string ⟨#[47]⟩] 9)) 3 (.int .i64 0)
    have bA0 := ((((bA.alloc (.cells #[.int .i64 0] 24)).alloc (.cells #[.slice none 0 0] 55)).alloc (.cells #[.string a0] 9)).alloc (.cells #[.string ⟨#[47]⟩] 9)).alloc (.cells #[.int .i64 0] 3)
    have bE0 := (((bE.alloc (.cells #[.slice none 0 0] 55)).alloc (.cells #[.string a0] 9)).alloc (.cells #[.string ⟨#[47]⟩] 9)).alloc (.cells #[.int .i64 0] 3)
    have bL0 := ((bL.alloc (.cells #[.string a0] 9)).alloc (.cells #[.string ⟨#[47]⟩] 9)).alloc (.cells #[.int .i64 0] 3)
    have bS0 := (bS.alloc (.cells #[.string ⟨#[47]⟩] 9)).alloc (.cells #[.int .i64 0] 3)
    have bP0 := bP.alloc (.cells #[.int .i64 0] 3)
    have hbel := ((((((Below.refl w.heap.size w).alloc (Nat.le_refl _) (.cells #[.slice none 0 0] 55)).alloc (by simp) (.cells #[.int .i64 0] 24)).alloc (by simp; omega) (.cells #[.slice none 0 0] 55)).alloc (by simp; omega) (.cells #[.string a0] 9)).alloc (by simp; omega) (.cells #[.string ⟨#[47]⟩] 9)).alloc (by simp; omega) (.cells #[.int .i64 0] 3)
    have hsz : ((((((w.alloc (.cells #[.slice none 0 0] 55)).alloc (.cells #[.int .i64 0] 24)).alloc (.cells #[.slice none 0 0] 55)).alloc (.cells #[.string a0] 9)).alloc (.cells #[.string ⟨#[47]⟩] 9)).alloc (.cells #[.int .i64 0] 3)).heap.size = B + 6 := by simp; omega
    simp only [World.size_alloc, hB] at bA0 bE0 bL0 bS0 bP0 bZ hbel
    generalize ((((((w.alloc (.cells #[.slice none 0 0] 55)).alloc (.cells #[.int .i64 0] 24)).alloc (.cells #[.slice none 0 0] 55)).alloc (.cells #[.string a0] 9)).alloc (.cells #[.string ⟨#[47]⟩] 9)).alloc (.cells #[.int .i64 0] 3)) = W0 at *
    rw [hB]
    clear bA bE bL bS bP
    have hbx : Boxes W0 (B + 4) (B + 3) (B + 5) 47 a0 := ⟨bP0.cell, bS0.cell, bS0.frozen, bZ.cell⟩
    refine range_split 3 (B + 4) (B + 3) (B + 5) (by omega) (by omega) (by omega) (by omega) (by omega) (by omega) 47 a0 (by omega) rfl hbx (Held B w (pieces 47 a0) bq) (Left B w bq) (fun j W v h => h.keep (grownBy_setCell' W (B + 3) v) (by omega) (by omega)) (fun j W o h => h.alloc o)
      (fun j W k o h1 h2 h => h.keep (grownBy_putObj' W k o) (by omega) (by omega)) (fun c W k o h1 h2 h => h.keep (grownBy_putObj' W k o) (by omega)) ⟨⟨_, bA0, bE0, bL0, World.ownsRow_nil _ _ _ _⟩, hbel, hq⟩
      (fun x => { tmps := #[.string a0, undef, .pointer (some ⟨B, 0, none⟩), .pointer (some ⟨B + 1, 0, none⟩), .pointer (some ⟨B + 1 + 1, 0, none⟩), .string x, .string a0, .int .i64 a0.size, .bool false, .string a0, .func (.func 123) #[] #[.pointer (some ⟨B + 1 + 1 + 1 + 1, 0, none⟩), .pointer (some ⟨B + 1 + 1 + 1, 0, none⟩), .pointer (some ⟨B + 1 + 1 + 1 + 2, 0, none⟩)], .string x, undef, undef, undef, undef, undef, undef, undef, undef], defers := [] }) ?assign ?body ?done ?stop
    case assign =>
      intro l x W K hK
      gi_wp2
      exact hK
    case body =>
      rintro l j x W hx ⟨⟨v, hA, hE, hL, hrow⟩, hBl, hN⟩ hlt
      obtain ⟨hjl, hxe⟩ := List.getElem?_eq_some_iff.1 hx
      have hd : (pieces 47 a0).drop j = x :: (pieces 47 a0).drop (j + 1) := by rw [List.drop_eq_getElem_cons hjl, hxe]
      have htk : (pieces 47 a0).take (j + 1) = (pieces 47 a0).take j ++ [x] := by rw [List.take_add_one, hx]; rfl
      rw [hd] at hN
      obtain ⟨nb, hname, hN2⟩ := Option.bind_eq_some_iff.1 (show (ppath_Name.f 20 x).bind (fun b => if b = true then allNames ((pieces 47 a0).drop (j + 1)) else some false) = some bq from hN)
      have hplen : (pieces 47 a0).length ≤ 301 := by
        have h1 := Lib.splitB_all ⟨#[47]⟩ (Nat.le_refl 1) 0 (Lib.countB a0 ⟨#[47]⟩) a0 rfl
        have h2 := Lib.countB_le ⟨#[47]⟩ (Nat.le_refl 1) a0.size a0 (Nat.le_refl _)
        unfold pieces
        omega
      cases nb
      · simp only [Bool.false_eq_true, if_false, Option.some.injEq] at hN2
        subst hN2
        have hname' := Aside0.mk hname
        clear hname hN
        gi_wp2_with (refine ⟨trivial, ?_⟩; gi_at_call 39; refine (CallsIn.inRound l (callsIn_wide.2 (ppath_Name.calls 20 x false W hname'.out))).mono ?_; rintro e w2 ⟨rfl, hb2⟩; have hA2 := hA.below hb2; have hE2 := hE.below hb2; have cA2 := hA2.cell; have cE2 := hE2.cell; have fA2 := hA2.frozen; have fE2 := hE2.frozen)
        have hB6 : B ≤ W.heap.size := by omega
        have kp : ∀ k, k ≠ B → k ≠ B + 1 → k < W.heap.size → ((w2.setCell ⟨B, 0, none⟩ (.slice none 0 0)).setCell ⟨B + 1, 0, none⟩ (.int .i64 8)).heap[k]? = W.heap[k]? := fun k h1 h2 h3 => (Below.heap_setCell _ _ _ k h2).trans ((Below.heap_setCell _ _ _ k h1).trans (hb2.block k h3))
        rw [hsz] at hlt ⊢
        exact ⟨⟨kp _ (by omega) (by omega) (by omega), kp _ (by omega) (by omega) (by omega), kp _ (by omega) (by omega) (by omega), kp _ (by omega) (by omega) (by omega), kp _ (by omega) (by omega) (by omega)⟩, rfl, rfl,
          box_keep (hA2.set _) (grownBy_setCell' _ (B + 1) _) (by omega), (box_keep hE2 (grownBy_setCell' w2 B _) (by omega)).set _,
          ((hBl.trans (hb2.mono hB6)).setCell (p := ⟨B, 0, none⟩) (Nat.le_refl _) _).setCell (p := ⟨B + 1, 0, none⟩) (by simp) _⟩
      · simp only [if_true] at hN2
        have hname' := Aside0.mk hname
        have HN2 := Aside0.mk hN2
        obtain ⟨i0, hi, hz0, hz1, hz2⟩ := info_parts info_str
        have hrest := Aside0.mk hrow
        have hBl' := Aside0.mk hBl
        rw [hsz] at hlt
        clear hname hN hN2 hrow hBl
        gi_wp2_with (first
          | (refine ⟨trivial, ?_⟩; gi_at_call 39; refine (CallsIn.inRound l (callsIn_wide.2 (ppath_Name.calls 20 x true W hname'.out))).mono ?_; rintro e w2 ⟨rfl, hb2⟩; have hA2 := hA.below hb2; have hE2 := hE.below hb2; have hL2 := hL.below hb2; have cL2 := hL2.cell; have hs2 := hb2.size)
          | (gi_at_builtin; refine wpListIn_append_own _ rfl _ _ 55 rfl (B + 8) 9 i0 (.string ByteArray.empty) 1 16 Tryd.underlying55 hi hz0 hz1 hz2 rfl (by decide) _ _ _ rfl ((own_below hrest.out hb2).alloc _) ⟨w2.heap.size, 0, none⟩ 1 1 [.string x] rfl rfl (cell_one_new _ _ _) (by simp [Value.oneCell']) (by simp only [maxLen]; omega) (by omega) (by simp; omega) ?_; intro v' w3 hown' hgrow _; obtain ⟨g', cap', rfl⟩ := ownsRow_succ hown'; have hne := own_far hrest.out; have hL3 := (hL2.alloc _).kept hgrow (hne (B + 2) (by omega)); have cL3 := hL3.cell; have fL3 := hL3.frozen))
        have hgrow2 : (w2.alloc (.cells #[.string x] 9)).grownBy w3 v.ownBlock := hgrow
        have hB6 : B ≤ W.heap.size := by omega
        have kp : ∀ k, k ≠ B + 2 → k < B + 8 → (w3.setCell ⟨B + 2, 0, none⟩ (.slice (some ⟨g', 0, none⟩) (j + 1) cap')).heap[k]? = W.heap[k]? := fun k h1 h2 => (Below.heap_setCell _ _ _ k h1).trans ((hgrow2.block k (by simp; omega) (hne k h2)).trans ((Below.heap_alloc w2 _ k (by omega)).trans (hb2.block k (by omega))))
        have hbelow : Below B w w3 := ((hBl'.out.trans (hb2.mono hB6)).alloc (by omega) (.cells #[.string x] 9)).grown hgrow2 (by simp; omega) (fun i e => by
          rcases Nat.lt_or_ge i (B + 8) with h | h
          · exact absurd e.symm (hne i h)
          · omega)
        rw [hsz]
        refine ⟨⟨kp _ (by omega) (by omega), kp _ (by omega) (by omega), kp _ (by omega) (by omega), kp _ (by omega) (by omega), kp _ (by omega) (by omega)⟩,
          ⟨⟨_, box_keep ((hA2.alloc _).kept hgrow2 (hne B (by omega))) (grownBy_setCell' w3 (B + 2) _) (by omega), box_keep ((hE2.alloc _).kept hgrow2 (hne (B + 1) (by omega))) (grownBy_setCell' w3 (B + 2) _) (by omega), hL3.set _, ?_⟩,
            hbelow.setCell (p := ⟨B + 2, 0, none⟩) (by simp) _, HN2.out⟩⟩
        rw [htk, List.map_append]
        exact row_keep hown' (grownBy_setCell' w3 (B + 2) _) (by omega)
    case done =>
      rintro W ⟨⟨v, hA, hE, hL, hrow⟩, hBl, hN⟩ hK
      rw [List.drop_length] at hN
      have hbq : true = bq := Option.some.inj hN
      subst hbq
      rw [if_pos rfl] at hres
      simp only [Option.some.injEq, Prod.mk.injEq] at hres
      obtain ⟨rfl, rfl⟩ := hres
      have cA := hA.cell
      have fA := hA.frozen
      have cE := hE.cell
      have fE := hE.frozen
      have cL := hL.cell
      obtain ⟨Av, cv, rfl⟩ := own_slice hrow
      have hrow' := Aside0.mk hrow
      clear hrow
      rw [hsz] at hK ⊢
      gi_wp2
      have hK2 : ((W.setCell ⟨B, 0, none⟩ (.slice Av (pieces 47 a0).length cv)).setCell ⟨B + 1, 0, none⟩ (.int .i64 0)).heap[B + 6]? = some (.deferred (some [])) := (Below.heap_setCell _ _ _ (B + 6) (by simp)).trans ((Below.heap_setCell _ _ _ (B + 6) (by simp)).trans hK)
      refine ⟨by simp, .inl ⟨_, _, rfl, run_takeDeferred hK2, ?_⟩⟩
      have hgr := grownBy_putObj' ((W.setCell ⟨B, 0, none⟩ (.slice Av (pieces 47 a0).length cv)).setCell ⟨B + 1, 0, none⟩ (.int .i64 0)) (B + 6) (.deferred none)
      have hA2 := box_keep (box_keep (hA.set (.slice Av (pieces 47 a0).length cv)) (grownBy_setCell' _ (B + 1) (.int .i64 0)) (by omega)) hgr (by omega)
      have hE2 := box_keep ((box_keep hE (grownBy_setCell' W B (.slice Av (pieces 47 a0).length cv)) (by omega)).set (.int .i64 0)) hgr (by omega)
      have hrow2 := row_keep (row_keep (row_keep hrow'.out (grownBy_setCell' W B (.slice Av (pieces 47 a0).length cv)) (by omega)) (grownBy_setCell' _ (B + 1) (.int .i64 0)) (by omega)) hgr (by omega)
      have hBl2 := ((hBl.setCell (p := ⟨B, 0, none⟩) (Nat.le_refl _) (.slice Av (pieces 47 a0).length cv)).setCell (p := ⟨B + 1, 0, none⟩) (by simp) (.int .i64 0)).grown hgr (by simp; have := hL.lt; omega) (fun i e => by cases e; omega)
      refine ⟨_, parts_results _ _ B _ 0 Av _ cv rfl rfl rfl hA2.cell hE2.cell, _, rfl, Kd.R_of_own ?_ (fun _ _ => trivial), by rw [hB]; exact hBl2⟩
      rw [List.take_length] at hrow2
      rw [hB]
      exact own_weaken hrow2 (by omega)
    case stop =>
      rintro c W ⟨rfl, hbq, hA, hE, hBl⟩ hK
      subst hbq
      rw [if_neg (by decide)] at hres
      simp only [Option.some.injEq, Prod.mk.injEq] at hres
      obtain ⟨rfl, rfl⟩ := hres
      rw [hsz] at hK ⊢
      gi_wp2
      refine ⟨by simp, .inl ⟨_, _, rfl, run_takeDeferred hK, ?_⟩⟩
      have hgr := grownBy_putObj' W (B + 6) (.deferred none)
      have hltk : B + 6 < W.heap.size := (Array.getElem?_eq_some_iff.1 hK).1
      refine ⟨_, parts_results _ _ B _ 8 none 0 0 rfl rfl rfl (box_keep hA hgr (by omega)).cell (box_keep hE hgr (by omega)).cell, _, rfl, Kd.R_nil _ _ _ _ _, ?_⟩
      rw [hB]
      exact hBl.grown hgr (by omega) (fun i e => by cases e; omega)
end Go.Proofs.YtpjanlpjjemenaaDoor.Hand
