import Derived.Test.YtgjckdkpkgmbkaaCS5
import Derived.Deep.Slices
import Derived.ChangeArms
import Derived.WideShapes
import Derived.DataReads
import Derived.OpenShut
import Derived.Test.YtgjckdkpkgmbkaaRows
import Derived.ProofKit
import Derived.ShutString
import Derived.ChangeOld
import Derived.SizedLaws
import Derived.LaidMore
import Derived.Lay
import Derived.SevenTiedAt
import Derived.Stop.Joined
/- ScriptBack: what is laid is parsed as the same events, what is parsed is laid as the same bytes, for all events and all bytes. -/
namespace Go.Proofs.Ytgjckdkpkgmbkaa.Pure
open Go.RowKit Go.Proofs.Ytgjckdkpkgmbkaa.P Go.Proofs.Ytgjckdkpkgmbkaa.Hand Go.Proofs.Ytgjckdkpkgmbkaa.Q Go.Proofs.YtgjckdkpkgmbkaaW.PrintWords Go.Proofs.YtgjckdkpkgmbkaaW.PrintLast
abbrev Src := S41
def conv (x : Src) : Ev := ⟨x.f0, x.f1, x.f2, x.f3, ⟨x.f4.f0, x.f4.f1, ⟨x.f4.f2.f0, x.f4.f2.f1, x.f4.f2.f2, x.f4.f2.f3⟩⟩, x.f5⟩
theorem rd_src (pre suf : List Src) (x : Src) : rd_T41 (pre ++ x :: suf) (pre.length : Int) = x := by
  simp [rd_T41]
theorem far_loop (l0 y : List Src) (hy : y.length ≤ 3100) (d : Nat) : ∀ (i : Int), 0 ≤ i → i = y.length - d → ∃ t, (∀ k, d < k → thwartlaw33_far.l0 k l0 y (y.length : Int) i = some t) ∧ (t = false → l0.length ≤ 3100) := by
  induction d with
  | zero =>
    intro i h0 hi
    have fin : ∃ t, (if (l0.length : Int) > 30 then (if (l0.length : Int) ≤ 3000 then (some true) else (some (decide ((l0.length : Int) > 3100)))) else (some (decide ((l0.length : Int) > 3100)))) = some t ∧ (t = false → l0.length ≤ 3100) := by
      split
      · split
        · exact ⟨_, rfl, fun h => by cases h⟩
        · exact ⟨_, rfl, fun h => by have := of_decide_eq_false h; omega⟩
      · exact ⟨_, rfl, fun h => by have := of_decide_eq_false h; omega⟩
    obtain ⟨t, ht, hf⟩ := fin
    refine ⟨t, fun k hk => ?_, hf⟩
    obtain ⟨k, rfl⟩ : ∃ m, k = m + 1 := ⟨k - 1, by omega⟩
    simp only [thwartlaw33_far.l0]
    rw [if_neg (by omega)]
    exact ht
  | succ d ih =>
    intro i h0 hi
    by_cases h : (((rd_T41 y i).f5).length : Int) > 500
    · refine ⟨true, fun k hk => ?_, fun h => by cases h⟩
      obtain ⟨k, rfl⟩ : ∃ m, k = m + 1 := ⟨k - 1, by omega⟩
      simp only [thwartlaw33_far.l0]
      rw [if_pos (by omega), if_pos (by omega), if_pos (by omega), if_pos h]
    · obtain ⟨t, ht, hf⟩ := ih (i + 1) (by omega) (by omega)
      refine ⟨t, fun k hk => ?_, hf⟩
      obtain ⟨k, rfl⟩ : ∃ m, k = m + 1 := ⟨k - 1, by omega⟩
      simp only [thwartlaw33_far.l0]
      rw [if_pos (by omega), if_pos (by omega), if_pos (by omega), if_neg h, wr (i + 1) (by omega) (by omega)]
      exact ht k (by omega)
theorem far_ev (l0 : List Src) : ∃ t, Evt (fun k => thwartlaw33_far.f k l0) t ∧ (t = false → l0.length ≤ 3100) := by
  have hm : 0 ≤ mn (l0.length : Int) 3100 ∧ mn (l0.length : Int) 3100 ≤ l0.length ∧ mn (l0.length : Int) 3100 ≤ 3100 := by unfold mn; split <;> omega
  obtain ⟨t, ht, hf⟩ := far_loop l0 (l0.take (mn (l0.length : Int) 3100).toNat) (by rw [List.length_take]; omega) (l0.take (mn (l0.length : Int) 3100).toNat).length 0 (by omega) (by omega)
  refine ⟨t, ⟨(l0.take (mn (l0.length : Int) 3100).toNat).length + 1, fun k hk => ?_⟩, hf⟩
  show thwartlaw33_far.f k l0 = _
  unfold thwartlaw33_far.f
  rw [if_pos hm.1, if_pos hm.2.1, Option.bind_some]
  exact ht k (by omega)
theorem all_loop : ∀ (suf pre : List Src) (acc : List Ev), (pre ++ suf).length ≤ 3100 → acc.length + suf.length ≤ 3100 → ∀ k, suf.length < k → thwartlaw33_all.l0 k acc (pre ++ suf) ((pre ++ suf).length : Int) (pre.length : Int) = some (acc ++ suf.map conv)
  | [], pre, acc, _, _, k, hk => by
    obtain ⟨k, rfl⟩ : ∃ m, k = m + 1 := ⟨k - 1, by omega⟩
    simp only [thwartlaw33_all.l0, List.append_nil]
    rw [if_neg (by omega)]
    simp
  | x :: suf, pre, acc, h1, h2, k, hk => by
    obtain ⟨k, rfl⟩ : ∃ m, k = m + 1 := ⟨k - 1, by omega⟩
    simp only [List.length_cons, List.length_append] at h1 h2 hk
    have ih := all_loop suf (pre ++ [x]) (acc ++ [conv x]) (by simp; omega) (by simp; omega) k (by omega)
    rw [show pre ++ [x] ++ suf = pre ++ x :: suf by simp, show (((pre ++ [x]).length : Nat) : Int) = (pre.length : Int) + 1 by simp] at ih
    simp only [thwartlaw33_all.l0]
    rw [rd_src, if_pos (by simp only [List.length_append, List.length_cons]; omega), if_pos (by omega), if_pos (by simp only [List.length_append, List.length_cons]; omega)]
    simp only [thwartlaw33_theirs.f, Option.bind_some]
    rw [if_pos (by omega), wr _ (by omega) (by omega)]
    refine Eq.trans ih ?_
    simp
theorem all_ev (l : List Src) (h : l.length ≤ 3100) : Evt (fun k => thwartlaw33_all.f k l) (l.map conv) := by
  refine ⟨l.length + 1, fun k hk => ?_⟩
  have := all_loop l [] [] (by simpa using h) (by simpa using h) k (by omega)
  simpa [thwartlaw33_all.f] using this
theorem same_at (l : List Ev) (x : Int) : sameAt l l x = some true := by
  simp [sameAt, script_same.f, equal_self]
theorem same_loop2 (l : List Ev) (d : Nat) : ∀ (n : Nat) (i : Int), 0 ≤ i → i = l.length - d → d ≤ n → script_Same.l0 l l n i = some true := by
  induction d with
  | zero =>
    intro n i _ hi _
    cases n <;> simp only [script_Same.l0] <;> rw [if_neg (by omega)]
  | succ d ih =>
    intro n i h0 hi hn
    obtain ⟨n, rfl⟩ : ∃ m, n = m + 1 := ⟨n - 1, by omega⟩
    simp only [script_Same.l0]
    by_cases h : i < (l.length : Int)
    · rw [if_pos h, same_at, Option.bind_some, if_pos rfl]
      exact ih n (i + 1) (by omega) (by omega) (by omega)
    · rw [if_neg h]
theorem same_self2 (l : List Ev) : script_Same.f l l = some true := by
  unfold script_Same.f
  rw [if_pos rfl]
  exact same_loop2 l l.length l.length 0 (by omega) (by omega) (Nat.le_refl _)
theorem same_loop1 (a : List Int) (hs : a.length ≤ 100000000) (d : Nat) : ∀ (k i : Nat), i ≤ a.length → a.length - i = d → d < k → thwartref01_Same.l0 k a a (i : Int) = some true := by
  induction d with
  | zero =>
    intro k i h1 hd hk
    obtain ⟨k, rfl⟩ : ∃ m, k = m + 1 := ⟨k - 1, by omega⟩
    simp only [thwartref01_Same.l0]; rw [if_neg (by omega)]
  | succ d ih =>
    intro k i h1 hd hk
    obtain ⟨k, rfl⟩ : ∃ m, k = m + 1 := ⟨k - 1, by omega⟩
    simp only [thwartref01_Same.l0]
    rw [if_pos (by omega), if_pos (by omega), if_pos (by omega), if_pos trivial, wr _ (by omega) (by omega)]
    exact ih k (i + 1) (by omega) (by omega) (by omega)
theorem same_ev (a : List Int) (hs : a.length ≤ 100000000) : Evt (fun k => thwartref01_Same.f k a a) true := by
  refine ⟨a.length + 1, fun k hk => ?_⟩
  show thwartref01_Same.f k a a = _
  unfold thwartref01_Same.f
  rw [if_pos rfl]
  exact same_loop1 a hs a.length k 0 (Nat.zero_le _) (by omega) (by omega)
def tick : Ev := ⟨1, -1, 0, 0, ⟨0, 0, ⟨0, 0, 0, 0⟩⟩, []⟩
theorem tick_right : Right tick := by simp [Right, tick]
theorem tick_fits : Fits tick := by simp [Fits, tick, Bytes]
theorem alive_ev : Evt thwartlaw33_alive.f true := by
  obtain ⟨res, hE, h1, _⟩ := lay_any [tick] (fun x hx => by rw [List.mem_singleton.1 hx]; exact tick_fits)
  have hres := h1 (fun x hx => by rw [List.mem_singleton.1 hx]; exact tick_right) (by simp)
  subst hres
  have hp := parse_laid [tick] (fun x hx => by rw [List.mem_singleton.1 hx]; exact ⟨tick_right, tick_fits⟩) (by simp)
  obtain ⟨K1, e1⟩ := hE
  obtain ⟨K2, e2⟩ := hp
  have hl15 : (Q.encs [tick]).length = 15 := rfl
  have hlen : ((sealed ([87, 83] ++ Q.encs [tick])).length : Int) = 21 := by
    obtain ⟨s, h4, _⟩ := csum_spec ([87, 83] ++ Q.encs [tick]) (by simp only [List.length_append, hl15]; decide)
    unfold sealed
    rw [List.length_append, h4, List.length_append, hl15]
    rfl
  have hrd : rd_T44 [tick] 0 = tick := rfl
  have hq : script_Quiet.f tick.f0 tick.f1 tick.f2 tick.f3 tick.f4.f0 tick.f4.f1 tick.f4.f2.f0 tick.f4.f2.f1 tick.f4.f2.f2 tick.f4.f2.f3 tick.f5 = some true := by
    unfold script_Quiet.f
    rw [within_is]; simp [tick]
  have hc : ∀ k, script_Counts.f k [tick] = some 1 := fun k => by unfold script_Counts.f; rw [if_pos ⟨rfl, rfl⟩]
  have hm : script_May.f 0 0 0 0 0 0 0 0 0 0 ([] : List Int) = some 11 := by
    unfold script_May.f
    rw [within_is]; simp
  refine ⟨K1 + K2, fun k hk => ?_⟩
  unfold thwartlaw33_alive.f
  have q1 : script_Lay.f k [tick] = _ := e1 k (by omega)
  have q2 : script_Parse.f k (sealed ([87, 83] ++ Q.encs [tick])) = _ := e2 k (by omega)
  rw [show ([(⟨1, (-1), 0, 0, (⟨0, 0, (⟨0, 0, 0, 0⟩ : S37)⟩ : S42), ([] : List Int)⟩ : Ev)] : List Ev) = [tick] from rfl, q1, Option.bind_some, q2, Option.bind_some]
  dsimp only
  rw [if_pos hlen, if_pos (show (0 : Int) = 0 from rfl), if_pos (show (([tick].length : Nat) : Int) = 1 from rfl), if_pos (show (0 : Int) < (([tick].length : Nat) : Int) from by simp), hrd, if_pos (show tick.f1 = -1 from rfl), if_pos (show (0 : Int) = 0 from rfl), hq, Option.bind_some, if_pos (show true = true from rfl), hc, Option.bind_some, if_pos (show (1 : Int) = 1 from rfl), hm, Option.bind_some]
  rfl
theorem wf8 {x : Int} (h : (Lit.int .u8 x).wf = true) : 0 ≤ x ∧ x < 256 := by
  simp only [Lit.wf, IntKind.min, IntKind.max, IntKind.signed, IntKind.bits, Bool.and_eq_true, decide_eq_true_eq] at h
  simp at h
  omega
theorem wf16 {x : Int} (h : (Lit.int .u16 x).wf = true) : 0 ≤ x ∧ x < 65536 := by
  simp only [Lit.wf, IntKind.min, IntKind.max, IntKind.signed, IntKind.bits, Bool.and_eq_true, decide_eq_true_eq] at h
  simp at h
  omega
theorem j1_ev (b : List Int) (hl : b.length ≤ 2000) (hb : Bytes b) : Evt (fun k => thwartlaw33_ScriptBack.j1 k b) true := by
  obtain ⟨⟨l, e⟩, hp, h1, h2⟩ := parse_all b (by omega) hb
  obtain ⟨K, ha⟩ := alive_ev
  obtain ⟨K1, hp⟩ := hp
  by_cases he : e = 0
  · subst he
    obtain ⟨q1, q2, q3⟩ := h2 rfl
    obtain ⟨res, ⟨K2, hL⟩, r1, _⟩ := lay_any l (fun x hx => (q1 x hx).2)
    have hres := r1 (fun x hx => (q1 x hx).1) q2
    rw [← q3] at hres
    subst hres
    obtain ⟨K3, hS⟩ := same_ev b (by omega)
    refine ⟨K + K1 + K2 + K3 + 1, fun k hk => ?_⟩
    obtain ⟨k, rfl⟩ : ∃ m, k = m + 1 := ⟨k - 1, by omega⟩
    simp only [thwartlaw33_ScriptBack.j1]
    rw [(show script_Parse.f k b = _ from hp k (by omega)), Option.bind_some, if_pos rfl, (show script_Lay.f k l = _ from hL k (by omega)), Option.bind_some, if_pos rfl, (show thwartref01_Same.f k b b = _ from hS k (by omega)), Option.bind_some, if_pos rfl, ha k (by omega)]
    rfl
  · have hn := h1 he
    dsimp only at hn
    subst hn
    refine ⟨K + K1 + 1, fun k hk => ?_⟩
    obtain ⟨k, rfl⟩ : ∃ m, k = m + 1 := ⟨k - 1, by omega⟩
    simp only [thwartlaw33_ScriptBack.j1]
    rw [(show script_Parse.f k b = _ from hp k (by omega)), Option.bind_some, if_neg he, if_pos (by simp), ha k (by omega)]
    rfl
theorem j0_true (l : List Src) (b : List Int) : Evt (fun k => thwartlaw33_ScriptBack.j0 k l b true) true := by
  obtain ⟨K, ha⟩ := alive_ev
  refine ⟨K + 1, fun k hk => ?_⟩
  obtain ⟨k, rfl⟩ : ∃ m, k = m + 1 := ⟨k - 1, by omega⟩
  simp only [thwartlaw33_ScriptBack.j0]
  rw [if_pos trivial, ha k (by omega)]
  rfl
theorem j0_false (l : List Src) (b : List Int) (hn : l.length ≤ 3100) (hf : ∀ x ∈ l, Fits (conv x)) (hl : b.length ≤ 2000) (hb : Bytes b) : Evt (fun k => thwartlaw33_ScriptBack.j0 k l b false) true := by
  obtain ⟨K0, hA⟩ := all_ev l hn
  obtain ⟨K1, hJ⟩ := j1_ev b hl hb
  have hf' : ∀ x ∈ l.map conv, Fits x := fun x hx => by
    obtain ⟨y, hy, rfl⟩ := List.mem_map.1 hx
    exact hf y hy
  obtain ⟨⟨s, e⟩, ⟨K2, hL⟩, r1, r2⟩ := lay_any (l.map conv) hf'
  by_cases he : e = 0
  · obtain ⟨q1, q2⟩ := r2 he
    have hres := r1 q1 q2
    rw [Prod.mk.injEq] at hres
    obtain ⟨rfl, rfl⟩ := hres
    obtain ⟨K3, hP⟩ := parse_laid (l.map conv) (fun x hx => ⟨q1 x hx, hf' x hx⟩) q2
    refine ⟨K0 + K1 + K2 + K3 + 1, fun k hk => ?_⟩
    obtain ⟨k, rfl⟩ : ∃ m, k = m + 1 := ⟨k - 1, by omega⟩
    simp only [thwartlaw33_ScriptBack.j0]
    rw [if_neg (by simp), (show thwartlaw33_all.f k l = _ from hA k (by omega)), Option.bind_some, (show script_Lay.f k (l.map conv) = _ from hL k (by omega)), Option.bind_some, if_pos rfl, (show script_Parse.f k (sealed _) = _ from hP k (by omega)), Option.bind_some, Option.bind_some, same_self2, Option.bind_some, if_pos rfl, if_pos rfl]
    exact hJ k (by omega)
  · refine ⟨K0 + K1 + K2 + 1, fun k hk => ?_⟩
    obtain ⟨k, rfl⟩ : ∃ m, k = m + 1 := ⟨k - 1, by omega⟩
    simp only [thwartlaw33_ScriptBack.j0]
    rw [if_neg (by simp), (show thwartlaw33_all.f k l = _ from hA k (by omega)), Option.bind_some, (show script_Lay.f k (l.map conv) = _ from hL k (by omega)), Option.bind_some, if_neg he]
    exact hJ k (by omega)
theorem ScriptBack : P.thwartlaw33_ScriptBack.Pure := by
  intro l0 l1 _ hw _ hb
  have hB : Bytes l1 := fun y hy => wf8 (hb y hy)
  obtain ⟨t, ⟨K, hT⟩, hf⟩ := far_ev l0
  have key : ∃ k, K ≤ k ∧ (if t = true then (thwartlaw33_ScriptBack.j0 k l0 l1 true) else (thwartlaw33_ScriptBack.j0 k l0 l1 (decide ((l1.length : Int) > 2000)))) = some true := by
    cases t with
    | true =>
      obtain ⟨K1, h⟩ := j0_true l0 l1
      exact ⟨K + K1, by omega, by rw [if_pos rfl]; exact h _ (by omega)⟩
    | false =>
      by_cases hl : (l1.length : Int) > 2000
      · obtain ⟨K1, h⟩ := j0_true l0 l1
        exact ⟨K + K1, by omega, by rw [if_neg (by simp), decide_eq_true hl]; exact h _ (by omega)⟩
      · obtain ⟨K1, h⟩ := j0_false l0 l1 (hf rfl) (fun x hx => by
          obtain ⟨_, _, _, h3, ⟨_, h4, b0, b1, b2, b3⟩, _, h5⟩ := hw x hx
          exact ⟨wf8 h3, wf16 h4, wf8 b0, wf8 b1, wf8 b2, wf8 b3, fun y hy => wf8 (h5 y hy)⟩) (by omega) hB
        exact ⟨K + K1, by omega, by rw [if_neg (by simp), decide_eq_false hl]; exact h _ (by omega)⟩
  obtain ⟨k, hk, h⟩ := key
  exact ⟨k, by unfold thwartlaw33_ScriptBack.f; rw [(show thwartlaw33_far.f k l0 = _ from hT k hk), Option.bind_some]; exact h⟩
end Go.Proofs.Ytgjckdkpkgmbkaa.Pure

/- What came in, opened by its type: whatever a kind of the printed words tells (numbers, texts, structs, slices of these, one in the other). No function of the program occurs. -/
namespace Go.Proofs.Ytgjckdkpkgmbkaa.Open
open Go Go.ChangeShapes Go.WideShapes Go.Deep Go.Proofs.YtgjckdkpkgmbkaaW.PrintWords
set_option linter.unusedVariables false
set_option linter.unusedSimpArgs false

structure Opens {α : Type} (P : Program) (d : Kd α) (t : TypeId) (Wf : α → Prop) : Prop where
  sz : P.cellsOf t = d.sz
  go : ∀ {H : Type} {enc : TypeId × Value → H} {w : World} {base : Nat} {spare : Nat → Bool} {held : Bool} {fuel : Nat} {cs : List Value} {x : DataW H × List MemPlace},
    DataW.trod enc P w base spare held fuel t cs = some x → ∃ a, d.K w a cs ∧ Wf a
theorem int {P : Program} {k : IntKind} {t : TypeId} (ht : P.underlying t = some (.int k)) (hs : P.cellsOf t = 1) : Opens P (Kd.int k) t (fun n => (Lit.int k n).wf = true) :=
  ⟨hs, fun h => by
    obtain ⟨n, rfl, _, hw⟩ := DataW.trod_int ht h
    exact ⟨n, rfl, hw⟩⟩
theorem bool {P : Program} {t : TypeId} (ht : P.underlying t = some .bool) (hs : P.cellsOf t = 1) : Opens P Kd.bool t (fun _ => True) :=
  ⟨hs, fun h => by
    obtain ⟨n, rfl, _⟩ := DataW.trod_bool ht h
    exact ⟨n, rfl, trivial⟩⟩
theorem string {P : Program} {t : TypeId} (ht : P.underlying t = some .string) (hs : P.cellsOf t = 1) : Opens P Kd.string t (fun s => s.size ≤ 9223372036854775807) :=
  ⟨hs, fun h => by
    obtain ⟨n, rfl, _, hw⟩ := DataW.trod_string ht h
    exact ⟨n, rfl, hw⟩⟩
/-- A list of choices, one an index. -/
theorem choices {α : Type} (n : Nat) (p : Nat → α → Prop) (h : ∀ i, i < n → ∃ a, p i a) : ∃ l : List α, l.length = n ∧ ∀ i a, l[i]? = some a → p i a := by
  induction n with
  | zero => exact ⟨[], rfl, fun i a hi => by simp at hi⟩
  | succ n ih =>
    obtain ⟨l, hl, hp⟩ := ih (fun i hi => h i (by omega))
    obtain ⟨a, ha⟩ := h n (by omega)
    refine ⟨l ++ [a], by simp [hl], fun i b hi => ?_⟩
    rw [List.getElem?_append] at hi
    split at hi
    · exact hp i b hi
    · rename_i hlt
      have : i = n := by
        have := (List.getElem?_eq_some_iff.1 hi).1
        simp at this; omega
      subst this
      rw [hl, Nat.sub_self] at hi
      cases hi
      exact ha
theorem row {α : Type} {P : Program} {d : Kd α} {t e : TypeId} {Wf : α → Prop} (ht : P.underlying t = some (.slice e)) (o : Opens P d e Wf)
    {H : Type} {enc : TypeId × Value → H} {w : World} {base : Nat} {spare : Nat → Bool} {held : Bool} {fuel : Nat} {cs : List Value} {x : DataW H × List MemPlace} (h : DataW.trod enc P w base spare held fuel t cs = some x) :
    ∃ (A : Option Addr) (c : Nat) (l : List α), cs = [.slice A l.length c] ∧ l.length ≤ c ∧ l.length ≤ 9223372036854775807 ∧ Kd.C d w A l.length l ∧ ∀ a ∈ l, Wf a := by
  rcases open_slice ht h with ⟨rfl, _⟩ | ⟨a, len, cap, m, n, D, Pl, rfl, _, hl, hm, hmm, _, hi⟩
  · exact ⟨none, 0, [], rfl, Nat.le_refl _, by simp, ⟨rfl, by simp, fun h => absurd h (by simp)⟩, by simp⟩
  · have hlm : len ≤ m := by rw [hmm]; split <;> omega
    have hm' : cap ≤ 9223372036854775807 := hm
    obtain ⟨l, hll, hp⟩ := choices len (fun i (b : α) => (∃ c, c.length = d.sz ∧ d.K w b c ∧ ∀ j u, c[j]? = some u → w.cell? (a.add (i * d.sz + j)) = some u) ∧ Wf b) (fun i hil => by
      obtain ⟨cs', hc, ht'⟩ := hi i (by omega)
      obtain ⟨b, hK, hW⟩ := o.go ht'
      rw [o.sz] at hc
      obtain ⟨_, hcl, hat⟩ := World.cells?_some hc
      refine ⟨b, ⟨cs', hcl, hK, fun j u hj => ?_⟩, hW⟩
      have hjl : j < d.sz := by rw [← hcl]; exact (List.getElem?_eq_some_iff.1 hj).1
      rw [← Go.Deep.add_add, hat j hjl, hj])
    refine ⟨some a, cap, l, by rw [hll], by omega, by omega, ⟨rfl, by omega, fun _ => ⟨a, rfl, fun j p hj => (hp j p hj).1⟩⟩, fun b hb => ?_⟩
    obtain ⟨i, hi'⟩ := List.getElem?_of_mem hb
    exact (hp i b hi').2
theorem slice {α : Type} {P : Program} {d : Kd α} {t e : TypeId} {Wf : α → Prop} (ht : P.underlying t = some (.slice e)) (hs : P.cellsOf t = 1) (o : Opens P d e Wf) : Opens P (Kd.slice e d) t (fun l => l.length ≤ 9223372036854775807 ∧ ∀ a ∈ l, Wf a) :=
  ⟨hs, fun h => by
    obtain ⟨A, c, l, rfl, hl, hm, hC, hW⟩ := row ht o h
    exact ⟨l, ⟨A, c, rfl, hl, hC⟩, hm, hW⟩⟩
/-- A part of a struct's fields, that begins at a cell. -/
def Part {α : Type} (P : Program) (d : Kd α) (off : Nat) (fs : List Field) (Wf : α → Prop) : Prop :=
  ∀ {H : Type} {enc : TypeId × Value → H} {w : World} {base : Nat} {spare : Nat → Bool} {held : Bool} {n : Nat} {cs : List Value},
    (∀ f ∈ fs, ∃ y, DataW.trod enc P w base spare held n f.type ((cs.drop f.offset).take (P.cellsOf f.type)) = some y) → ∃ a, d.K w a ((cs.drop off).take d.sz) ∧ Wf a
theorem part_one {α : Type} {P : Program} {d : Kd α} {off : Nat} {f : Field} {Wf : α → Prop} (o : Opens P d f.type Wf) (ho : f.offset = off) : Part P d off [f] Wf := by
  intro H enc w base spare held n cs h
  obtain ⟨y, hy⟩ := h f (by simp)
  rw [ho, o.sz] at hy
  exact o.go hy
theorem part_pair {α β : Type} {P : Program} {a : Kd α} {b : Kd β} {off : Nat} {fs gs : List Field} {Wa : α → Prop} {Wb : β → Prop} (ha : Part P a off fs Wa) (hb : Part P b (off + a.sz) gs Wb) :
    Part P (Kd.pair a b) off (fs ++ gs) (fun x => Wa x.1 ∧ Wb x.2) := by
  intro H enc w base spare held n cs h
  obtain ⟨x, hx, wx⟩ := ha (fun f hf => h f (List.mem_append_left _ hf))
  obtain ⟨y, hy, wy⟩ := hb (fun f hf => h f (List.mem_append_right _ hf))
  refine ⟨(x, y), ⟨_, _, ?_, hx, hy⟩, wx, wy⟩
  show (cs.drop off).take (a.sz + b.sz) = _
  rw [List.take_add, List.drop_drop]
theorem struct {α : Type} {P : Program} {d : Kd α} {t : TypeId} {fs : Array Field} {Wf : α → Prop} (ht : P.underlying t = some (.struct fs)) (hs : P.cellsOf t = d.sz) (p : Part P d 0 fs.toList Wf) : Opens P d t Wf :=
  ⟨hs, fun {H enc w base spare held fuel cs x} h => by
    obtain ⟨xs, n, _, _, hlen, hxl, hf⟩ := DataW.trod_struct ht h
    obtain ⟨a, hK, hW⟩ := p (enc := enc) (w := w) (base := base) (spare := spare) (held := held) (n := n) (cs := cs) (fun f hm => by
      obtain ⟨i, hi⟩ := List.getElem?_of_mem hm
      have hi' : fs[i]? = some f := by rw [← Array.getElem?_toList]; exact hi
      have hil : i < xs.length := by rw [hxl]; exact (Array.getElem?_eq_some_iff.1 hi').1
      exact ⟨xs[i], by rw [hf i f hi', List.getElem?_eq_getElem hil]⟩)
    rw [List.drop_zero, List.take_of_length_le (by omega)] at hK
    exact ⟨a, hK, hW⟩⟩
/-- An element of an array, as a field. -/
def fld (e i : Nat) : Field := { name := "", type := e, offset := i, embedded := false, tag := "", pkgPath := "", byteOffset := 0 }
theorem array {α : Type} {P : Program} {d : Kd α} {t e : TypeId} {n : Nat} {fs : List Field} {Wf : α → Prop} (ht : P.underlying t = some (.array n e)) (hs : P.cellsOf t = d.sz) (hfs : ∀ f ∈ fs, f.type = e ∧ ∃ i, i < n ∧ f.offset = i * P.cellsOf e) (p : Part P d 0 fs Wf) : Opens P d t Wf :=
  ⟨hs, fun {H enc w base spare held fuel cs x} h => by
    obtain ⟨xs, m, _, _, hlen, hxl, hf⟩ := DataW.trod_array ht h
    obtain ⟨a, hK, hW⟩ := p (enc := enc) (w := w) (base := base) (spare := spare) (held := held) (n := m) (cs := cs) (fun f hm => by
      obtain ⟨h1, i, hi, h2⟩ := hfs f hm
      refine ⟨xs[i], ?_⟩
      rw [h1, h2, hf i hi, List.getElem?_eq_getElem (by omega)])
    rw [List.drop_zero, List.take_of_length_le (by omega)] at hK
    exact ⟨a, hK, hW⟩⟩
theorem iso {α β : Type} {P : Program} {d : Kd α} {t : TypeId} {Wf : α → Prop} (o : Opens P d t Wf) (f : β → α) (g : α → β) (h : ∀ x, f (g x) = x) : Opens P (Kd.iso d f) t (fun b => Wf (f b)) :=
  ⟨o.sz, fun h' => by
    obtain ⟨a, hK, hW⟩ := o.go h'
    refine ⟨g a, ?_, by rw [h]; exact hW⟩
    show d.K _ (f (g a)) _
    rw [h]; exact hK⟩
end Go.Proofs.Ytgjckdkpkgmbkaa.Open

/- The statement of ScriptBack for every input, out of its pure statement and the printed walk. -/
namespace Go.Proofs.Ytgjckdkpkgmbkaa.scriptBack
open Go Go.ChangeShapes Go.WideShapes Go.ChangeAt Go.RowKit Go.Proofs.YtgjckdkpkgmbkaaW.PrintWords
open Go.ChangeMaps (open_string shut_string)
set_option linter.unusedVariables false
set_option linter.unusedSimpArgs false
theorem own : ownKnob Try.prog.godebug = none := by kernel_rfl
theorem laidOut : laidOutB Try.prog = true := by kernel_rfl
set_option maxRecDepth 100000 in
theorem lifted (os : Os) (started : os.Started) (H : Type) (enc : TypeId × Value → H) :
    ReturnsInHanded {} Try.checked os 3 .any (Rows.scriptBackSpec.pre6 enc Try.prog Try.f3 Rows.scriptBackRow.domain false) (Rows.scriptBackSpec.post enc Try.prog Try.f3 false true false false) := by
  refine returnsInHanded_of_change_sized (C := Try.checked) own started (by kernel_rfl) Try.func3
    (ChangeSpec.witness6 (enc := enc) (C := Try.checked) false ⟨#[], #[.slice none 0 0, .slice none 0 0], []⟩ 8 (by kernel_rfl) (by kernel_rfl) (by kernel_rfl) (by kernel_rfl)) ?_
  intro W base args ds gs before hval0 hW hcnd hsz0 _
  have hsz : (DataW.weightsEach Try.prog (Try.f3.params.toList ++ Rows.scriptBackSpec.plain.varTypes Try.prog) (ds ++ gs)).all (· ≤ reachBytes) = true := hsz0
  have hval : ∀ (j : Nat) t v, Try.f3.params[j]? = some t → args[j]? = some v → Value.okWide Try.prog W .any base t v := hval0
  have hW' := hW
  obtain ⟨p, q, hA0, hV, rfl, hfz, hnd⟩ := hW
  have hA : DataW.TrodAll enc Try.prog W 0 (fun _ => true) true Try.f3.params.toList args.toList ds p := hA0
  rw [Try.params3] at hA hval hsz
  obtain ⟨v0, vs0, d0, ds0, p0, q0, hargs, rfl, rfl, h0, r0⟩ := trodAll_cons hA
  obtain ⟨v1, vs1, d1, ds1, p1, q1, rfl, rfl, rfl, h1, r1⟩ := trodAll_cons r0
  obtain ⟨rfl, rfl, rfl⟩ := trodAll_nil r1
  obtain rfl : args = #[v0, v1] := by cases args; simp_all
  obtain ⟨rfl, rfl⟩ := trodVars_none hV
  obtain ⟨a0, len0, cap0, rfl⟩ := okWide_slice Try.underlying22 (hval 0 22 v0 rfl rfl)
  have k0 := h0
  have lt0 : ∀ x ∈ p0, x.block < W.heap.size := by obtain ⟨m, hm⟩ := k0; exact DataW.trod_lt m _ _ _ hm
  obtain ⟨l0, rfl, hc0, hm0, hr0, hw0⟩ : ∃ l : List P.S41, len0 = l.length ∧ l.length ≤ cap0 ∧ l.length ≤ 9223372036854775807 ∧ Kd.C P.k41 W a0 l.length l ∧ (∀ x ∈ l, ((Lit.int .i64 x.f0).wf = true) ∧ ((Lit.int .i64 x.f1).wf = true) ∧ ((Lit.int .i64 x.f2).wf = true) ∧ ((Lit.int .u8 x.f3).wf = true) ∧ (((Lit.int .i64 x.f4.f0).wf = true) ∧ ((Lit.int .u16 x.f4.f1).wf = true) ∧ (((Lit.int .u8 x.f4.f2.f0).wf = true) ∧ ((Lit.int .u8 x.f4.f2.f1).wf = true) ∧ ((Lit.int .u8 x.f4.f2.f2).wf = true) ∧ ((Lit.int .u8 x.f4.f2.f3).wf = true))) ∧ (x.f5.length ≤ 9223372036854775807 ∧ ∀ y ∈ x.f5, (Lit.int .u8 y).wf = true)) := by
    obtain ⟨fuel, hf⟩ := h0
    obtain ⟨A, c, l, he, x1, x2, x3, x4⟩ := Open.row Try.underlying22 (Open.iso (Open.struct (d := (Kd.pair (Kd.int .i64) (Kd.pair (Kd.int .i64) (Kd.pair (Kd.int .i64) (Kd.pair (Kd.int .u8) (Kd.pair P.k39 (Kd.slice 5 (Kd.int .u8)))))))) Try.underlying41 (by kernel_rfl) (show Open.Part _ _ 0 ([_] ++ ([_] ++ ([_] ++ ([_] ++ ([_] ++ ([_])))))) _ from (Open.part_pair (Open.part_one (Open.int Try.underlying3 (by kernel_rfl)) rfl) (Open.part_pair (Open.part_one (Open.int Try.underlying3 (by kernel_rfl)) rfl) (Open.part_pair (Open.part_one (Open.int Try.underlying3 (by kernel_rfl)) rfl) (Open.part_pair (Open.part_one (Open.int Try.underlying5 (by kernel_rfl)) rfl) (Open.part_pair (Open.part_one (Open.iso (Open.struct (d := (Kd.pair (Kd.int .i64) (Kd.pair (Kd.int .u16) P.k37))) Try.underlying39 (by kernel_rfl) (show Open.Part _ _ 0 ([_] ++ ([_] ++ ([_]))) _ from (Open.part_pair (Open.part_one (Open.int Try.underlying3 (by kernel_rfl)) rfl) (Open.part_pair (Open.part_one (Open.int Try.underlying36 (by kernel_rfl)) rfl) (Open.part_one (Open.iso (Open.array (d := (Kd.pair (Kd.int .u8) (Kd.pair (Kd.int .u8) (Kd.pair (Kd.int .u8) (Kd.int .u8))))) (n := 4) (fs := [Open.fld 5 0, Open.fld 5 1, Open.fld 5 2, Open.fld 5 3]) Try.underlying37 (by kernel_rfl) (by intro f hf; simp only [List.mem_cons, List.not_mem_nil, or_false] at hf; rcases hf with rfl | rfl | rfl | rfl; exact ⟨rfl, 0, by decide, by kernel_rfl⟩; exact ⟨rfl, 1, by decide, by kernel_rfl⟩; exact ⟨rfl, 2, by decide, by kernel_rfl⟩; exact ⟨rfl, 3, by decide, by kernel_rfl⟩) (show Open.Part _ _ 0 ([_] ++ ([_] ++ ([_] ++ ([_])))) _ from (Open.part_pair (Open.part_one (Open.int Try.underlying5 (by kernel_rfl)) rfl) (Open.part_pair (Open.part_one (Open.int Try.underlying5 (by kernel_rfl)) rfl) (Open.part_pair (Open.part_one (Open.int Try.underlying5 (by kernel_rfl)) rfl) (Open.part_one (Open.int Try.underlying5 (by kernel_rfl)) rfl)))))) (fun x : P.S37 => (x.f0, x.f1, x.f2, x.f3)) (fun p => ⟨p.1, p.2.1, p.2.2.1, p.2.2.2⟩) (fun _ => rfl)) rfl))))) (fun x : P.S39 => (x.f0, x.f1, x.f2)) (fun p => ⟨p.1, p.2.1, p.2.2⟩) (fun _ => rfl)) rfl) (Open.part_one (Open.slice Try.underlying23 (by kernel_rfl) (Open.int Try.underlying5 (by kernel_rfl))) rfl)))))))) (fun x : P.S41 => (x.f0, x.f1, x.f2, x.f3, x.f4, x.f5)) (fun p => ⟨p.1, p.2.1, p.2.2.1, p.2.2.2.1, p.2.2.2.2.1, p.2.2.2.2.2⟩) (fun _ => rfl)) hf
    simp [Value.cells] at he
    obtain ⟨rfl, rfl, rfl⟩ := he
    exact ⟨l, rfl, x1, x2, x3, x4⟩
  obtain ⟨a1, len1, cap1, rfl⟩ := okWide_slice Try.underlying23 (hval 1 23 v1 rfl rfl)
  have k1 := h1
  have lt1 : ∀ x ∈ p1, x.block < W.heap.size := by obtain ⟨m, hm⟩ := k1; exact DataW.trod_lt m _ _ _ hm
  obtain ⟨l1, rfl, hc1, hm1, hr1, hw1⟩ : ∃ l : List Int, len1 = l.length ∧ l.length ≤ cap1 ∧ l.length ≤ 9223372036854775807 ∧ Kd.C (Kd.int .u8) W a1 l.length l ∧ (∀ x ∈ l, (Lit.int .u8 x).wf = true) := by
    obtain ⟨fuel, hf⟩ := h1
    obtain ⟨A, c, l, he, x1, x2, x3, x4⟩ := Open.row Try.underlying23 (Open.int Try.underlying5 (by kernel_rfl)) hf
    simp [Value.cells] at he
    obtain ⟨rfl, rfl, rfl⟩ := he
    exact ⟨l, rfl, x1, x2, x3, x4⟩
  clear hA0 hval0 hsz0 hsz
  obtain ⟨k, hk⟩ := Pure.ScriptBack l0 l1 hm0 hw0 hm1 hw1
  refine (P.thwartlaw33_ScriptBack.calls k a0 cap0 l0 a1 cap1 l1 true W hr0 hc0 hr1 hc1 rfl hk).mono fun e W' ⟨he, bel⟩ => ?_
  subst he
  exact ⟨_, rfl, _, _, _, [], _, [], hW', trodAll_mk1 (shut_bool Try.underlying4 _), (trodAll_cons_mk (Below.trod laidOut (by kernel_rfl) (of_decide_eq_true (by kernel_rfl)) k0 bel lt0) (trodAll_cons_mk (Below.trod laidOut (by kernel_rfl) (of_decide_eq_true (by kernel_rfl)) k1 bel lt1) trodAll_mk0)), rfl, bel.frame _, fun h => by cases h⟩
theorem over : Rows.scriptBackRow.holds Try.pinned (OpenSpec.ofChange Rows.scriptBackSpec) :=
  OpenClaim.holds_of_wide 3 Try.f3 rfl rfl rfl rfl rfl rfl rfl ⟨rfl, rfl, rfl, rfl, rfl⟩ rfl rfl rfl rfl rfl (by kernel_rfl) Try.func3 (by kernel_rfl)
    (of_decide_eq_true (by kernel_rfl)) (by unfold Func.isWrapper; first | (rw [if_pos (by decide +kernel)]; kernel_rfl) | (rw [if_neg (by decide +kernel)]; exact ⟨rfl, rfl⟩))
    (fun os started H enc _ => lifted os started H enc)
theorem proved : Rows.ScriptBackSaid := over
#print axioms proved
end Go.Proofs.Ytgjckdkpkgmbkaa.scriptBack
namespace Go.Proofs.Ytgjckdkpkgmbkaa
/-- The statement, under a short name, for the claim. -/
theorem scriptBack_holds : Rows.ScriptBackSaid := scriptBack.proved
end Go.Proofs.Ytgjckdkpkgmbkaa
