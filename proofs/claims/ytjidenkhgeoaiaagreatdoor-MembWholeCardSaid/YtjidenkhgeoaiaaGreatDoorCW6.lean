import Derived.Test.YtjidenkhgeoaiaaGreatDoorCW5
import Derived.Laws.BitsAllLaws
import Derived.Deep.Slices
import Derived.ChangeArms
import Derived.WideShapes
import Derived.DataReads
import Derived.Test.YtjidenkhgeoaiaaGreatDoorRows
import Derived.Test.YtjidenkhgeoaiaaGreatDoorCards
import Derived.Test.YtjidenkhgeoaiaaGreatDoorTie
import Derived.ProofKit
import Derived.OpenShut
import Derived.ShutString
import Derived.ChangeOld
import Derived.SizedLaws
import Derived.LaidMore
import Derived.Lay
import Derived.SevenTiedAt
import Derived.Stop.Joined
/- Plain facts on paths: the pieces between slashes, names, as the document tells them. -/
namespace Go.Proofs.YtjidenkhgeoaiaaGreatDoor.Q5
open Go.RowKit Go.Proofs.YtjidenkhgeoaiaaGreatDoor.P Go.Proofs.YtjidenkhgeoaiaaGreatDoor.Hand Go.Proofs.YtjidenkhgeoaiaaGreatDoor.Q Go.Proofs.YtjidenkhgeoaiaaGreatDoorW.PrintWords Go.Proofs.YtjidenkhgeoaiaaGreatDoorW.PrintLast
set_option linter.unusedVariables false
set_option linter.unusedSimpArgs false

theorem wrap_id {i : Int} (h0 : -9223372036854775808 ≤ i) (h : i < 9223372036854775808) : wrap64 i = i := by unfold wrap64; omega
/-- No byte of a name is a nought or a slash. -/
def okBytes (l : List UInt8) : Bool := l.all fun b => b != 0 && b != 47
/-- A name, as the document says. -/
def isName (l : List UInt8) : Bool := okBytes l && decide (1 ≤ l.length) && decide (l.length ≤ 60) && (l != [46]) && (l != [46, 46])
theorem any_is (l chars : List UInt8) : Lib.containsAny l chars = l.any (chars.contains ·) := by
  induction l with
  | nil => rfl
  | cons b l ih =>
    have hg := Lib.indexAny_ge chars l
    unfold Lib.containsAny at ih ⊢
    rw [List.any_cons, ← ih]
    rw [show Lib.indexAny (b :: l) chars = (if chars.contains b = true then 0 else if (Lib.indexAny l chars == -1) = true then -1 else Lib.indexAny l chars + 1) from rfl]
    by_cases h : chars.contains b = true
    · rw [if_pos h, h]; simp
    · rw [if_neg h, Bool.eq_false_iff.2 h, Bool.false_or]
      by_cases h2 : (Lib.indexAny l chars == -1) = true
      · rw [if_pos h2, beq_iff_eq.1 h2]
      · rw [if_neg h2]
        have h3 : ¬ Lib.indexAny l chars = -1 := fun e => h2 (by rw [e]; rfl)
        rw [decide_eq_true (show 0 ≤ Lib.indexAny l chars + 1 by omega), decide_eq_true (show 0 ≤ Lib.indexAny l chars by omega)]
theorem any_ok (l : List UInt8) : (!(Lib.containsAny l [47, 0])) = okBytes l := by
  rw [any_is]
  unfold okBytes
  induction l with
  | nil => rfl
  | cons b l ih =>
    rw [List.any_cons, List.all_cons, ← ih, Bool.not_or]
    congr 1
    by_cases h0 : b = 0
    · subst h0; rfl
    · by_cases h47 : b = 47
      · subst h47; rfl
      · rw [bne_iff_ne.2 h0, bne_iff_ne.2 h47]
        simp [h0, h47]
theorem name_is (s : ByteArray) (hs : s.size ≤ 1000) (k : Nat) (hk : 5 ≤ k) : ppath_Name.f k s = some (isName s.data.toList) := by
  have hl := Lib.size_eq s
  obtain ⟨k, rfl⟩ : ∃ m, k = m + 1 := ⟨k - 1, by omega⟩
  unfold ppath_Name.f
  rw [toL]
  by_cases c0 : s.data.toList = []
  · rw [if_pos c0, ppath_Name.j0, if_pos rfl, c0]; rfl
  · have h1 : 1 ≤ s.data.toList.length := by
      rcases Nat.eq_zero_or_pos s.data.toList.length with h | h
      · exact absurd (List.eq_nil_of_length_eq_zero h) c0
      · exact h
    rw [if_neg c0, ppath_Name.j0, toL]
    unfold isName
    rw [decide_eq_true h1]
    by_cases c60 : (s.size : Int) > 60
    · rw [decide_eq_true c60, if_pos rfl, decide_eq_false (show ¬ s.data.toList.length ≤ 60 by omega)]
      simp
    · rw [decide_eq_false c60, if_neg (by decide), decide_eq_true (show s.data.toList.length ≤ 60 by omega)]
      by_cases c1 : s.data.toList = [46]
      · rw [if_pos c1, c1]; rfl
      · rw [if_neg c1, bne_iff_ne.2 c1]
        by_cases c2 : s.data.toList = [46, 46]
        · rw [if_pos c2, c2]; rfl
        · rw [if_neg c2, bne_iff_ne.2 c2]
          unfold strings_ContainsAny.f
          rw [if_pos ⟨show 2 ≤ 2 by omega, show 2 < 4294967281 by omega, by omega, by decide⟩, Option.bind_some]
          congr 1
          rw [show (⟨#[47, 0]⟩ : ByteArray).data.toList = [47, 0] from rfl, any_ok]
          simp
theorem ext_sz (s : ByteArray) (a b : Nat) (h : b ≤ s.size) : (s.extract a b).size = b - a := by rw [ByteArray.size_extract]; omega
theorem pieces_size (b : UInt8) : ∀ (n : Nat) (s : ByteArray), s.size ≤ n → ∀ x ∈ pieces b s, x.size ≤ s.size := by
  intro n
  induction n with
  | zero =>
    intro s hs x hx
    have h0 : s.data.toList = [] := List.eq_nil_of_length_eq_zero (by rw [← szL]; omega)
    rw [pieces_miss b s (by rw [h0]; rfl)] at hx
    rw [List.mem_singleton.1 hx]; exact Nat.le_refl _
  | succ n ih =>
    intro s hs x hx
    have hg := Lib.indexByte_ge s.data.toList b
    by_cases h : Lib.indexByte s.data.toList b = -1
    · rw [pieces_miss b s h] at hx
      rw [List.mem_singleton.1 hx]; exact Nat.le_refl _
    · obtain ⟨i, hi⟩ := Int.eq_ofNat_of_zero_le (show 0 ≤ Lib.indexByte s.data.toList b by omega)
      have hlt : i < s.size := by
        have := indexByte_lt s.data.toList b
        rw [hi, ← szL] at this; omega
      rw [pieces_hit b s i hi] at hx
      rcases List.mem_cons.1 hx with rfl | hx
      · rw [ByteArray.size_extract]; omega
      · have h2 := ext_sz s (i + 1) s.size (Nat.le_refl _)
        have := ih (s.extract (i + 1) s.size) (by omega) x hx
        omega
def allOk (l : List ByteArray) : Bool := l.all fun x => isName x.data.toList
theorem all_is (l : List ByteArray) (h : ∀ x ∈ l, x.size ≤ 1000) : allNames l = some (allOk l) := by
  induction l with
  | nil => rfl
  | cons x l ih =>
    unfold allNames
    rw [name_is x (h x (by simp)) 20 (by omega), Option.bind_some]
    unfold allOk at ih ⊢
    rw [List.all_cons, ih (fun y hy => h y (by simp [hy]))]
    cases isName x.data.toList <;> rfl
/-- A text's names. -/
def partsOf (s : ByteArray) : List ByteArray × Int := if s.size ≤ 300 ∧ allOk (pieces 47 s) = true then (pieces 47 s, 0) else ([], 8)
theorem parts_is (s : ByteArray) : ppath_Parts.f s = some (partsOf s) := by
  unfold ppath_Parts.f partsOf
  by_cases h : 300 < s.size
  · rw [if_pos h, if_neg (by omega)]
  · rw [if_neg h, all_is _ (fun x hx => by have := pieces_size 47 s.size s (Nat.le_refl _) x hx; omega), Option.bind_some]
    by_cases h2 : allOk (pieces 47 s) = true
    · rw [if_pos h2, if_pos ⟨by omega, h2⟩]
    · rw [if_neg h2, if_neg (fun h => h2 h.2)]
end Go.Proofs.YtjidenkhgeoaiaaGreatDoor.Q5

/- Plain facts on texts of fields, as the code and the document tell them. -/
namespace Go.Proofs.YtjidenkhgeoaiaaGreatDoor.Q
open Go.RowKit Go.Proofs.YtjidenkhgeoaiaaGreatDoor.P Go.Proofs.YtjidenkhgeoaiaaGreatDoor.Hand Go.Proofs.YtjidenkhgeoaiaaGreatDoorW.PrintWords Go.Proofs.YtjidenkhgeoaiaaGreatDoorW.PrintLast Go.Proofs.YtjidenkhgeoaiaaGreatDoorW.PrintMore
set_option linter.unusedVariables false
set_option linter.unusedSimpArgs false
theorem put_get (s : ByteArray) (width : Int) (b : List Int) (e : Int) (h : strf_Put.f s width = some (b, e)) (h0 : e = 0) : strf_Get.f b = some (s, 0) ∧ (b.length : Int) = width := by
  unfold strf_Put.f at h
  split at h
  · cases h; cases h0
  split at h
  · cases h; cases h0
  split at h
  · cases h; cases h0
  split at h
  · cases h; cases h0
  rename_i c1 c2 c3 c4
  simp only [Option.some.injEq, Prod.mk.injEq] at h
  obtain ⟨rfl, -⟩ := h
  obtain ⟨n, rfl⟩ : ∃ n : Nat, width = (s.size : Int) + n := ⟨(width - s.size).toNat, by omega⟩
  have hz : (List.replicate ((s.size : Int) + n).toNat (0 : Int)).drop s.size = List.replicate n 0 := by
    rw [List.drop_replicate]; congr 1; omega
  rw [hz]
  have hbl : (bytesOf s).length = s.size := bytesOf_length s
  have hno : (0 : UInt8) ∉ s.data.toList := (index_none _ _).1 (by omega)
  have hb : Lib.bytesOf (bytesOf s ++ List.replicate n 0) = s.data.toList ++ List.replicate n 0 := by
    have := bytes_bytes s
    unfold Lib.bytesOf at this ⊢
    rw [List.map_append, this]; simp
  have ha : aheadOf (bytesOf s ++ List.replicate n 0) 0 = s.size := by
    unfold aheadOf
    rw [hb]
    cases n with
    | zero =>
      rw [List.replicate_zero, List.append_nil, if_neg (by have := (index_none s.data.toList 0).2 hno; omega)]
      simp [hbl]
    | succ n =>
      rw [List.replicate_succ, index_at _ _ _ hno, if_pos (by omega), szL]; simp
  refine ⟨?_, by rw [List.length_append, List.length_replicate, hbl]; omega⟩
  unfold strf_Get.f
  have hsk : ∀ m, skip 0 (List.replicate m 0) = [] := by
    intro m; induction m with
    | zero => rfl
    | succ m ih => rw [List.replicate_succ]; simp [skip, ih]
  rw [ha, List.drop_left' hbl, List.take_left' hbl, hsk, nums_bytes]
  rfl

end Go.Proofs.YtjidenkhgeoaiaaGreatDoor.Q

/- Plain facts on a key's value in a list of records, told by both. -/
namespace Go.Proofs.YtjidenkhgeoaiaaGreatDoor.Qf
open Go.RowKit Go.Proofs.YtjidenkhgeoaiaaGreatDoor.P Go.Proofs.YtjidenkhgeoaiaaGreatDoorW.PrintWords Go.Proofs.YtjidenkhgeoaiaaGreatDoorW.PrintLast Go.Proofs.YtjidenkhgeoaiaaGreatDoorW.PrintMore Go.Proofs.YtjidenkhgeoaiaaGreatDoor.Hand
set_option linter.unusedVariables false
set_option linter.unusedSimpArgs false
abbrev SA := S35
abbrev SB := S34
def vc (x : SB) : SA := ⟨x.f0, x.f1⟩
theorem wrap_id {i : Int} (h0 : -9223372036854775808 ≤ i) (h : i < 9223372036854775808) : wrap64 i = i := by unfold wrap64; omega
theorem rd_A (l : List SA) (i : Nat) (h : i < l.length) : rd_T35 l (i : Int) = l[i] := by
  unfold rd_T35; rw [Int.toNat_natCast, List.getD_eq_getElem?_getD, List.getElem?_eq_getElem h]; rfl
end Go.Proofs.YtjidenkhgeoaiaaGreatDoor.Qf

/- Plain facts on members: kinds and types, whether one may be, the member of a header, told by both. -/
namespace Go.Proofs.YtjidenkhgeoaiaaGreatDoor.Q8
open Go.RowKit Go.Proofs.YtjidenkhgeoaiaaGreatDoor.P Go.Proofs.YtjidenkhgeoaiaaGreatDoorW.PrintWords Go.Proofs.YtjidenkhgeoaiaaGreatDoorW.PrintLast Go.Proofs.YtjidenkhgeoaiaaGreatDoorW.PrintMore Go.Proofs.YtjidenkhgeoaiaaGreatDoor.Hand Go.Proofs.YtjidenkhgeoaiaaGreatDoor.Q5
set_option linter.unusedVariables false
set_option linter.unusedSimpArgs false
theorem type8 (a : Int) : memb_Type.f a = some (if a = 1 then 48 else if a = 2 then 49 else if a = 3 then 50 else if a = 4 then 53 else 0) := by
  by_cases h1 : a < 1
  · rw [memb_Type.f, if_pos h1, if_neg (by omega), if_neg (by omega), if_neg (by omega), if_neg (by omega)]
  by_cases h4 : a > 4
  · rw [memb_Type.f, if_neg h1, if_pos h4, if_neg (by omega), if_neg (by omega), if_neg (by omega), if_neg (by omega)]
  have : a = 1 ∨ a = 2 ∨ a = 3 ∨ a = 4 := by omega
  rcases this with rfl | rfl | rfl | rfl <;> decide +kernel
/-- May a path be? -/
def okP (s : ByteArray) : Bool := (partsOf s).2 == 0
theorem may_path (s : ByteArray) : ppath_May.f s = some (okP s) := by rw [ppath_May.f, parts_is]; rfl
/-- Has a text a byte 0? -/
def zeroIn (s : ByteArray) : Bool := decide (0 ≤ Lib.indexByte s.data.toList 0)
theorem has_mine (s : ByteArray) : strings_Contains.f s (⟨#[0]⟩ : ByteArray) = some (zeroIn s) := rfl
/-- What may be of a member: the error. -/
def numsOk (m u g t : Int) : Bool := decide (0 ≤ m ∧ m ≤ 4095 ∧ 0 ≤ u ∧ u ≤ 1099511627775 ∧ 0 ≤ g ∧ g ≤ 1099511627775 ∧ -1125899906842624 ≤ t ∧ t ≤ 1125899906842624)
def linkE (kd : Int) (q : ByteArray) : Int :=
  if kd = 2 then (if okP q = true then 0 else 8) else if kd = 3 then (if q.toList = ([] : List UInt8) ∨ zeroIn q = true then 3 else if (300 : Int) < (q.size : Int) then 10 else 0) else if q.toList = ([] : List UInt8) then 0 else 3
def mayE (p : ByteArray) (kd m u g t : Int) (q : ByteArray) (n : Nat) : Int :=
  if okP p = true then (if kd < 1 ∨ 4 < kd then 11 else if numsOk m u g t = true then (if kd = 1 ∧ (4096 : Int) < (n : Int) then 10 else if linkE kd q = 0 then (if kd ≠ 1 ∧ (0 : Int) < (n : Int) then 3 else 0) else linkE kd q) else 10) else 8
theorem nums_mine (m u g t : Int) : memb_numbers.f m u g t = some (numsOk m u g t) := by
  have w : ∀ a b c : Int, memb_within.f a b c = some (decide (b ≤ a ∧ a ≤ c)) := by
    intro a b c
    unfold memb_within.f
    by_cases h : a ≥ b
    · rw [if_pos h]; congr 1; simp; omega
    · rw [if_neg h]; congr 1; simp; omega
  unfold memb_numbers.f numsOk
  rw [w, w, w, w]
  simp only [Option.bind_some, decide_eq_true_eq]
  repeat' split
  all_goals first
    | (congr 1; rw [decide_eq_decide]; omega)
    | (congr 1; symm; rw [decide_eq_false_iff_not]; omega)
theorem kind_mine (p : ByteArray) (kd m u g t : Int) (q : ByteArray) (l : List Int) (h1 : 1 ≤ kd) (h4 : kd ≤ 4) :
    memb_isKind.f p kd m u g t q l = some (if kd = 1 ∧ (4096 : Int) < (l.length : Int) then 10 else if linkE kd q = 0 then (if kd ≠ 1 ∧ (0 : Int) < (l.length : Int) then 3 else 0) else linkE kd q) := by
  have : kd = 1 ∨ kd = 2 ∨ kd = 3 ∨ kd = 4 := by omega
  unfold memb_isKind.f linkE
  rw [may_path, has_mine]
  simp only [Option.bind_some]
  rcases this with rfl | rfl | rfl | rfl
  · simp
    repeat' split
    all_goals simp_all
  · simp
    repeat' split
    all_goals simp_all
  · simp
    repeat' split
    all_goals simp_all
  · simp
    repeat' split
    all_goals simp_all
theorem may_mine (p : ByteArray) (kd m u g t : Int) (q : ByteArray) (l : List Int) : memb_May.f p kd m u g t q l = some (mayE p kd m u g t q l.length) := by
  unfold memb_May.f mayE
  rw [may_path, Option.bind_some]
  by_cases c : okP p = true
  · rw [if_pos c, if_pos c, type8, Option.bind_some, nums_mine]
    by_cases d : kd < 1 ∨ 4 < kd
    · have ht : (if kd = 1 then (48 : Int) else if kd = 2 then 49 else if kd = 3 then 50 else if kd = 4 then 53 else 0) = 0 := by rw [if_neg (by omega), if_neg (by omega), if_neg (by omega), if_neg (by omega)]
      rw [if_pos d, if_pos ht]
    · have ht : ¬ (if kd = 1 then (48 : Int) else if kd = 2 then 49 else if kd = 3 then 50 else if kd = 4 then 53 else 0) = 0 := by (repeat' split) <;> omega
      rw [if_neg d, if_neg ht, Option.bind_some, kind_mine _ _ _ _ _ _ _ _ (by omega) (by omega), Option.bind_some]
      split <;> rfl
  · rw [if_neg c, if_neg c]
/-- Of one member, and of it with another link. -/
theorem same_self (p : ByteArray) (kd m u g t : Int) (q : ByteArray) (l : List Int) : memb_Same.f p kd m u g t q l p kd m u g t q l = some true := by
  unfold memb_Same.f
  simp [bytes_Equal.f]
end Go.Proofs.YtjidenkhgeoaiaaGreatDoor.Q8

/- Plain facts: the member of a header, records and bytes. -/
namespace Go.Proofs.YtjidenkhgeoaiaaGreatDoor.Q8
open Go.RowKit Go.Proofs.YtjidenkhgeoaiaaGreatDoor.P Go.Proofs.YtjidenkhgeoaiaaGreatDoorW.PrintWords Go.Proofs.YtjidenkhgeoaiaaGreatDoorW.PrintLast Go.Proofs.YtjidenkhgeoaiaaGreatDoorW.PrintMore Go.Proofs.YtjidenkhgeoaiaaGreatDoor.Hand Go.Proofs.YtjidenkhgeoaiaaGreatDoor.Q5
set_option linter.unusedVariables false
set_option linter.unusedSimpArgs false
abbrev Mem := ByteArray × Int × Int × Int × Int × Int × ByteArray × List Int × Int
def cut8 (p : ByteArray) (kd m u g t : Int) (q : ByteArray) (d : List Int) (e : Int) : Mem :=
  if e = 0 then (p, kd, m, u, g, t, q, d, 0) else ((⟨#[]⟩ : ByteArray), 0, 0, 0, 0, 0, (⟨#[]⟩ : ByteArray), [], e)
def fromOf (p : ByteArray) (kd m u g t : Int) (q : ByteArray) (d : List Int) : Mem :=
  if kd = 0 then ((⟨#[]⟩ : ByteArray), 0, 0, 0, 0, 0, (⟨#[]⟩ : ByteArray), [], 11)
  else if kd = 1 then cut8 p kd m u g t (⟨#[]⟩ : ByteArray) d (mayE p kd m u g t (⟨#[]⟩ : ByteArray) d.length)
  else if kd = 4 then cut8 p kd m u g t (⟨#[]⟩ : ByteArray) [] (mayE p kd m u g t (⟨#[]⟩ : ByteArray) 0)
  else cut8 p kd m u g t q [] (mayE p kd m u g t q 0)
theorem cut8_is (p : ByteArray) (kd m u g t : Int) (q : ByteArray) (d : List Int) (e : Int) : (if e = 0 then some (p, kd, m, u, g, t, q, d, (0 : Int)) else some ((⟨#[]⟩ : ByteArray), 0, 0, 0, 0, 0, (⟨#[]⟩ : ByteArray), [], e)) = some (cut8 p kd m u g t q d e) := by
  unfold cut8; split <;> rfl
theorem mine_j1 (k : Nat) (d : List Int) (p : ByteArray) (kd m u g t : Int) (q : ByteArray) (hd : d.length ≤ 140737488355328) : memb_From.j1 (k + 1) d p kd m u g t q = some (fromOf p kd m u g t q d) := by
  rw [memb_From.j1]
  unfold fromOf
  by_cases h0 : kd = 0
  · rw [if_pos h0, if_pos h0]
  rw [if_neg h0, if_neg h0]
  by_cases h1 : kd = 1
  · rw [if_pos h1, if_pos h1, bytes_Clone.f, if_pos hd]
    simp only [Option.bind_some]
    rw [may_mine, Option.bind_some, cut8_is]
  rw [if_neg h1, if_neg h1]
  by_cases h4 : kd = 4
  · rw [if_pos h4, if_pos h4, may_mine, Option.bind_some, cut8_is]; rfl
  rw [if_neg h4, if_neg h4, may_mine, Option.bind_some, cut8_is]; rfl
end Go.Proofs.YtjidenkhgeoaiaaGreatDoor.Q8

/- Plain facts on numbers of headers: numf.Get answers as the document's Get, for every field. -/
namespace Go.Proofs.YtjidenkhgeoaiaaGreatDoor.Q4
open Go.RowKit Go.Proofs.YtjidenkhgeoaiaaGreatDoor.P Go.Proofs.YtjidenkhgeoaiaaGreatDoor.Hand Go.Proofs.YtjidenkhgeoaiaaGreatDoorW.PrintWords Go.Proofs.YtjidenkhgeoaiaaGreatDoorW.PrintLast Go.Proofs.YtjidenkhgeoaiaaGreatDoorW.PrintMore
set_option linter.unusedVariables false
set_option linter.unusedSimpArgs false

def Byts (l : List Int) : Prop := ∀ x ∈ l, 0 ≤ x ∧ x < 256
theorem wrap_id {i : Int} (h0 : -9223372036854775808 ≤ i) (h : i < 9223372036854775808) : wrap64 i = i := by unfold wrap64; omega
theorem rd_at (l : List Int) (i : Nat) (h : i < l.length) : rd l (i : Int) = l[i] := by
  unfold rd; rw [Int.toNat_natCast, List.getD_eq_getElem?_getD, List.getElem?_eq_getElem h]; rfl

/-- A number by a power of two, and low bits. -/
theorem or_low (s : Nat) (hs : s < 64) (x d : Int) (q : Nat) (hx : x % 18446744073709551616 = ((2 ^ s * q : Nat) : Int)) (h0 : 0 ≤ d) (hd : d.toNat < 2 ^ s) : Go.bits .or .i64 x d = wrap64 (x + d) := by
  obtain ⟨d, rfl⟩ := Int.eq_ofNat_of_zero_le h0
  rw [Int.toNat_natCast] at hd
  have hp : 2 ^ s ≤ 2 ^ 63 := Nat.pow_le_pow_right (by omega) (by omega)
  have hq : 2 ^ s * q < 18446744073709551616 := by omega
  show IntKind.i64.wrap ((BitVec.ofInt 64 x ||| BitVec.ofInt 64 (d : Int)).toNat : Int) = _
  rw [BitVec.toNat_or, BitVec.toNat_ofInt, BitVec.toNat_ofInt, IntKind.wrap_i64]
  rw [show ((2 ^ 64 : Nat) : Int) = 18446744073709551616 from rfl, hx, Int.toNat_natCast, show (((d : Nat) : Int) % 18446744073709551616).toNat = d by omega]
  rw [← Nat.two_pow_add_eq_or_of_lt hd q]
  unfold wrap64
  omega
theorem or_byte (n d : Int) (h0 : 0 ≤ d) (hd : d < 256) : Go.bits .or .i64 (wrap64 (n * 256)) d = wrap64 (n * 256 + d) := by
  rw [or_low 8 (by omega) (wrap64 (n * 256)) d (n % 72057594037927936).toNat (by unfold wrap64; omega) h0 (by omega)]
  unfold wrap64; omega
theorem or_oct (n d : Int) (h0 : 0 ≤ d) (hd : d < 8) : Go.bits .or .i64 (wrap64 (n * 8)) d = wrap64 (n * 8 + d) := by
  rw [or_low 3 (by omega) (wrap64 (n * 8)) d (n % 2305843009213693952).toNat (by unfold wrap64; omega) h0 (by omega)]
  unfold wrap64; omega

/-- Bytes, the first one's weight the greatest. -/
def acc : Int → List Int → Int
  | n, [] => n
  | n, c :: l => acc (wrap64 (n * 256 + c)) l
theorem flag_255 : ∀ x : Int, 0 ≤ x → x < 256 → (Go.bits .and .u8 (Go.bits .xor .u8 x 255) 128 = 0 ↔ 128 ≤ x) := by
  have h : ∀ x : Fin 256, (Go.bits .and .u8 (Go.bits .xor .u8 (x.val : Int) 255) 128 = 0 ↔ 128 ≤ (x.val : Int)) := by decide +kernel
  intro x h0 h1
  obtain ⟨x, rfl⟩ := Int.eq_ofNat_of_zero_le h0
  exact h ⟨x, by omega⟩
theorem flag_0 : ∀ x : Int, 0 ≤ x → x < 256 → (Go.bits .and .u8 (Go.bits .xor .u8 x 0) 128 = 0 ↔ x < 128) := by
  have h : ∀ x : Fin 256, (Go.bits .and .u8 (Go.bits .xor .u8 (x.val : Int) 0) 128 = 0 ↔ (x.val : Int) < 128) := by decide +kernel
  intro x h0 h1
  obtain ⟨x, rfl⟩ := Int.eq_ofNat_of_zero_le h0
  exact h ⟨x, by omega⟩
/-- unbase's loop, where eight are left at most, and the first of eight is right. -/
theorem unbase_tail (l : List Int) (f : Int) (hl : l.length ≤ 100) (hb : Byts l) (d : Nat) : ∀ (k i : Nat) (n : Int), i + d = l.length → d ≤ 8 → d < k → (∀ (h : d = 8) (hi : i < l.length), Go.bits .and .u8 (Go.bits .xor .u8 l[i] f) 128 = 0) → numf_unbase.l0 k l f n l l.length i = some (acc n (l.drop i), 0) := by
  induction d with
  | zero =>
    intro k i n h1 h8 h2 _
    obtain ⟨k, rfl⟩ : ∃ m, k = m + 1 := ⟨k - 1, by omega⟩
    rw [numf_unbase.l0, if_neg (by omega), List.drop_eq_nil_of_le (by omega)]; rfl
  | succ d ih =>
    intro k i n h1 h8 h2 hf
    obtain ⟨k, rfl⟩ : ∃ m, k = m + 1 := ⟨k - 1, by omega⟩
    have hx := hb l[i] (List.getElem_mem (by omega))
    have hw : wrap64 ((l.length : Int) - (i : Int)) = ((d + 1 : Nat) : Int) := by rw [wrap_id (by omega) (by omega)]; omega
    rw [numf_unbase.l0, if_pos (by omega), if_pos (by omega), if_pos (by omega), hw, if_neg (by omega), rd_at l i (by omega), wrap_id (i := (i : Int) + 1) (by omega) (by omega), show ((i : Int) + 1) = ((i + 1 : Nat) : Int) by omega, wrap_id (i := l[i]) (by omega) (by omega), or_byte n _ hx.1 hx.2, ih k (i + 1) _ (by omega) (by omega) (by omega) (fun h => by omega)]
    rw [List.drop_eq_getElem_cons (i := i) (by omega)]
    by_cases h : d = 7
    · rw [if_pos (by omega), if_pos (hf (by omega) (by omega))]; rfl
    · rw [if_neg (by omega)]; rfl

theorem fill_255 : wrap64 (IntKind.i8.wrap 255) = -1 := by decide +kernel
theorem fill_0 : wrap64 (IntKind.i8.wrap 0) = 0 := by decide +kernel
theorem or_fill : Go.bits .or .i64 (wrap64 (-1 * 256)) (wrap64 255) = -1 := by decide +kernel
theorem or_zero : Go.bits .or .i64 (wrap64 (0 * 256)) (wrap64 0) = 0 := by decide +kernel
theorem unbase_skip (l : List Int) (f n : Int) (hl : l.length ≤ 100) (hb : Byts l) (i k : Nat) (hi : i + 8 < l.length) (hn : Go.bits .or .i64 (wrap64 (n * 256)) (wrap64 f) = n) : numf_unbase.l0 (k + 1) l f n l l.length i = if l[i] = f then numf_unbase.l0 k l f n l l.length ((i + 1 : Nat) : Int) else some (0, 10) := by
  have hw : wrap64 ((l.length : Int) - (i : Int)) = ((l.length - i : Nat) : Int) := by rw [wrap_id (by omega) (by omega)]; omega
  rw [numf_unbase.l0, if_pos (by omega), if_pos (by omega), if_pos (by omega), hw, if_pos (by omega), rd_at l i (by omega), wrap_id (i := (i : Int) + 1) (by omega) (by omega), show ((i : Int) + 1) = ((i + 1 : Nat) : Int) by omega]
  by_cases h : l[i] = f
  · rw [if_pos h, if_pos h, if_neg (by omega), h, hn]
  · rw [if_neg h, if_neg h]
theorem unbase_eight (l : List Int) (f n : Int) (hl : l.length ≤ 100) (hb : Byts l) (i k : Nat) (hi : i + 8 = l.length) (hk : 8 < k) : numf_unbase.l0 k l f n l l.length i = if Go.bits .and .u8 (Go.bits .xor .u8 (l[i]'(by omega)) f) 128 = 0 then some (acc n (l.drop i), 0) else some (0, 10) := by
  by_cases h : Go.bits .and .u8 (Go.bits .xor .u8 (l[i]'(by omega)) f) 128 = 0
  · rw [if_pos h]
    exact unbase_tail l f hl hb 8 k i n hi (by omega) hk (fun _ _ => h)
  · obtain ⟨k, rfl⟩ : ∃ m, k = m + 1 := ⟨k - 1, by omega⟩
    have hw : wrap64 ((l.length : Int) - (i : Int)) = 8 := by rw [wrap_id (by omega) (by omega)]; omega
    rw [numf_unbase.l0, if_pos (by omega), if_pos (by omega), if_pos (by omega), hw, if_neg (by decide), if_pos rfl, rd_at l i (by omega), if_neg h, if_neg h]
/-- Octal digits' number. -/
def oct : Int → List Int → Int
  | n, [] => n
  | n, c :: l => oct (n * 8 + (c - 48)) l
theorem octVal_oct (l : List Int) : ∀ n, 0 ≤ n → n < 8 ^ (20 - l.length) → l.length ≤ 12 → (∀ x ∈ l, 48 ≤ x ∧ x ≤ 55) → octVal n l = oct n l := by
  induction l with
  | nil => intro n _ _ _ _; rfl
  | cons c l ih =>
    intro n h0 h1 hl hd
    have hc := hd c (by simp)
    simp only [List.length_cons] at h1 hl
    have e : (8 : Int) ^ (20 - l.length) = 8 * 8 ^ (20 - (l.length + 1)) := by
      rw [show 20 - l.length = (20 - (l.length + 1)) + 1 by omega, Int.pow_succ]; omega
    have hp : (8 : Int) ^ (20 - l.length) ≤ 8 ^ 20 := by
      have : (8 : Nat) ^ (20 - l.length) ≤ 8 ^ 20 := Nat.pow_le_pow_right (by omega) (by omega)
      exact_mod_cast this
    have hn : n * 8 + (c - 48) < 8 ^ (20 - l.length) := by omega
    have h20 : (8 : Int) ^ 20 = 1152921504606846976 := by decide +kernel
    unfold octVal oct
    rw [or_oct n (c - 48) (by omega) (by omega), wrap_id (by omega) (by omega)]
    exact ih _ (by omega) hn (by omega) (fun x hx => hd x (by simp [hx]))
theorem skip_len (c : Int) (l : List Int) : (skip c l).length ≤ l.length := by
  induction l with
  | nil => exact Nat.le_refl _
  | cons x l ih => unfold skip; split <;> simp only [List.length_cons] <;> omega
end Go.Proofs.YtjidenkhgeoaiaaGreatDoor.Q4

/- Plain facts on the sum of a header, as the code and the document tell it. -/
namespace Go.Proofs.YtjidenkhgeoaiaaGreatDoor.Q3
open Go.RowKit Go.Proofs.YtjidenkhgeoaiaaGreatDoor.P Go.Proofs.YtjidenkhgeoaiaaGreatDoor.Hand Go.Proofs.YtjidenkhgeoaiaaGreatDoorW.PrintWords Go.Proofs.YtjidenkhgeoaiaaGreatDoorW.PrintLast Go.Proofs.YtjidenkhgeoaiaaGreatDoorW.PrintMore
set_option linter.unusedVariables false
set_option linter.unusedSimpArgs false
def Bytes (l : List Int) : Prop := ∀ x ∈ l, 0 ≤ x ∧ x < 256
theorem Bytes.at {l : List Int} (h : Bytes l) (i : Nat) (hi : i < l.length) : 0 ≤ l[i] ∧ l[i] < 256 := h _ (List.getElem_mem hi)
theorem wrap_id {i : Int} (h0 : -9223372036854775808 ≤ i) (h : i < 9223372036854775808) : wrap64 i = i := by unfold wrap64; omega
theorem rd_at (l : List Int) (i : Nat) (h : i < l.length) : rd l (i : Int) = l[i] := by
  unfold rd; rw [Int.toNat_natCast, List.getD_eq_getElem?_getD, List.getElem?_eq_getElem h]; rfl
theorem drop_sum (l : List Int) (i : Nat) (h : i < l.length) : (l.drop i).sum = l[i] + (l.drop (i + 1)).sum := by
  rw [List.drop_eq_getElem_cons h, List.sum_cons]

theorem l0_is (l : List Int) (hl : l.length = 512) (hb : Bytes l) (d : Nat) : ∀ (k i : Nat) (acc : Int), i + d = 512 → d < k → 0 ≤ acc → acc ≤ 255 * i → hsum_Sum.l0 k l acc i = hsum_Sum.l1 (k - d - 1) l (acc + (l.drop i).sum) 0 := by
  induction d with
  | zero =>
    intro k i acc hi hk h0 h1
    obtain ⟨k, rfl⟩ : ∃ m, k = m + 1 := ⟨k - 1, by omega⟩
    rw [hsum_Sum.l0, if_neg (by omega), List.drop_eq_nil_of_le (by omega)]
    simp
  | succ d ih =>
    intro k i acc hi hk h0 h1
    obtain ⟨k, rfl⟩ : ∃ m, k = m + 1 := ⟨k - 1, by omega⟩
    have hx := hb.at i (by omega)
    rw [hsum_Sum.l0, if_pos (by omega), if_pos (by omega), if_pos (by omega), rd_at l i (by omega), wrap_id (i := l[i]) (by omega) (by omega), wrap_id (by omega) (by omega), wrap_id (by omega) (by omega)]
    have := ih k (i + 1) (acc + l[i]) (by omega) (by omega) (by omega) (by omega)
    rw [show ((i : Int) + 1) = ((i + 1 : Nat) : Int) by omega, this, drop_sum l i (by omega)]
    rw [show k + 1 - (d + 1) - 1 = k - d - 1 by omega]
    congr 1
    omega

theorem l1_is (l : List Int) (hl : l.length = 512) (hb : Bytes l) (d : Nat) : ∀ (k j : Nat) (acc : Int), j + d = 8 → d < k → -300 * j ≤ acc → acc ≤ 130560 + 300 * j → hsum_Sum.l1 k l acc j = some (acc + 32 * d - ((l.drop (148 + j)).take d).sum, 0) := by
  induction d with
  | zero =>
    intro k i acc hi hk h0 h1
    obtain ⟨k, rfl⟩ : ∃ m, k = m + 1 := ⟨k - 1, by omega⟩
    rw [hsum_Sum.l1, if_neg (by omega)]
    simp
  | succ d ih =>
    intro k i acc hi hk h0 h1
    obtain ⟨k, rfl⟩ : ∃ m, k = m + 1 := ⟨k - 1, by omega⟩
    have hx := hb.at (148 + i) (by omega)
    have hw : wrap64 (148 + (i : Int)) = ((148 + i : Nat) : Int) := by rw [wrap_id (by omega) (by omega)]; omega
    rw [hsum_Sum.l1, if_pos (by omega), hw, if_pos (by omega), if_pos (by omega), rd_at l (148 + i) (by omega), wrap_id (i := l[148 + i]) (by omega) (by omega), wrap_id (i := 32 - l[148 + i]) (by omega) (by omega), wrap_id (i := acc + (32 - l[148 + i])) (by omega) (by omega), wrap_id (by omega) (by omega)]
    have := ih k (i + 1) (acc + (32 - l[148 + i])) (by omega) (by omega) (by omega) (by omega)
    rw [show ((i : Int) + 1) = ((i + 1 : Nat) : Int) by omega, this, List.drop_eq_getElem_cons (i := 148 + i) (by omega), List.take_succ_cons, List.sum_cons]
    rw [show 148 + (i + 1) = 148 + i + 1 by omega]
    congr 2
    push_cast
    omega

/-- The sum of a block. -/
def S (l : List Int) : Int := (l.take 148).sum + 256 + (l.drop 156).sum
theorem sum_range (l : List Int) (hb : Bytes l) : 0 ≤ l.sum ∧ l.sum ≤ 255 * l.length := by
  induction l with
  | nil => simp
  | cons x l ih =>
    have h1 := hb x (by simp)
    have h2 := ih (fun y hy => hb y (by simp [hy]))
    rw [List.sum_cons, List.length_cons]
    push_cast
    omega
theorem S_range (l : List Int) (hl : l.length = 512) (hb : Bytes l) : 256 ≤ S l ∧ S l ≤ 130560 := by
  have h1 := sum_range (l.take 148) (fun x hx => hb x (List.mem_of_mem_take hx))
  have h2 := sum_range (l.drop 156) (fun x hx => hb x (List.mem_of_mem_drop hx))
  rw [List.length_take, hl] at h1
  rw [List.length_drop, hl] at h2
  unfold S
  omega
theorem sum_is (l : List Int) (hl : l.length = 512) (hb : Bytes l) (k : Nat) (hk : 600 ≤ k) : hsum_Sum.f k l = some (S l, 0) := by
  unfold hsum_Sum.f
  rw [if_pos (by omega)]
  have h := l0_is l hl hb 512 k 0 0 (by omega) (by omega) (by omega) (by omega)
  have hr := sum_range l hb
  rw [show ((0 : Nat) : Int) = 0 from rfl] at h
  rw [h, List.drop_zero, Int.zero_add]
  have h2 := l1_is l hl hb 8 (k - 512 - 1) 0 l.sum (by omega) (by omega) (by omega) (by omega)
  rw [show ((0 : Nat) : Int) = 0 from rfl] at h2
  rw [h2]
  have e1 : l.sum = (l.take 148).sum + (l.drop 148).sum := by rw [← List.sum_append, List.take_append_drop]
  have e2 : (l.drop 148).sum = ((l.drop 148).take 8).sum + (l.drop 156).sum := by
    rw [show l.drop 156 = (l.drop 148).drop 8 by rw [List.drop_drop], ← List.sum_append, List.take_append_drop]
  have e3 : l.sum + 32 * ((8 : Nat) : Int) - ((l.drop (148 + 0)).take 8).sum = S l := by
    unfold S
    rw [Nat.add_zero]
    omega
  rw [e3]

/-- Six octal digits. -/
def dig (n : Int) : List Int := [48 + n / 32768 % 8, 48 + n / 4096 % 8, 48 + n / 512 % 8, 48 + n / 64 % 8, 48 + n / 8 % 8, 48 + n % 8]
theorem dig_len (n : Int) : (dig n).length = 6 := rfl
theorem dig_bytes (n : Int) : ∀ x ∈ dig n, 48 ≤ x ∧ x ≤ 55 := by
  intro x hx
  simp only [dig, List.mem_cons, List.not_mem_nil, or_false] at hx
  omega
theorem most_is : numf_Most.f 6 = some 262143 := by decide +kernel
theorem octal_is (n : Int) (h0 : 0 ≤ n) (h1 : n < 262144) : numf_Octal.f 100 n 6 = some (dig n, 0) := by
  unfold numf_Octal.f
  rw [if_neg (by decide), show (decide ((6 : Int) > 20)) = false from rfl, numf_Octal.j0, if_neg (by decide), if_neg (by omega), most_is]
  simp only [Option.bind_some]
  rw [if_neg (by omega), if_pos (by decide), if_pos (by decide)]
  have hs : ∀ (c m : Int), (2 : Int) ^ (min c.toNat 64) = m → shr .i64 n c = n / m := by
    intro c m h; unfold shr; rw [← h]; rfl
  show numf_Octal.l0 99 n 6 [0, 0, 0, 0, 0, 0] 6 0 = some (dig n, 0)
  iterate 6 rw [numf_Octal.l0, if_pos (by decide +kernel), if_pos (by decide +kernel), if_pos (by decide +kernel), if_pos (by (try simp only [List.length_set]); decide +kernel)]
  rw [numf_Octal.l0, if_neg (by decide +kernel)]
  rw [hs _ 32768 (by decide +kernel), hs _ 4096 (by decide +kernel), hs _ 512 (by decide +kernel), hs _ 64 (by decide +kernel), hs _ 8 (by decide +kernel), hs _ 1 (by decide +kernel), Int.ediv_one]
  rw [show wrap64 (0 + 1) = 1 by decide +kernel, show wrap64 (1 + 1) = 2 by decide +kernel, show wrap64 (2 + 1) = 3 by decide +kernel, show wrap64 (3 + 1) = 4 by decide +kernel, show wrap64 (4 + 1) = 5 by decide +kernel]
  rfl

theorem i64_or_small (a b : Nat) (ha : a < 2 ^ 62) (hb : b < 2 ^ 62) : Go.bits .or .i64 (a : Int) (b : Int) = ((a ||| b : Nat) : Int) := by
  have hx : a ||| b < 2 ^ 62 := Nat.or_lt_two_pow ha hb
  show IntKind.i64.wrap ((BitVec.ofInt 64 (a : Int) ||| BitVec.ofInt 64 (b : Int)).toNat : Int) = _
  rw [BitVec.toNat_or, BitVec.ofInt_natCast, BitVec.ofInt_natCast, BitVec.toNat_ofNat, BitVec.toNat_ofNat, Nat.mod_eq_of_lt (by omega), Nat.mod_eq_of_lt (by omega)]
  rw [IntKind.wrap_i64]
  omega
theorem or_digit (m d : Int) (h0 : 0 ≤ m) (h1 : m < 1000000000000) (h2 : 0 ≤ d) (h3 : d < 8) : Go.bits .or .i64 (wrap64 (m * 8)) d = m * 8 + d := by
  rw [wrap_id (by omega) (by omega)]
  obtain ⟨m, rfl⟩ := Int.eq_ofNat_of_zero_le h0
  obtain ⟨d, rfl⟩ := Int.eq_ofNat_of_zero_le h2
  have hd : d < 2 ^ 3 := by omega
  have hor : 2 ^ 3 * m ||| d = 2 ^ 3 * m + d := (Nat.two_pow_add_eq_or_of_lt hd m).symm
  have := i64_or_small (2 ^ 3 * m) d (by omega) (by omega)
  rw [show ((m : Int) * 8) = ((2 ^ 3 * m : Nat) : Int) by push_cast; omega, this, hor]
  push_cast
  omega
theorem octVal_dig (n : Int) (h0 : 0 ≤ n) (h1 : n < 262144) : octVal 0 (dig n) = n := by
  unfold dig
  simp only [octVal]
  rw [show (48 + n / 32768 % 8 - 48) = n / 32768 % 8 by omega, show (48 + n / 4096 % 8 - 48) = n / 4096 % 8 by omega, show (48 + n / 512 % 8 - 48) = n / 512 % 8 by omega, show (48 + n / 64 % 8 - 48) = n / 64 % 8 by omega, show (48 + n / 8 % 8 - 48) = n / 8 % 8 by omega, show (48 + n % 8 - 48) = n % 8 by omega]
  rw [or_digit 0 _ (by omega) (by omega) (by omega) (by omega), or_digit _ (n / 4096 % 8) (by omega) (by omega) (by omega) (by omega), or_digit _ (n / 512 % 8) (by omega) (by omega) (by omega) (by omega), or_digit _ (n / 64 % 8) (by omega) (by omega) (by omega) (by omega), or_digit _ (n / 8 % 8) (by omega) (by omega) (by omega) (by omega), or_digit _ (n % 8) (by omega) (by omega) (by omega) (by omega)]
  omega
theorem octs_dig (n : Int) (l : List Int) : octs (dig n ++ 0 :: l) = 6 := by
  have h := dig_bytes n
  simp only [dig, List.mem_cons, List.not_mem_nil, or_false] at h
  simp only [dig, List.cons_append, List.nil_append, octs]
  rw [if_pos (by omega), if_pos (by omega), if_pos (by omega), if_pos (by omega), if_pos (by omega), if_pos (by omega), if_neg (by omega)]
theorem get_is (n : Int) (h0 : 0 ≤ n) (h1 : n < 262144) : numf_Get.f (dig n ++ [0, 32]) = some (n, 0) := by
  unfold numf_Get.f
  have hb : ∀ x ∈ dig n ++ [0, 32], 0 ≤ x ∧ x < 256 := by
    intro x hx
    rcases List.mem_append.1 hx with hx | hx
    · have := dig_bytes n x hx; omega
    · simp only [List.mem_cons, List.not_mem_nil, or_false] at hx; omega
  have hr : rd (dig n ++ [0, 32]) 0 = 48 + n / 32768 % 8 := rfl
  have hs : skip 32 (dig n ++ [0, 32]) = dig n ++ [0, 32] := by
    simp only [dig, List.cons_append, List.nil_append]
    rw [skip, if_neg (by omega)]
  rw [if_pos (.inl rfl), if_pos hb, hr, if_neg (by omega), hs, octs_dig, if_neg (by decide)]
  rw [List.drop_left' (dig_len n), List.take_left' (dig_len n), octVal_dig n h0 h1]
  rw [if_neg (by decide +kernel)]

/-- A block with its sum. -/
def P (l : List Int) : List Int := l.take 148 ++ (dig (S l) ++ [0, 32]) ++ l.drop 156
theorem P_take (l : List Int) (hl : l.length = 512) : (P l).take 148 = l.take 148 := by
  unfold P; rw [List.append_assoc, List.take_left' (by rw [List.length_take]; omega)]
theorem P_drop (l : List Int) (hl : l.length = 512) : (P l).drop 156 = l.drop 156 := by
  unfold P; rw [List.drop_left' (by simp only [List.length_append, List.length_take, dig_len, hl]; rfl)]
theorem S_P (l : List Int) (hl : l.length = 512) : S (P l) = S l := by
  unfold S; rw [P_take l hl, P_drop l hl]
theorem put_is (l : List Int) (hl : l.length = 512) (hb : Bytes l) : hsum_Put.f l = some (P l, 0) := by
  have hr := S_range l hl hb
  unfold hsum_Put.f
  rw [sum_is l hl hb 1000 (by omega)]
  simp only [Option.bind_some, if_true]
  rw [octal_is (S l) (by omega) (by omega)]
  simp only [Option.bind_some, if_true]
  rw [if_pos ⟨dig_len _, hl⟩]
  rfl
theorem told_is (l : List Int) (n : Int) (hl : l.length = 512) (hf : (l.take 156).drop 148 = dig n ++ [0, 32]) (h0 : 0 ≤ n) (h1 : n < 262144) : hsum_Told.f l = some (n, 0) := by
  unfold hsum_Told.f
  rw [if_pos (by omega), if_pos (by decide), if_pos (by omega), hf, get_is n h0 h1]
  simp only [Option.bind_some, if_true]
  rw [if_neg (by omega), if_neg (by omega)]
theorem check_is (l : List Int) (n : Int) (hl : l.length = 512) (hb : Bytes l) (hf : (l.take 156).drop 148 = dig n ++ [0, 32]) (h0 : 0 ≤ n) (h1 : n < 262144) (k : Nat) (hk : 600 ≤ k) : hsum_Check.f k l = some (if S l = n then 0 else 9) := by
  unfold hsum_Check.f
  rw [told_is l n hl hf h0 h1]
  simp only [Option.bind_some, if_true]
  rw [sum_is l hl hb k hk]
  simp only [Option.bind_some, if_true]
  split <;> rfl

/-- What the document's loop adds up, from a place on. -/
def T : List Int → Nat → Int
  | [], _ => 0
  | x :: l, i => (if 148 ≤ i ∧ i < 156 then 32 else x) + T l (i + 1)
end Go.Proofs.YtjidenkhgeoaiaaGreatDoor.Q3

/- Plain facts on numbers of headers: what numf.Put lays, numf.Get reads. -/
namespace Go.Proofs.YtjidenkhgeoaiaaGreatDoor.Q6
open Go.RowKit Go.Proofs.YtjidenkhgeoaiaaGreatDoor.P Go.Proofs.YtjidenkhgeoaiaaGreatDoor.Hand Go.Proofs.YtjidenkhgeoaiaaGreatDoor.Q4 Go.Proofs.YtjidenkhgeoaiaaGreatDoorW.PrintWords Go.Proofs.YtjidenkhgeoaiaaGreatDoorW.PrintLast Go.Proofs.YtjidenkhgeoaiaaGreatDoorW.PrintMore
set_option linter.unusedVariables false
set_option linter.unusedSimpArgs false

def dig7 (n : Int) : List Int := [48 + n / 262144 % 8, 48 + n / 32768 % 8, 48 + n / 4096 % 8, 48 + n / 512 % 8, 48 + n / 64 % 8, 48 + n / 8 % 8, 48 + n % 8]
def dig11 (n : Int) : List Int := [48 + n / 1073741824 % 8, 48 + n / 134217728 % 8, 48 + n / 16777216 % 8, 48 + n / 2097152 % 8, 48 + n / 262144 % 8, 48 + n / 32768 % 8, 48 + n / 4096 % 8, 48 + n / 512 % 8, 48 + n / 64 % 8, 48 + n / 8 % 8, 48 + n % 8]
theorem dig7_mem (n : Int) : ∀ x ∈ dig7 n, 48 ≤ x ∧ x ≤ 55 := by
  intro x hx
  simp only [dig7, List.mem_cons, List.not_mem_nil, or_false] at hx
  omega
theorem dig11_mem (n : Int) : ∀ x ∈ dig11 n, 48 ≤ x ∧ x ≤ 55 := by
  intro x hx
  simp only [dig11, List.mem_cons, List.not_mem_nil, or_false] at hx
  omega
theorem most7 : numf_Most.f 7 = some 2097151 := by decide +kernel
theorem most11 : numf_Most.f 11 = some 8589934591 := by decide +kernel
theorem shr_is (n c m : Int) (h : (2 : Int) ^ (min c.toNat 64) = m) : shr .i64 n c = n / m := by unfold shr; rw [← h]; rfl
theorem oct_put (k : Nat) (n a : Int) (L : List Int) (z i c m : Int) (hi : 0 ≤ i) (hz : i < z) (hl : i < (L.length : Int)) (hi2 : i ≤ 20) (hc : wrap64 (3 * (wrap64 ((wrap64 (a - 1)) - i))) = c) (h0 : 0 ≤ c) (hm : (2 : Int) ^ (min c.toNat 64) = m) :
    numf_Octal.l0 (k + 1) n a L z i = numf_Octal.l0 k n a (L.set i.toNat (48 + n / m % 8)) z (i + 1) := by
  rw [numf_Octal.l0, if_pos hz, hc, if_pos h0, if_pos hi, if_pos hl, shr_is n c m hm, wrap_id (i := i + 1) (by omega) (by omega)]
theorem octal7 (n : Int) (h0 : 0 ≤ n) (h1 : n ≤ 2097151) : numf_Octal.f 100 n 7 = some (dig7 n, 0) := by
  unfold numf_Octal.f
  rw [if_neg (by decide), show (decide ((7 : Int) > 20)) = false from rfl, numf_Octal.j0, if_neg (by decide), if_neg (by omega), most7]
  simp only [Option.bind_some]
  rw [if_neg (by omega), if_pos (by decide), if_pos (by decide)]
  show numf_Octal.l0 99 n 7 [0, 0, 0, 0, 0, 0, 0] 7 0 = some (dig7 n, 0)
  refine (oct_put 98 n 7 _ 7 0 18 262144 (by decide) (by decide) (by decide) (by decide) (by decide +kernel) (by decide) (by decide +kernel)).trans ?_
  refine (oct_put 97 n 7 _ 7 1 15 32768 (by decide) (by decide) (by simp) (by decide) (by decide +kernel) (by decide) (by decide +kernel)).trans ?_
  refine (oct_put 96 n 7 _ 7 2 12 4096 (by decide) (by decide) (by simp) (by decide) (by decide +kernel) (by decide) (by decide +kernel)).trans ?_
  refine (oct_put 95 n 7 _ 7 3 9 512 (by decide) (by decide) (by simp) (by decide) (by decide +kernel) (by decide) (by decide +kernel)).trans ?_
  refine (oct_put 94 n 7 _ 7 4 6 64 (by decide) (by decide) (by simp) (by decide) (by decide +kernel) (by decide) (by decide +kernel)).trans ?_
  refine (oct_put 93 n 7 _ 7 5 3 8 (by decide) (by decide) (by simp) (by decide) (by decide +kernel) (by decide) (by decide +kernel)).trans ?_
  refine (oct_put 92 n 7 _ 7 6 0 1 (by decide) (by decide) (by simp) (by decide) (by decide +kernel) (by decide) (by decide +kernel)).trans ?_
  show numf_Octal.l0 92 n 7 _ 7 7 = _
  rw [numf_Octal.l0, if_neg (by decide), Int.ediv_one]
  rfl
theorem octal11 (n : Int) (h0 : 0 ≤ n) (h1 : n ≤ 8589934591) : numf_Octal.f 100 n 11 = some (dig11 n, 0) := by
  unfold numf_Octal.f
  rw [if_neg (by decide), show (decide ((11 : Int) > 20)) = false from rfl, numf_Octal.j0, if_neg (by decide), if_neg (by omega), most11]
  simp only [Option.bind_some]
  rw [if_neg (by omega), if_pos (by decide), if_pos (by decide)]
  show numf_Octal.l0 99 n 11 [0, 0, 0, 0, 0, 0, 0, 0, 0, 0, 0] 11 0 = some (dig11 n, 0)
  refine (oct_put 98 n 11 _ 11 0 30 1073741824 (by decide) (by decide) (by decide) (by decide) (by decide +kernel) (by decide) (by decide +kernel)).trans ?_
  refine (oct_put 97 n 11 _ 11 1 27 134217728 (by decide) (by decide) (by simp) (by decide) (by decide +kernel) (by decide) (by decide +kernel)).trans ?_
  refine (oct_put 96 n 11 _ 11 2 24 16777216 (by decide) (by decide) (by simp) (by decide) (by decide +kernel) (by decide) (by decide +kernel)).trans ?_
  refine (oct_put 95 n 11 _ 11 3 21 2097152 (by decide) (by decide) (by simp) (by decide) (by decide +kernel) (by decide) (by decide +kernel)).trans ?_
  refine (oct_put 94 n 11 _ 11 4 18 262144 (by decide) (by decide) (by simp) (by decide) (by decide +kernel) (by decide) (by decide +kernel)).trans ?_
  refine (oct_put 93 n 11 _ 11 5 15 32768 (by decide) (by decide) (by simp) (by decide) (by decide +kernel) (by decide) (by decide +kernel)).trans ?_
  refine (oct_put 92 n 11 _ 11 6 12 4096 (by decide) (by decide) (by simp) (by decide) (by decide +kernel) (by decide) (by decide +kernel)).trans ?_
  refine (oct_put 91 n 11 _ 11 7 9 512 (by decide) (by decide) (by simp) (by decide) (by decide +kernel) (by decide) (by decide +kernel)).trans ?_
  refine (oct_put 90 n 11 _ 11 8 6 64 (by decide) (by decide) (by simp) (by decide) (by decide +kernel) (by decide) (by decide +kernel)).trans ?_
  refine (oct_put 89 n 11 _ 11 9 3 8 (by decide) (by decide) (by simp) (by decide) (by decide +kernel) (by decide) (by decide +kernel)).trans ?_
  refine (oct_put 88 n 11 _ 11 10 0 1 (by decide) (by decide) (by simp) (by decide) (by decide +kernel) (by decide) (by decide +kernel)).trans ?_
  show numf_Octal.l0 88 n 11 _ 11 11 = _
  rw [numf_Octal.l0, if_neg (by decide), Int.ediv_one]
  rfl
theorem oct_step (n m d d8 : Int) (l : List Int) (h : m = n / d8) (h2 : n / d8 * 8 + n / d % 8 = n / d) : oct m ((48 + n / d % 8) :: l) = oct (n / d) l := by
  rw [oct, h, show n / d8 * 8 + (48 + n / d % 8 - 48) = n / d by omega]
theorem oct7 (n : Int) (h0 : 0 ≤ n) (h1 : n ≤ 2097151) : oct 0 (dig7 n) = n := by
  unfold dig7
  rw [oct_step n 0 262144 2097152 _ (by omega) (by omega), oct_step n _ 32768 262144 _ rfl (by omega), oct_step n _ 4096 32768 _ rfl (by omega), oct_step n _ 512 4096 _ rfl (by omega), oct_step n _ 64 512 _ rfl (by omega), oct_step n _ 8 64 _ rfl (by omega), oct, oct]
  omega
theorem oct11 (n : Int) (h0 : 0 ≤ n) (h1 : n ≤ 8589934591) : oct 0 (dig11 n) = n := by
  unfold dig11
  rw [oct_step n 0 1073741824 8589934592 _ (by omega) (by omega), oct_step n _ 134217728 1073741824 _ rfl (by omega), oct_step n _ 16777216 134217728 _ rfl (by omega), oct_step n _ 2097152 16777216 _ rfl (by omega), oct_step n _ 262144 2097152 _ rfl (by omega), oct_step n _ 32768 262144 _ rfl (by omega), oct_step n _ 4096 32768 _ rfl (by omega), oct_step n _ 512 4096 _ rfl (by omega), oct_step n _ 64 512 _ rfl (by omega), oct_step n _ 8 64 _ rfl (by omega), oct, oct]
  omega
theorem octs_all (l : List Int) (h : ∀ x ∈ l, 48 ≤ x ∧ x ≤ 55) : octs (l ++ [0]) = l.length := by
  induction l with
  | nil => rfl
  | cons c l ih =>
    have hc := h c (by simp)
    rw [List.cons_append, octs, if_pos (by omega), ih (fun x hx => h x (by simp [hx])), List.length_cons]
theorem skip_none (l : List Int) (h : ∀ x ∈ l, 48 ≤ x ∧ x ≤ 55) : skip 32 (l ++ [0]) = l ++ [0] := by
  cases l with
  | nil => rfl
  | cons c l => have hc := h c (by simp); rw [List.cons_append, skip, if_neg (by omega)]
/-- Digits and a zero are read. -/
theorem get_plain (l : List Int) (n : Int) (hl : l.length = 7 ∨ l.length = 11) (h : ∀ x ∈ l, 48 ≤ x ∧ x ≤ 55) (hn : oct 0 l = n) : numf_Get.f (l ++ [0]) = some (n, 0) := by
  have hb : ∀ x ∈ l ++ [0], 0 ≤ x ∧ x < 256 := by
    intro x hx
    rcases List.mem_append.1 hx with hx | hx
    · have := h x hx; omega
    · simp only [List.mem_cons, List.not_mem_nil, or_false] at hx; omega
  have hr : 48 ≤ rd (l ++ [0]) 0 ∧ rd (l ++ [0]) 0 ≤ 55 := by
    match l, hl with
    | c :: l, _ => exact h c (by simp)
    | [], hl => simp at hl
  unfold numf_Get.f
  rw [if_pos (by rw [List.length_append]; simp only [List.length_cons, List.length_nil]; omega), if_pos hb, if_neg (by omega), skip_none l h, octs_all l h, if_neg (by omega), List.drop_left' rfl, List.take_left' rfl]
  rw [octVal_oct l 0 (by omega) (by
    rcases hl with e | e <;> rw [e] <;> decide) (by omega) h, hn]
  rw [if_neg (by decide +kernel)]

theorem base_put (k : Nat) (n : Int) (L : List Int) (i d j : Int) (hi : 0 ≤ i) (hi2 : i ≤ 20) (hL : L.length ≤ 100) (hd : (2 : Int) ^ (mn (wrap64 (8 * i)) 63).toNat = d) (hm : 0 ≤ mn (wrap64 (8 * i)) 63) (hj : i - 1 = j) : numf_base.l0 (k + 1) n L i = numf_base.l0 k n (L ++ [n / d % 256]) j := by
  rw [numf_base.l0, if_pos (by omega), if_pos hm, if_pos (by omega), hd, wrap_id (i := i - 1) (by omega) (by omega), hj]
def b8 (n : Int) : List Int := [n / 281474976710656 % 256, n / 1099511627776 % 256, n / 4294967296 % 256, n / 16777216 % 256, n / 65536 % 256, n / 256 % 256, n / 1 % 256]
def b12 (n : Int) : List Int := [n / 9223372036854775808 % 256, n / 9223372036854775808 % 256, n / 9223372036854775808 % 256, n / 72057594037927936 % 256, n / 281474976710656 % 256, n / 1099511627776 % 256, n / 4294967296 % 256, n / 16777216 % 256, n / 65536 % 256, n / 256 % 256, n / 1 % 256]
theorem b8_len (n : Int) : (b8 n).length = 7 := rfl
theorem b12_len (n : Int) : (b12 n).length = 11 := rfl
theorem base8 (k : Nat) (n x : Int) : numf_base.l0 (k + 8) n [x] 6 = some (x :: b8 n, 0) := by
  refine (base_put (k + 7) n _ 6 281474976710656 5 (by decide) (by decide) (by simp) (by decide +kernel) (by decide +kernel) rfl).trans ?_
  refine (base_put (k + 6) n _ 5 1099511627776 4 (by decide) (by decide) (by simp) (by decide +kernel) (by decide +kernel) rfl).trans ?_
  refine (base_put (k + 5) n _ 4 4294967296 3 (by decide) (by decide) (by simp) (by decide +kernel) (by decide +kernel) rfl).trans ?_
  refine (base_put (k + 4) n _ 3 16777216 2 (by decide) (by decide) (by simp) (by decide +kernel) (by decide +kernel) rfl).trans ?_
  refine (base_put (k + 3) n _ 2 65536 1 (by decide) (by decide) (by simp) (by decide +kernel) (by decide +kernel) rfl).trans ?_
  refine (base_put (k + 2) n _ 1 256 0 (by decide) (by decide) (by simp) (by decide +kernel) (by decide +kernel) rfl).trans ?_
  refine (base_put (k + 1) n _ 0 1 (-1) (by decide) (by decide) (by simp) (by decide +kernel) (by decide +kernel) rfl).trans ?_
  rw [numf_base.l0, if_neg (by decide)]
  rfl
theorem base12 (k : Nat) (n x : Int) : numf_base.l0 (k + 12) n [x] 10 = some (x :: b12 n, 0) := by
  refine (base_put (k + 11) n _ 10 9223372036854775808 9 (by decide) (by decide) (by simp) (by decide +kernel) (by decide +kernel) rfl).trans ?_
  refine (base_put (k + 10) n _ 9 9223372036854775808 8 (by decide) (by decide) (by simp) (by decide +kernel) (by decide +kernel) rfl).trans ?_
  refine (base_put (k + 9) n _ 8 9223372036854775808 7 (by decide) (by decide) (by simp) (by decide +kernel) (by decide +kernel) rfl).trans ?_
  refine (base_put (k + 8) n _ 7 72057594037927936 6 (by decide) (by decide) (by simp) (by decide +kernel) (by decide +kernel) rfl).trans ?_
  refine (base_put (k + 7) n _ 6 281474976710656 5 (by decide) (by decide) (by simp) (by decide +kernel) (by decide +kernel) rfl).trans ?_
  refine (base_put (k + 6) n _ 5 1099511627776 4 (by decide) (by decide) (by simp) (by decide +kernel) (by decide +kernel) rfl).trans ?_
  refine (base_put (k + 5) n _ 4 4294967296 3 (by decide) (by decide) (by simp) (by decide +kernel) (by decide +kernel) rfl).trans ?_
  refine (base_put (k + 4) n _ 3 16777216 2 (by decide) (by decide) (by simp) (by decide +kernel) (by decide +kernel) rfl).trans ?_
  refine (base_put (k + 3) n _ 2 65536 1 (by decide) (by decide) (by simp) (by decide +kernel) (by decide +kernel) rfl).trans ?_
  refine (base_put (k + 2) n _ 1 256 0 (by decide) (by decide) (by simp) (by decide +kernel) (by decide +kernel) rfl).trans ?_
  refine (base_put (k + 1) n _ 0 1 (-1) (by decide) (by decide) (by simp) (by decide +kernel) (by decide +kernel) rfl).trans ?_
  rw [numf_base.l0, if_neg (by decide)]
  rfl
theorem acc_step (n m d d2 : Int) (l : List Int) (h : m = n / d2) (h2 : wrap64 (n / d2 * 256 + n / d % 256) = n / d) : acc m ((n / d % 256) :: l) = acc (n / d) l := by
  rw [acc, h, h2]
def I64 (n : Int) : Prop := -9223372036854775808 ≤ n ∧ n < 9223372036854775808
theorem acc7 (n s : Int) (hs : s = n / 72057594037927936) (h : I64 n) : acc s (b8 n) = n := by
  unfold I64 at h
  unfold b8
  rw [acc_step n s 281474976710656 72057594037927936 _ hs (by unfold wrap64; omega), acc_step n _ 1099511627776 281474976710656 _ rfl (by unfold wrap64; omega), acc_step n _ 4294967296 1099511627776 _ rfl (by unfold wrap64; omega), acc_step n _ 16777216 4294967296 _ rfl (by unfold wrap64; omega), acc_step n _ 65536 16777216 _ rfl (by unfold wrap64; omega), acc_step n _ 256 65536 _ rfl (by unfold wrap64; omega), acc_step n _ 1 256 _ rfl (by unfold wrap64; omega), acc, Int.ediv_one]
theorem acc8 (n s : Int) (hs : s = n / 9223372036854775808) (h : I64 n) : acc s (n / 72057594037927936 % 256 :: b8 n) = n := by
  have h' := h
  unfold I64 at h'
  rw [acc, show wrap64 (s * 256 + n / 72057594037927936 % 256) = n / 72057594037927936 by
    rw [hs]
    have e : n / 9223372036854775808 = -1 ∨ n / 9223372036854775808 = 0 := by omega
    unfold wrap64
    rcases e with e | e <;> rw [e] <;> omega]
  exact acc7 n _ rfl h
theorem b8_byts (n : Int) : Byts (b8 n) := by
  intro x hx
  simp only [b8, List.mem_cons, List.not_mem_nil, or_false] at hx
  omega
theorem b12_byts (n : Int) : Byts (b12 n) := by
  intro x hx
  simp only [b12, List.mem_cons, List.not_mem_nil, or_false] at hx
  omega

theorem get_base (l : List Int) (x : Int) (hl : l.length = 7 ∨ l.length = 11) (hb : Byts l) (hx : x = 128 ∨ x = 255) : numf_Get.f (x :: l) = numf_unbase.f 20 x l := by
  unfold numf_Get.f
  have hB : ∀ y ∈ x :: l, 0 ≤ y ∧ y < 256 := by
    intro y hy
    rcases List.mem_cons.1 hy with rfl | hy
    · omega
    · exact hb y hy
  rw [if_pos (by rw [List.length_cons]; omega), if_pos hB, if_pos (show rd (x :: l) 0 = 128 ∨ rd (x :: l) 0 = 255 from hx)]
  rfl
theorem get8 (n : Int) (h : I64 n) (x s f : Int) (hx : x = if n < 0 then 255 else 128) (hs : n / 72057594037927936 = if n < 0 then -1 else 0) : numf_Get.f (x :: b8 n) = some (n, 0) := by
  rw [get_base (b8 n) x (.inl rfl) (b8_byts n) (by rw [hx]; split <;> omega)]
  unfold numf_unbase.f
  by_cases hn : n < 0
  · rw [if_pos hn] at hx hs
    subst hx
    rw [if_pos rfl, numf_unbase.j0, fill_255]
    have := unbase_tail (b8 n) 255 (by rw [b8_len]; decide) (b8_byts n) 7 19 0 (-1) rfl (by omega) (by omega) (fun h => by omega)
    rw [List.drop_zero, acc7 n (-1) hs.symm h] at this
    exact this
  · rw [if_neg hn] at hx hs
    subst hx
    rw [if_neg (by decide), numf_unbase.j0, fill_0]
    have := unbase_tail (b8 n) 0 (by rw [b8_len]; decide) (b8_byts n) 7 19 0 0 rfl (by omega) (by omega) (fun h => by omega)
    rw [List.drop_zero, acc7 n 0 hs.symm h] at this
    exact this
theorem unbase12 (n f m : Int) (h : I64 n) (hm : m = n / 9223372036854775808) (hf : n / 9223372036854775808 % 256 = f) (hor : Go.bits .or .i64 (wrap64 (m * 256)) (wrap64 f) = m) (hfl : Go.bits .and .u8 (Go.bits .xor .u8 (n / 72057594037927936 % 256) f) 128 = 0) : numf_unbase.l0 19 (b12 n) f m (b12 n) (b12 n).length 0 = some (n, 0) := by
  have hB := b12_byts n
  have hl := b12_len n
  have i0 : 0 < (b12 n).length := by omega
  have i1 : 1 < (b12 n).length := by omega
  have i2 : 2 < (b12 n).length := by omega
  have s0 := unbase_skip (b12 n) f m (by omega) hB 0 18 (by omega) hor
  have s1 := unbase_skip (b12 n) f m (by omega) hB 1 17 (by omega) hor
  have s2 := unbase_skip (b12 n) f m (by omega) hB 2 16 (by omega) hor
  have s3 := unbase_eight (b12 n) f m (by omega) hB 3 16 (by omega) (by omega)
  rw [if_pos (show (b12 n)[0]'i0 = f from hf)] at s0
  rw [if_pos (show (b12 n)[1]'i1 = f from hf)] at s1
  rw [if_pos (show (b12 n)[2]'i2 = f from hf)] at s2
  have i3 : 3 < (b12 n).length := by omega
  rw [if_pos (show Go.bits .and .u8 (Go.bits .xor .u8 ((b12 n)[3]'i3) f) 128 = 0 from hfl)] at s3
  refine s0.trans (s1.trans (s2.trans (s3.trans ?_)))
  have := acc8 n m hm h
  exact congrArg (fun z => some (z, (0 : Int))) this
theorem get12 (n : Int) (h : I64 n) (x : Int) (hx : x = if n < 0 then 255 else 128) : numf_Get.f (x :: b12 n) = some (n, 0) := by
  have h' := h
  unfold I64 at h'
  rw [get_base (b12 n) x (.inr rfl) (b12_byts n) (by rw [hx]; split <;> omega)]
  unfold numf_unbase.f
  by_cases hn : n < 0
  · rw [if_pos hn] at hx
    subst hx
    rw [if_pos rfl, numf_unbase.j0, fill_255]
    exact unbase12 n 255 (-1) h (by omega) (by omega) or_fill ((flag_255 _ (by omega) (by omega)).2 (by omega))
  · rw [if_neg hn] at hx
    subst hx
    rw [if_neg (by decide), numf_unbase.j0, fill_0]
    exact unbase12 n 0 0 h (by omega) (by omega) or_zero ((flag_0 _ (by omega) (by omega)).2 (by omega))

/-- A number fits a field of that width. -/
def FitN (n : Int) (w : Nat) : Prop := w = 12 ∨ (-72057594037927936 ≤ n ∧ n < 72057594037927936)
/-- What is laid is read. -/
def Laid (n : Int) (w : Nat) (p : List Int × Int) : Prop := (p.2 = 0 ∧ p.1.length = w ∧ Byts p.1 ∧ numf_Get.f p.1 = some (n, 0)) ∨ (p.2 ≠ 0 ∧ p.1 = [] ∧ ¬ FitN n w)
theorem byts_snoc (l : List Int) (h : ∀ x ∈ l, 48 ≤ x ∧ x ≤ 55) : Byts (l ++ [0]) := by
  intro x hx
  rcases List.mem_append.1 hx with hx | hx
  · have := h x hx; omega
  · simp only [List.mem_cons, List.not_mem_nil, or_false] at hx; omega
theorem byts_cons (x : Int) (l : List Int) (hx : 0 ≤ x ∧ x < 256) (h : Byts l) : Byts (x :: l) := by
  intro y hy
  rcases List.mem_cons.1 hy with rfl | hy
  · exact hx
  · exact h y hy
theorem put8 (n : Int) (h : I64 n) : ∃ p, numf_Put.f 100 n 8 = some p ∧ Laid n 8 p := by
  have h' := h
  unfold I64 at h'
  unfold numf_Put.f numf_Plain.f
  rw [show numf_isWidth.f 8 = some true from rfl]
  simp only [Option.bind_some, if_true]
  rw [show wrap64 (8 - 1) = 7 by decide +kernel, most7]
  simp only [Option.bind_some]
  have hbase : ∃ p, ((numf_base.f 100 n 8).bind fun bt => some (bt.1, bt.2)) = some p ∧ Laid n 8 p := by
    have hx : ∀ x : Int, x = (if n < 0 then 255 else 128) → ∃ p, ((numf_base.j0 100 n 8 x).bind fun bt => some (bt.1, bt.2)) = some p ∧ Laid n 8 p := by
      intro x hx
      rw [numf_base.j0, show wrap64 (8 * wrap64 (8 - 1)) = 56 by decide +kernel, if_pos (by decide), if_pos (by decide), numf_base.j1, shr_is n 56 72057594037927936 (by decide +kernel)]
      by_cases hc : n / 72057594037927936 = n / 9223372036854775808
      · rw [if_neg (by rw [hc]; simp), show wrap64 (8 - 2) = 6 by decide +kernel, base8 90 n x]
        refine ⟨_, rfl, .inl ⟨rfl, rfl, byts_cons x _ (by rw [hx]; split <;> omega) (b8_byts n), get8 n h x 0 0 hx (by split <;> omega)⟩⟩
      · rw [if_pos (by simpa using hc)]
        exact ⟨_, rfl, .inr ⟨by decide, rfl, by unfold FitN; omega⟩⟩
    unfold numf_base.f
    by_cases hn : n < 0
    · rw [if_pos hn]; exact hx 255 (by rw [if_pos hn])
    · rw [if_neg hn]; exact hx 128 (by rw [if_neg hn])
  by_cases h0 : n ≥ 0
  · rw [if_pos h0]
    simp only [Option.bind_some]
    by_cases h1 : n ≤ 2097151
    · rw [if_pos (by simpa using h1), octal7 n h0 h1]
      simp only [Option.bind_some]
      rw [if_pos (by rw [show (dig7 n).length = 7 from rfl]; decide)]
      exact ⟨_, rfl, .inl ⟨rfl, rfl, byts_snoc _ (dig7_mem n), get_plain _ n (.inl rfl) (dig7_mem n) (oct7 n h0 h1)⟩⟩
    · rw [if_neg (by simpa using h1)]
      exact hbase
  · rw [if_neg h0]
    simp only [Option.bind_some]
    rw [if_neg (by decide)]
    exact hbase
theorem put12 (n : Int) (h : I64 n) : ∃ p, numf_Put.f 100 n 12 = some p ∧ Laid n 12 p := by
  have h' := h
  unfold I64 at h'
  unfold numf_Put.f numf_Plain.f
  rw [show numf_isWidth.f 12 = some true from rfl]
  simp only [Option.bind_some, if_true]
  rw [show wrap64 (12 - 1) = 11 by decide +kernel, most11]
  simp only [Option.bind_some]
  have hbase : ∃ p, ((numf_base.f 100 n 12).bind fun bt => some (bt.1, bt.2)) = some p ∧ Laid n 12 p := by
    have hx : ∀ x : Int, x = (if n < 0 then 255 else 128) → ∃ p, ((numf_base.j0 100 n 12 x).bind fun bt => some (bt.1, bt.2)) = some p ∧ Laid n 12 p := by
      intro x hx
      rw [numf_base.j0, show wrap64 (8 * wrap64 (12 - 1)) = 88 by decide +kernel, if_neg (by decide), numf_base.j1, if_neg (by decide), show wrap64 (12 - 2) = 10 by decide +kernel, base12 86 n x]
      exact ⟨_, rfl, .inl ⟨rfl, rfl, byts_cons x _ (by rw [hx]; split <;> omega) (b12_byts n), get12 n h x hx⟩⟩
    unfold numf_base.f
    by_cases hn : n < 0
    · rw [if_pos hn]; exact hx 255 (by rw [if_pos hn])
    · rw [if_neg hn]; exact hx 128 (by rw [if_neg hn])
  by_cases h0 : n ≥ 0
  · rw [if_pos h0]
    simp only [Option.bind_some]
    by_cases h1 : n ≤ 8589934591
    · rw [if_pos (by simpa using h1), octal11 n h0 h1]
      simp only [Option.bind_some]
      rw [if_pos (by rw [show (dig11 n).length = 11 from rfl]; decide)]
      exact ⟨_, rfl, .inl ⟨rfl, rfl, byts_snoc _ (dig11_mem n), get_plain _ n (.inr rfl) (dig11_mem n) (oct11 n h0 h1)⟩⟩
    · rw [if_neg (by simpa using h1)]
      exact hbase
  · rw [if_neg h0]
    simp only [Option.bind_some]
    rw [if_neg (by decide)]
    exact hbase
theorem put_up (n w : Int) (p : List Int × Int) (h : numf_Put.f 100 n w = some p) (k : Nat) (hk : 100 ≤ k) : numf_Put.f k n w = some p := by
  obtain ⟨d, rfl⟩ : ∃ d, k = 100 + d := ⟨k - 100, by omega⟩
  clear hk
  induction d with
  | zero => exact h
  | succ d ih => exact numf_Put.mono n w (100 + d) p ih
end Go.Proofs.YtjidenkhgeoaiaaGreatDoor.Q6

/- Plain facts on headers: what head.Lay lays, head.Parse reads. -/
namespace Go.Proofs.YtjidenkhgeoaiaaGreatDoor.Q7
open Go.RowKit Go.Proofs.YtjidenkhgeoaiaaGreatDoor.P Go.Proofs.YtjidenkhgeoaiaaGreatDoor.Hand Go.Proofs.YtjidenkhgeoaiaaGreatDoorW.PrintWords Go.Proofs.YtjidenkhgeoaiaaGreatDoorW.PrintLast Go.Proofs.YtjidenkhgeoaiaaGreatDoorW.PrintMore
set_option linter.unusedVariables false
set_option linter.unusedSimpArgs false
open Q6 (Laid I64)
open Q4 (Byts)

theorem cut_get (l : List Int) (a b j : Nat) : (cutAt l a b)[j]? = if a + j < b then l[a + j]? else none := by
  unfold cutAt
  rw [List.getElem?_drop, List.getElem?_take]
theorem splice_get (L cs : List Int) (off j : Nat) (h : off + cs.length ≤ L.length) : (splice L off cs)[j]? = if off ≤ j ∧ j < off + cs.length then cs[j - off]? else L[j]? := by
  have ht : (L.take off).length = off := by rw [List.length_take]; omega
  unfold splice
  rw [List.getElem?_append, ht]
  by_cases h1 : j < off
  · rw [if_pos h1, if_neg (by omega), List.getElem?_take, if_pos h1]
  rw [if_neg h1, List.getElem?_append]
  by_cases h2 : j < off + cs.length
  · rw [if_pos (by omega), if_pos (by omega)]
  · rw [if_neg (by omega), if_neg (by omega), List.getElem?_drop]
    congr 1; omega
theorem rd_get (l : List Int) (i : Nat) : rd l (i : Int) = (l[i]?).getD 0 := by
  unfold rd; rw [Int.toNat_natCast, List.getD_eq_getElem?_getD]
/-- A piece put into a block. -/
theorem step (L : List Int) (off : Nat) (cs : List Int) (m : Nat) (hL : L.length = 512) (hB : Byts L) (hm : off + cs.length = m) (h5 : m ≤ 512) (hc : Byts cs) :
    ∃ L', splice L off cs = L' ∧ L'.length = 512 ∧ Byts L' ∧ (∀ a b, (b ≤ off ∨ m ≤ a) → cutAt L' a b = cutAt L a b) ∧ cutAt L' off m = cs ∧ (∀ i : Nat, (i < off ∨ m ≤ i) → rd L' i = rd L i) := by
  subst hm
  refine ⟨_, rfl, ?_, ?_, ?_, ?_, ?_⟩
  · rw [length_splice _ _ _ (by omega), hL]
  · intro x hx
    unfold splice at hx
    rcases List.mem_append.1 hx with hx | hx
    · exact hB x (List.mem_of_mem_take hx)
    rcases List.mem_append.1 hx with hx | hx
    · exact hc x hx
    · exact hB x (List.mem_of_mem_drop hx)
  · intro a b hab
    apply List.ext_getElem?
    intro j
    rw [cut_get, cut_get, splice_get _ _ _ _ (by omega)]
    by_cases hj : a + j < b
    · rw [if_pos hj, if_pos hj, if_neg (by omega)]
    · rw [if_neg hj, if_neg hj]
  · apply List.ext_getElem?
    intro j
    rw [cut_get, splice_get _ _ _ _ (by omega)]
    by_cases hj : j < cs.length
    · rw [if_pos (by omega), if_pos (by omega)]; congr 1; omega
    · rw [if_neg (by omega), List.getElem?_eq_none (by omega)]
  · intro i hi
    rw [rd_get, rd_get, splice_get _ _ _ _ (by omega), if_neg (by omega)]
theorem step_set (L : List Int) (x : Int) (hL : L.length = 512) (hB : Byts L) (hx : 0 ≤ x ∧ x < 256) :
    ∃ L', L.set 156 x = L' ∧ L'.length = 512 ∧ Byts L' ∧ (∀ a b, (b ≤ 156 ∨ 157 ≤ a) → cutAt L' a b = cutAt L a b) ∧ rd L' 156 = x := by
  refine ⟨_, rfl, ?_, ?_, ?_, ?_⟩
  · rw [List.length_set, hL]
  · intro y hy
    rcases List.mem_or_eq_of_mem_set hy with hy | rfl
    · exact hB y hy
    · exact hx
  · intro a b hab
    apply List.ext_getElem?
    intro j
    rw [cut_get, cut_get]
    by_cases hj : a + j < b
    · rw [if_pos hj, if_pos hj, List.getElem?_set_ne (by omega)]
    · rw [if_neg hj, if_neg hj]
  · rw [show (156 : Int) = ((156 : Nat) : Int) from rfl, rd_get, List.getElem?_set_self (by omega)]; rfl
theorem P_splice (l : List Int) : Q3.P l = splice l 148 (Q3.dig (Q3.S l) ++ [0, 32]) := by
  unfold Q3.P splice; rw [List.append_assoc]; rfl

theorem bytesOf_byts (s : ByteArray) : Byts (bytesOf s) := by
  intro x hx
  obtain ⟨b, _, rfl⟩ := List.mem_map.1 hx
  have := b.toNat_lt
  omega
/-- A text fits a field of that width. -/
def FitS (s : ByteArray) (w : Nat) : Prop := 1 ≤ w ∧ w ≤ 512 ∧ ¬ 0 ≤ Lib.indexByte s.data.toList 0 ∧ s.size ≤ w
def LaidS (s : ByteArray) (w : Nat) (p : List Int × Int) : Prop := (p.2 = 0 ∧ p.1.length = w ∧ Byts p.1 ∧ strf_Get.f p.1 = some (s, 0)) ∨ (p.2 ≠ 0 ∧ p.1 = [] ∧ ¬ FitS s w)
theorem strPut_laid (s : ByteArray) (w : Nat) : ∃ p, strf_Put.f s (w : Int) = some p ∧ LaidS s w p := by
  have : ∃ p, strf_Put.f s (w : Int) = some p ∧ ((p.2 = 0 ∧ Byts p.1) ∨ (p.2 ≠ 0 ∧ p.1 = [] ∧ ¬ FitS s w)) := by
    unfold strf_Put.f
    unfold FitS
    split
    · exact ⟨_, rfl, .inr ⟨by decide, rfl, by omega⟩⟩
    split
    · exact ⟨_, rfl, .inr ⟨by decide, rfl, by omega⟩⟩
    split
    · rename_i hz; exact ⟨_, rfl, .inr ⟨by decide, rfl, fun h => h.2.2.1 hz⟩⟩
    split
    · exact ⟨_, rfl, .inr ⟨by decide, rfl, by omega⟩⟩
    refine ⟨_, rfl, .inl ⟨rfl, ?_⟩⟩
    intro x hx
    rcases List.mem_append.1 hx with hx | hx
    · exact bytesOf_byts s x hx
    · have := List.eq_of_mem_replicate (List.mem_of_mem_drop hx)
      omega
  obtain ⟨⟨b, e⟩, hp, h⟩ := this
  refine ⟨_, hp, ?_⟩
  rcases h with ⟨h0, hb⟩ | h
  · obtain ⟨g, hl⟩ := Q.put_get s w b e hp h0
    exact .inl ⟨h0, Int.ofNat.inj hl, hb, g⟩
  · exact .inr h
theorem firstE_zero (a b : Int) : firstE a b = 0 ↔ a = 0 ∧ b = 0 := by
  unfold firstE; split
  · rename_i h; exact ⟨fun e => ⟨h, e⟩, fun e => e.2⟩
  · rename_i h; exact ⟨fun e => absurd e h, fun e => e.1⟩
theorem lay_ok (L : List Int) (a : Nat) (b : List Int) : layStep (0, L) a (b, 0) = (0, splice L a b) := by
  unfold layStep firstE; simp
theorem lay_zero (st : Int × List Int) (a : Nat) (p : List Int × Int) : (layStep st a p).1 = 0 ↔ st.1 = 0 ∧ p.2 = 0 := firstE_zero _ _
theorem numPut_laid (n : Int) (w : Nat) (hw : w = 8 ∨ w = 12) (h : I64 n) (k : Nat) (hk : 100 ≤ k) : ∃ p, numf_Put.f k n (w : Int) = some p ∧ Laid n w p := by
  rcases hw with rfl | rfl
  · obtain ⟨p, h1, h2⟩ := Q6.put8 n h; exact ⟨p, Q6.put_up n 8 p h1 k hk, h2⟩
  · obtain ⟨p, h1, h2⟩ := Q6.put12 n h; exact ⟨p, Q6.put_up n 12 p h1 k hk, h2⟩
theorem fit (at_ : Nat) (w : Nat) (p : List Int × Int) (h : at_ + w ≤ 512) (hp : p.1.length = w ∨ p.1 = []) : fitsB at_ p := by
  show at_ + p.1.length ≤ 512
  rcases hp with hp | hp
  · omega
  · rw [hp]; simp only [List.length_nil]; omega
theorem lenN {n : Int} {w : Nat} {p : List Int × Int} (h : Laid n w p) : p.1.length = w ∨ p.1 = [] := by
  rcases h with h | h
  · exact .inl h.2.1
  · exact .inr h.2.1
theorem lenS {n : ByteArray} {w : Nat} {p : List Int × Int} (h : LaidS n w p) : p.1.length = w ∨ p.1 = [] := by
  rcases h with h | h
  · exact .inl h.2.1
  · exact .inr h.2.1
theorem zN {n : Int} {w : Nat} {p : List Int × Int} (h : Laid n w p) (hf : Q6.FitN n w) : p.2 = 0 := h.elim (fun h => h.1) (fun h => absurd hf h.2.2)
theorem zS {n : ByteArray} {w : Nat} {p : List Int × Int} (h : LaidS n w p) (hf : FitS n w) : p.2 = 0 := h.elim (fun h => h.1) (fun h => absurd hf h.2.2)
theorem getN {n : Int} {w : Nat} {b : List Int} (h : Laid n w (b, 0)) : b.length = w ∧ Byts b ∧ numf_Get.f b = some (n, 0) := by
  rcases h with h | h
  · exact h.2
  · exact absurd rfl h.1
theorem getS {n : ByteArray} {w : Nat} {b : List Int} (h : LaidS n w (b, 0)) : b.length = w ∧ Byts b ∧ strf_Get.f b = some (n, 0) := by
  rcases h with h | h
  · exact h.2
  · exact absurd rfl h.1
theorem isType_some (x : Int) : ∃ b, head_IsType.f x = some b := by
  unfold head_IsType.f
  repeat (split; exact ⟨_, rfl⟩)
  exact ⟨_, rfl⟩
theorem isType_no (x : Int) (h : head_IsType.f x = some true) : x ≠ 0 := by
  rintro rfl
  exact absurd h (by decide)
theorem prefix_take (xs ys : List UInt8) (h : xs.take ys.length = ys) : Lib.hasPrefix xs ys = true := by
  show ys.isPrefixOf xs = true
  rw [List.isPrefixOf_iff_prefix]
  refine ⟨xs.drop ys.length, ?_⟩
  have := List.take_append_drop ys.length xs
  rw [h] at this; exact this
theorem magic_is (l : List Int) (h : cutAt l 257 265 = magicI) : Lib.hasPrefix (Lib.bytesOf (l.drop 257)) magicL = true := by
  apply prefix_take
  have e : (Lib.bytesOf (l.drop 257)).take magicL.length = Lib.bytesOf (cutAt l 257 265) := by
    unfold Lib.bytesOf cutAt
    rw [← List.map_take, List.drop_take]; rfl
  rw [e, h]; rfl
theorem zeros_byts : Byts zeros512 := by
  intro x hx
  have := List.eq_of_mem_replicate hx
  omega

/-- What a header must be, to be laid. -/
def Lays (p n q : ByteArray) (m u g t s y : Int) : Prop := head_IsType.f y = some true ∧ FitS p 155 ∧ FitS n 100 ∧ FitS q 100 ∧ Q6.FitN m 8 ∧ Q6.FitN u 8 ∧ Q6.FitN g 8 ∧ 0 ≤ m ∧ 0 ≤ u ∧ 0 ≤ g ∧ 0 ≤ s
theorem fit0 : Q6.FitN 0 8 := .inr ⟨by decide, by decide⟩
set_option maxRecDepth 100000 in
/-- What is laid is read. -/
theorem lay_parse (p n q : ByteArray) (m u g t s y : Int) (hm : I64 m) (hu : I64 u) (hg : I64 g) (ht : I64 t) (hs : I64 s) (hy : 0 ≤ y ∧ y < 256) (k : Nat) (hk : 700 ≤ k) :
    ∃ b e, head_Lay.f k p n m u g t s y q = some (b, e) ∧ ((e = 0 ∧ head_Parse.f k b = some (p, n, m, u, g, t, s, y, q, 0) ∧ b.length = 512) ∨ (e ≠ 0 ∧ b = [] ∧ ¬ Lays p n q m u g t s y)) := by
  unfold head_Lay.f
  obtain ⟨ty, hty⟩ := isType_some y
  rw [hty, Option.bind_some]
  cases ty
  · exact ⟨_, _, rfl, .inr ⟨by decide, rfl, fun hL => by have := hty.symm.trans hL.1; cases this⟩⟩
  rw [if_pos rfl]
  obtain ⟨⟨b0, e0⟩, h0, d0⟩ := strPut_laid p 155
  obtain ⟨⟨b1, e1⟩, h1, d1⟩ := strPut_laid n 100
  obtain ⟨⟨b2, e2⟩, h2, d2⟩ := strPut_laid q 100
  obtain ⟨⟨b3, e3⟩, h3, d3⟩ := numPut_laid m 8 (.inl rfl) hm k (by omega)
  obtain ⟨⟨b4, e4⟩, h4, d4⟩ := numPut_laid u 8 (.inl rfl) hu k (by omega)
  obtain ⟨⟨b5, e5⟩, h5, d5⟩ := numPut_laid g 8 (.inl rfl) hg k (by omega)
  obtain ⟨⟨b6, e6⟩, h6, d6⟩ := numPut_laid s 12 (.inr rfl) hs k (by omega)
  obtain ⟨⟨b7, e7⟩, h7, d7⟩ := numPut_laid t 12 (.inr rfl) ht k (by omega)
  obtain ⟨⟨b8, e8⟩, h8, d8⟩ := numPut_laid 0 8 (.inl rfl) (by unfold I64; omega) k (by omega)
  have hfit : fitsB 345 (b0, e0) ∧ fitsB 0 (b1, e1) ∧ fitsB 157 (b2, e2) ∧ fitsB 100 (b3, e3) ∧ fitsB 108 (b4, e4) ∧ fitsB 116 (b5, e5) ∧ fitsB 124 (b6, e6) ∧ fitsB 136 (b7, e7) ∧ fitsB 329 (b8, e8) ∧ fitsB 337 (b8, e8) :=
    ⟨fit 345 155 _ (by omega) (lenS d0), fit 0 100 _ (by omega) (lenS d1), fit 157 100 _ (by omega) (lenS d2), fit 100 8 _ (by omega) (lenN d3), fit 108 8 _ (by omega) (lenN d4), fit 116 8 _ (by omega) (lenN d5), fit 124 12 _ (by omega) (lenN d6), fit 136 12 _ (by omega) (lenN d7), fit 329 8 _ (by omega) (lenN d8), fit 337 8 _ (by omega) (lenN d8)⟩
  unfold head_fieldsL
  rw [show strf_Put.f p 155 = _ from h0, show strf_Put.f n 100 = _ from h1, show strf_Put.f q 100 = _ from h2, show numf_Put.f k m 8 = _ from h3, show numf_Put.f k u 8 = _ from h4, show numf_Put.f k g 8 = _ from h5, show numf_Put.f k s 12 = _ from h6, show numf_Put.f k t 12 = _ from h7, show numf_Put.f k 0 8 = _ from h8]
  simp only [Option.bind_some]
  rw [if_pos hfit, Option.bind_some]
  by_cases hz : (layStep (layStep (layStep (layStep (layStep (layStep (layStep (layStep (layStep (layStep (0, zeros512) 345 (b0, e0)) 0 (b1, e1)) 157 (b2, e2)) 100 (b3, e3)) 108 (b4, e4)) 116 (b5, e5)) 124 (b6, e6)) 136 (b7, e7)) 329 (b8, e8)) 337 (b8, e8)).1 = 0
  case neg =>
    rw [if_neg hz]
    refine ⟨_, _, rfl, .inr ⟨hz, rfl, fun hL => hz ?_⟩⟩
    obtain ⟨-, f0, f1, f2, f3, f4, f5, -⟩ := hL
    simp only [lay_zero]
    exact ⟨⟨⟨⟨⟨⟨⟨⟨⟨⟨trivial, zS d0 f0⟩, zS d1 f1⟩, zS d2 f2⟩, zN d3 f3⟩, zN d4 f4⟩, zN d5 f5⟩, zN d6 (.inl rfl)⟩, zN d7 (.inl rfl)⟩, zN d8 fit0⟩, zN d8 fit0⟩
  rw [if_pos hz]
  simp only [lay_zero] at hz
  obtain ⟨⟨⟨⟨⟨⟨⟨⟨⟨⟨-, rfl⟩, rfl⟩, rfl⟩, rfl⟩, rfl⟩, rfl⟩, rfl⟩, rfl⟩, rfl⟩, -⟩ := hz
  simp only [lay_ok]
  simp only [head_below.f, Option.bind_some]
  by_cases hbel : decide (mn (mn (mn m u) g) s < 0) = true
  · rw [if_pos hbel]
    refine ⟨_, _, rfl, .inr ⟨by decide, rfl, fun hL => ?_⟩⟩
    obtain ⟨-, -, -, -, -, -, -, f3, f4, f5, f6⟩ := hL
    rw [decide_eq_true_eq] at hbel
    unfold mn at hbel
    repeat' split at hbel
    all_goals omega
  rw [if_neg hbel]
  obtain ⟨l0, y0, g0⟩ := getS d0
  obtain ⟨l1, y1, g1⟩ := getS d1
  obtain ⟨l2, y2, g2⟩ := getS d2
  obtain ⟨l3, y3, g3⟩ := getN d3
  obtain ⟨l4, y4, g4⟩ := getN d4
  obtain ⟨l5, y5, g5⟩ := getN d5
  obtain ⟨l6, y6, g6⟩ := getN d6
  obtain ⟨l7, y7, g7⟩ := getN d7
  obtain ⟨l8, y8, g8⟩ := getN d8
  obtain ⟨L0, s0, n0, z0, o0, i0, -⟩ := step zeros512 345 b0 500 (by unfold zeros512; rw [List.length_replicate]) zeros_byts (by omega) (by omega) y0
  rw [s0]
  obtain ⟨L1, s1, n1, z1, o1, i1, -⟩ := step L0 0 b1 100 n0 z0 (by omega) (by omega) y1
  rw [s1]
  obtain ⟨L2, s2, n2, z2, o2, i2, -⟩ := step L1 157 b2 257 n1 z1 (by omega) (by omega) y2
  rw [s2]
  obtain ⟨L3, s3, n3, z3, o3, i3, -⟩ := step L2 100 b3 108 n2 z2 (by omega) (by omega) y3
  rw [s3]
  obtain ⟨L4, s4, n4, z4, o4, i4, -⟩ := step L3 108 b4 116 n3 z3 (by omega) (by omega) y4
  rw [s4]
  obtain ⟨L5, s5, n5, z5, o5, i5, -⟩ := step L4 116 b5 124 n4 z4 (by omega) (by omega) y5
  rw [s5]
  obtain ⟨L6, s6, n6, z6, o6, i6, -⟩ := step L5 124 b6 136 n5 z5 (by omega) (by omega) y6
  rw [s6]
  obtain ⟨L7, s7, n7, z7, o7, i7, -⟩ := step L6 136 b7 148 n6 z6 (by omega) (by omega) y7
  rw [s7]
  obtain ⟨L8, s8, n8, z8, o8, i8, -⟩ := step L7 329 b8 337 n7 z7 (by omega) (by omega) y8
  rw [s8]
  obtain ⟨L9, s9, n9, z9, o9, i9, -⟩ := step L8 337 b8 345 n8 z8 (by omega) (by omega) y8
  rw [s9]
  obtain ⟨LA, sA, nA, zA, oA, rA⟩ := step_set L9 y n9 z9 hy
  rw [sA]
  obtain ⟨X, sX, nX, zX, oX, iX, rX⟩ := step LA 257 magicI 265 nA zA rfl (by omega) (by intro x hx; simp only [magicI, List.mem_cons, List.not_mem_nil, or_false] at hx; omega)
  rw [sX, Q3.put_is X nX zX]
  have hr := Q3.S_range X nX zX
  have hd : Byts (Q3.dig (Q3.S X) ++ [0, 32]) := by
    intro x hx
    rcases List.mem_append.1 hx with hx | hx
    · have := Q3.dig_bytes _ x hx; omega
    · simp only [List.mem_cons, List.not_mem_nil, or_false] at hx; omega
  obtain ⟨B, sB, nB, zB, oB, iB, rB⟩ := step X 148 (Q3.dig (Q3.S X) ++ [0, 32]) 156 nX zX rfl (by omega) hd
  have hP : Q3.P X = B := (P_splice X).trans sB
  have hSB : Q3.S B = Q3.S X := by rw [← hP]; exact Q3.S_P X nX
  rw [hP]
  refine ⟨_, _, rfl, .inl ⟨rfl, ?_, nB⟩⟩
  have c0 : cutAt B 345 500 = b0 := by rw [oB _ _ (by omega), oX _ _ (by omega), oA _ _ (by omega), o9 _ _ (by omega), o8 _ _ (by omega), o7 _ _ (by omega), o6 _ _ (by omega), o5 _ _ (by omega), o4 _ _ (by omega), o3 _ _ (by omega), o2 _ _ (by omega), o1 _ _ (by omega), i0]
  have c1 : cutAt B 0 100 = b1 := by rw [oB _ _ (by omega), oX _ _ (by omega), oA _ _ (by omega), o9 _ _ (by omega), o8 _ _ (by omega), o7 _ _ (by omega), o6 _ _ (by omega), o5 _ _ (by omega), o4 _ _ (by omega), o3 _ _ (by omega), o2 _ _ (by omega), i1]
  have c2 : cutAt B 157 257 = b2 := by rw [oB _ _ (by omega), oX _ _ (by omega), oA _ _ (by omega), o9 _ _ (by omega), o8 _ _ (by omega), o7 _ _ (by omega), o6 _ _ (by omega), o5 _ _ (by omega), o4 _ _ (by omega), o3 _ _ (by omega), i2]
  have c3 : cutAt B 100 108 = b3 := by rw [oB _ _ (by omega), oX _ _ (by omega), oA _ _ (by omega), o9 _ _ (by omega), o8 _ _ (by omega), o7 _ _ (by omega), o6 _ _ (by omega), o5 _ _ (by omega), o4 _ _ (by omega), i3]
  have c4 : cutAt B 108 116 = b4 := by rw [oB _ _ (by omega), oX _ _ (by omega), oA _ _ (by omega), o9 _ _ (by omega), o8 _ _ (by omega), o7 _ _ (by omega), o6 _ _ (by omega), o5 _ _ (by omega), i4]
  have c5 : cutAt B 116 124 = b5 := by rw [oB _ _ (by omega), oX _ _ (by omega), oA _ _ (by omega), o9 _ _ (by omega), o8 _ _ (by omega), o7 _ _ (by omega), o6 _ _ (by omega), i5]
  have c6 : cutAt B 124 136 = b6 := by rw [oB _ _ (by omega), oX _ _ (by omega), oA _ _ (by omega), o9 _ _ (by omega), o8 _ _ (by omega), o7 _ _ (by omega), i6]
  have c7 : cutAt B 136 148 = b7 := by rw [oB _ _ (by omega), oX _ _ (by omega), oA _ _ (by omega), o9 _ _ (by omega), o8 _ _ (by omega), i7]
  have cM : cutAt B 257 265 = magicI := by rw [oB _ _ (by omega), iX]
  have cT : rd B 156 = y := by
    have e1 := rB 156 (by omega)
    have e2 := rX 156 (by omega)
    exact e1.trans (e2.trans rA)
  have hT : typeOf B = y := by unfold typeOf; rw [cT, if_neg (isType_no y hty)]
  unfold head_Parse.f
  rw [Q3.check_is B (Q3.S X) nB zB (show (B.take 156).drop 148 = _ from iB) (by omega) (by omega) k (by omega), if_pos hSB, Option.bind_some, if_pos rfl, if_pos nB, if_pos (magic_is B cM)]
  unfold head_fields
  rw [c0, c1, c2, c3, c4, c5, c6, c7, g0, g1, g2, g3, g4, g5, g6, g7, hT]
  have fz : ∀ a, firstE 0 a = a := fun a => if_pos rfl
  simp only [Option.bind_some, fz, hty, if_true, head_below.f]
  rw [if_neg hbel]
end Go.Proofs.YtjidenkhgeoaiaaGreatDoor.Q7

/- Plain facts on records: a number's digits, the least length that tells itself, what may be. -/
namespace Go.Proofs.YtjidenkhgeoaiaaGreatDoor.Qr
open Go.RowKit Go.Proofs.YtjidenkhgeoaiaaGreatDoor.P Go.Proofs.YtjidenkhgeoaiaaGreatDoorW.PrintWords Go.Proofs.YtjidenkhgeoaiaaGreatDoorW.PrintLast Go.Proofs.YtjidenkhgeoaiaaGreatDoorW.PrintMore Go.Proofs.YtjidenkhgeoaiaaGreatDoor.Hand
set_option linter.unusedVariables false
set_option linter.unusedSimpArgs false

theorem ext_list (a b : ByteArray) (h : a.data.toList = b.data.toList) : a = b := by
  cases a; cases b; simp only [ByteArray.mk.injEq]; exact Array.toList_inj.1 h
theorem toL (s : ByteArray) : s.toList = s.data.toList := Lib.toList_data s
theorem szL (s : ByteArray) : s.size = s.data.toList.length := Lib.size_eq s
theorem extL (s : ByteArray) (a b : Nat) : (s.extract a b).data.toList = (s.data.toList.drop a).take (b - a) := Lib.extract_data s a b
theorem appL (s t : ByteArray) : (s ++ t).data.toList = s.data.toList ++ t.data.toList := by
  rw [ByteArray.data_append, Array.toList_append]
theorem numsL (xs : List Int) : (strOfNums xs).data.toList = Lib.bytesOf xs := rfl
theorem wrap_id {i : Int} (h0 : -9223372036854775808 ≤ i) (h : i < 9223372036854775808) : wrap64 i = i := by unfold wrap64; omega
def Bytes (l : List Int) : Prop := ∀ x ∈ l, 0 ≤ x ∧ x < 256
theorem rd_at (l : List Int) (i : Nat) (h : i < l.length) : rd l (i : Int) = l[i] := by
  unfold rd; rw [Int.toNat_natCast, List.getD_eq_getElem?_getD, List.getElem?_eq_getElem h]; rfl
/-- How many digits. -/
def nd (n : Int) : Int := if n < 10 then 1 else if n < 100 then 2 else if n < 1000 then 3 else 4
theorem dec_len (u : Nat) (h : u < 10000) : ((Lib.decDigits u).length : Int) = nd u := by
  unfold nd
  rw [Lib.decDigits]
  split
  · rw [if_pos (by omega)]; rfl
  · rw [Lib.decDigits]
    split
    · rw [if_neg (by omega), if_pos (by omega)]; rfl
    · rw [Lib.decDigits]
      split
      · rw [if_neg (by omega), if_neg (by omega), if_pos (by omega)]; rfl
      · rw [Lib.decDigits]
        split
        · rw [if_neg (by omega), if_neg (by omega), if_neg (by omega)]; rfl
        · omega
theorem digs_is (n : Int) (h0 : 0 ≤ n) (h : n < 10000) : digs n = nd n := by
  unfold digs
  rw [szL, Lib.itoa, if_neg (by omega), dec_len _ (by omega), show ((n.toNat : Nat) : Int) = n by omega]
/-- The length that tells itself. -/
def L (r : Int) : Int := if r + 1 < 10 then r + 1 else if r + 2 < 100 then r + 2 else if r + 3 < 1000 then r + 3 else r + 4
theorem lenLoop_go (k : Nat) (r m d : Int) (h0 : 0 ≤ m) (h : m < 10000) (hr : 0 ≤ r) (hr2 : r < 10000) (hd : nd m = d) : lenLoop (k + 1) r m = if r + d = m then some m else lenLoop k r (r + d) := by
  have h4 : 1 ≤ nd m ∧ nd m ≤ 4 := by unfold nd; (repeat' split) <;> omega
  rw [lenLoop, digs_is m h0 h, wrap_id (by omega) (by omega), hd]
theorem len_is (k : Nat) (r : Int) (h0 : 4 ≤ r) (h : r ≤ 2063) : lenLoop (k + 3) r r = some (L r) := by
  have go : ∀ d : Int, nd r = d → ∀ e : Int, nd (r + d) = e → (e = d ∨ (e = d + 1 ∧ nd (r + e) = e)) → lenLoop (k + 3) r r = some (r + e) := by
    intro d hd e he hc
    have hd4 : 1 ≤ d ∧ d ≤ 4 := by rw [← hd]; unfold nd; (repeat' split) <;> omega
    rw [lenLoop_go (k + 2) r r d (by omega) (by omega) (by omega) (by omega) hd, if_neg (by omega), lenLoop_go (k + 1) r (r + d) e (by omega) (by omega) (by omega) (by omega) he]
    rcases hc with rfl | ⟨h1, h2⟩
    · rw [if_pos rfl]
    · rw [if_neg (by omega), lenLoop_go k r (r + e) e (by omega) (by omega) (by omega) (by omega) h2, if_pos rfl]
  have hL : ∃ d e : Int, nd r = d ∧ nd (r + d) = e ∧ (e = d ∨ (e = d + 1 ∧ nd (r + e) = e)) ∧ L r = r + e := by
    refine ⟨nd r, nd (r + nd r), rfl, rfl, ?_, ?_⟩
    · unfold nd; (repeat' split) <;> omega
    · unfold nd L; (repeat' split) <;> omega
  obtain ⟨d, e, h1, h2, h3, h4⟩ := hL
  rw [go d h1 e h2 h3, h4]

end Go.Proofs.YtjidenkhgeoaiaaGreatDoor.Qr

/- Plain facts on records: what may be, and a record's length, told by both. -/
namespace Go.Proofs.YtjidenkhgeoaiaaGreatDoor.Qr
open Go.RowKit Go.Proofs.YtjidenkhgeoaiaaGreatDoor.P Go.Proofs.YtjidenkhgeoaiaaGreatDoorW.PrintWords Go.Proofs.YtjidenkhgeoaiaaGreatDoorW.PrintLast Go.Proofs.YtjidenkhgeoaiaaGreatDoorW.PrintMore Go.Proofs.YtjidenkhgeoaiaaGreatDoor.Hand
set_option linter.unusedVariables false
set_option linter.unusedSimpArgs false

def badB (b : UInt8) : Bool := b == 61 || b == 10 || b == 0
theorem any_is (s : List UInt8) : Lib.containsAny s [61, 10, 0] = s.any badB := by
  unfold Lib.containsAny
  induction s with
  | nil => rfl
  | cons b l ih =>
    have hg := Lib.indexAny_ge [61, 10, 0] l
    have hc : ([61, 10, 0] : List UInt8).contains b = badB b := by simp only [List.contains_cons, List.contains_nil, Bool.or_false, badB, Bool.or_assoc]
    rw [Lib.indexAny, hc, List.any_cons]
    cases hb : badB b
    · rw [if_neg (by decide), ← ih, Bool.false_or]
      by_cases e : Lib.indexAny l [61, 10, 0] = -1
      · rw [e]; rfl
      · rw [if_neg (by simpa using e)]
        rw [decide_eq_true (by omega), decide_eq_true (by omega)]
    · rfl
def mayE (a0 a1 : ByteArray) : Int := if (a0.data.toList.any badB = true ∨ a0.size < 1 ∨ 60 < a0.size) then 3 else if 2000 < a1.size then 10 else 0
theorem may_mine (k : Nat) (a0 a1 : ByteArray) (h : a0.size < 4294967281) : recs_May.f (k + 1) a0 a1 = some (mayE a0 a1) := by
  unfold recs_May.f mayE
  have j : ∀ x, recs_May.j0 (k + 1) x a0 a1 = if x = true then some 3 else if 2000 < a1.size then some 10 else some 0 := by
    intro x
    rw [recs_May.j0]
    by_cases h2 : 2000 < a1.size
    · rw [if_pos (show (a1.size : Int) > 2000 by omega), if_pos h2]
    · rw [if_neg (show ¬ (a1.size : Int) > 2000 by omega), if_neg h2]
  by_cases c1 : a0.toList = ([] : List UInt8)
  · have : a0.size = 0 := by rw [szL, ← toL, c1]; rfl
    rw [if_pos c1, j, if_pos rfl, if_pos (.inr (.inl (by omega)))]
  rw [if_neg c1]
  have hs : 1 ≤ a0.size := by
    rw [szL, ← toL]; exact List.length_pos_iff.2 c1
  by_cases c2 : 60 < a0.size
  · rw [if_pos (show (a0.size : Int) > 60 by omega), j, if_pos rfl, if_pos (.inr (.inr c2))]
  rw [if_neg (show ¬ (a0.size : Int) > 60 by omega)]
  unfold strings_ContainsAny.f
  rw [if_pos ⟨by decide, by decide, h, by decide⟩, Option.bind_some, j, show (⟨#[61, 10, 0]⟩ : ByteArray).data.toList = [61, 10, 0] from rfl, any_is]
  by_cases c3 : a0.data.toList.any badB = true
  · rw [if_pos c3, if_pos (.inl c3)]
  · have hno : ¬ (a0.data.toList.any badB = true ∨ a0.size < 1 ∨ 60 < a0.size) := fun h => h.elim c3 fun h => h.elim (fun h => by omega) c2
    rw [if_neg c3, if_neg hno]
    split <;> rfl
theorem may_zero (a0 a1 : ByteArray) (h : mayE a0 a1 = 0) : a0.data.toList.any badB = false ∧ 1 ≤ a0.size ∧ a0.size ≤ 60 ∧ a1.size ≤ 2000 := by
  unfold mayE at h
  split at h
  · cases h
  · rename_i c
    split at h
    · cases h
    · refine ⟨?_, ?_, ?_, ?_⟩
      · cases e : a0.data.toList.any badB
        · rfl
        · exact absurd (.inl e) c
      all_goals omega
def T (a0 a1 : ByteArray) : ByteArray := (((((⟨#[32]⟩ : ByteArray) ++ a0) ++ (⟨#[61]⟩ : ByteArray)) ++ a1) ++ (⟨#[10]⟩ : ByteArray))
theorem T_size (a0 a1 : ByteArray) : (T a0 a1).size = a0.size + a1.size + 3 := by
  unfold T
  simp only [ByteArray.size_append]
  show 1 + a0.size + 1 + a1.size + 1 = _
  omega
theorem text_is (a0 a1 : ByteArray) (h0 : a0.size ≤ 100000) (h1 : a1.size ≤ 100000) : recs_text.f a0 a1 = some (T a0 a1) := by
  unfold recs_text.f
  have e32 : (⟨#[32]⟩ : ByteArray).size = 1 := rfl
  have e61 : (⟨#[61]⟩ : ByteArray).size = 1 := rfl
  simp only [ByteArray.size_append, e32, e61]
  rw [if_pos (by omega), if_pos (by omega), if_pos (by omega), if_pos (by omega)]
  rfl
theorem len_mine (a0 a1 : ByteArray) (h0 : a0.size ≤ 100000) : recs_Len.f a0 a1 = some (if mayE a0 a1 = 0 then L (a0.size + a1.size + 3) else 0) := by
  unfold recs_Len.f
  rw [show (20 : Nat) = 19 + 1 by rfl, may_mine 19 a0 a1 (by omega), Option.bind_some]
  by_cases c : mayE a0 a1 = 0
  · obtain ⟨_, h2, h3, h4⟩ := may_zero a0 a1 c
    rw [if_pos c, if_pos c, text_is a0 a1 h0 (by omega), Option.bind_some, if_pos (by rw [T_size]; omega), T_size, show 19 + 1 = 17 + 3 by rfl]
    have := len_is 17 ((a0.size : Int) + a1.size + 3) (by omega) (by omega)
    rw [show (((a0.size + a1.size + 3 : Nat)) : Int) = (a0.size : Int) + a1.size + 3 by omega, this]
  · rw [if_neg c, if_neg c]
end Go.Proofs.YtjidenkhgeoaiaaGreatDoor.Qr

/- Plain facts on records: one record's bytes, as the code tells them. -/
namespace Go.Proofs.YtjidenkhgeoaiaaGreatDoor.Qr
open Go.RowKit Go.Proofs.YtjidenkhgeoaiaaGreatDoor.P Go.Proofs.YtjidenkhgeoaiaaGreatDoorW.PrintWords Go.Proofs.YtjidenkhgeoaiaaGreatDoorW.PrintLast Go.Proofs.YtjidenkhgeoaiaaGreatDoorW.PrintMore Go.Proofs.YtjidenkhgeoaiaaGreatDoor.Hand
set_option linter.unusedVariables false
set_option linter.unusedSimpArgs false
/-- A record's bytes. -/
def B (a0 a1 : ByteArray) : List Int := if mayE a0 a1 = 0 then digL (L (a0.size + a1.size + 3)) ++ bytesOf (T a0 a1) else []
theorem L_bd (r : Int) (h0 : 4 ≤ r) (h : r ≤ 2063) : r + 1 ≤ L r ∧ L r ≤ r + 4 ∧ L r = r + nd (L r) := by
  unfold L nd; (repeat' split) <;> omega
theorem digL_len (n : Int) (h0 : 0 ≤ n) (h : n < 10000) : ((digL n).length : Int) = nd n := by
  unfold digL
  rw [List.length_map, Lib.itoa, if_neg (by omega), dec_len _ (by omega), show ((n.toNat : Nat) : Int) = n by omega]
theorem B_len (a0 a1 : ByteArray) (h : mayE a0 a1 = 0) : ((B a0 a1).length : Int) = L (a0.size + a1.size + 3) := by
  obtain ⟨_, h2, h3, h4⟩ := may_zero a0 a1 h
  have hL := L_bd ((a0.size : Int) + a1.size + 3) (by omega) (by omega)
  unfold B
  rw [if_pos h, List.length_append, bytesOf_length, T_size]
  have := digL_len (L ((a0.size : Int) + a1.size + 3)) (by omega) (by omega)
  omega
theorem B_len0 (a0 a1 : ByteArray) (h : mayE a0 a1 ≠ 0) : B a0 a1 = [] := by unfold B; rw [if_neg h]
theorem B_max (a0 a1 : ByteArray) : (B a0 a1).length ≤ 2070 := by
  by_cases h : mayE a0 a1 = 0
  · obtain ⟨_, h2, h3, h4⟩ := may_zero a0 a1 h
    have hL := L_bd ((a0.size : Int) + a1.size + 3) (by omega) (by omega)
    have := B_len a0 a1 h
    omega
  · rw [B_len0 a0 a1 h]; simp
theorem one_mine_is (a0 a1 : ByteArray) (hs : a0.size ≤ 100000) : recs_One.f a0 a1 = some (B a0 a1, mayE a0 a1) := by
  unfold recs_One.f B
  rw [show (20 : Nat) = 19 + 1 by rfl, may_mine 19 a0 a1 (by omega), Option.bind_some]
  by_cases c : mayE a0 a1 = 0
  · obtain ⟨_, h2, h3, h4⟩ := may_zero a0 a1 c
    have hL := L_bd ((a0.size : Int) + a1.size + 3) (by omega) (by omega)
    have hd := digL_len (L ((a0.size : Int) + a1.size + 3)) (by omega) (by omega)
    have h4' : nd (L ((a0.size : Int) + a1.size + 3)) ≤ 4 := by unfold nd; (repeat' split) <;> omega
    have hi : (Lib.itoa (L ((a0.size : Int) + a1.size + 3))).length ≤ 100 := by unfold digL at hd; rw [List.length_map] at hd; omega
    rw [if_pos c, if_pos c, len_mine a0 a1 hs, if_pos c, Option.bind_some, text_is a0 a1 (by omega) (by omega), Option.bind_some, if_pos ⟨by omega, by omega, by rw [T_size]; omega, hi⟩, c]
  · rw [if_neg c, if_neg c]

end Go.Proofs.YtjidenkhgeoaiaaGreatDoor.Qr

/- Plain facts: what a member's bytes are made of, and what is read of them. -/
namespace Go.Proofs.YtjidenkhgeoaiaaGreatDoor.Q8
open Go.RowKit Go.Proofs.YtjidenkhgeoaiaaGreatDoor.P Go.Proofs.YtjidenkhgeoaiaaGreatDoorW.PrintWords Go.Proofs.YtjidenkhgeoaiaaGreatDoorW.PrintLast Go.Proofs.YtjidenkhgeoaiaaGreatDoorW.PrintMore Go.Proofs.YtjidenkhgeoaiaaGreatDoor.Hand Go.Proofs.YtjidenkhgeoaiaaGreatDoor.Q5
set_option linter.unusedVariables false
set_option linter.unusedSimpArgs false
abbrev SA := Qf.SA
theorem name_zero (l : List UInt8) (h : isName l = true) : (0 : UInt8) ∉ l ∧ 1 ≤ l.length := by
  unfold isName okBytes at h
  simp only [Bool.and_eq_true, decide_eq_true_eq, List.all_eq_true] at h
  refine ⟨fun hm => ?_, h.1.1.1.2⟩
  have := h.1.1.1.1 0 hm
  simp at this
theorem pieces_zero : ∀ (n : Nat) (s : ByteArray), s.size ≤ n → (∀ x ∈ pieces 47 s, (0 : UInt8) ∉ x.data.toList) → (0 : UInt8) ∉ s.data.toList := by
  intro n
  induction n with
  | zero =>
    intro s hs h
    rw [List.eq_nil_of_length_eq_zero (by rw [← Q.szL]; omega : s.data.toList.length = 0)]
    simp
  | succ n ih =>
    intro s hs h
    by_cases c : Lib.indexByte s.data.toList 47 < 0
    · have := Lib.indexByte_ge s.data.toList 47
      rw [pieces_miss 47 s (by omega)] at h
      exact h s (by simp)
    · obtain ⟨pre, post, e1, e2, e3⟩ := Q.index_some _ _ (Int.not_lt.1 c)
      have hi : Lib.indexByte s.data.toList 47 = (pre.length : Int) := by rw [← e3]; omega
      rw [pieces_hit 47 s pre.length hi] at h
      have hp : (s.extract 0 pre.length).data.toList = pre := by rw [Q.extL, List.drop_zero, Nat.sub_zero, e1, List.take_left' rfl]
      have hq : (s.extract (pre.length + 1) s.size).data.toList = post := by rw [Lib.extract_to_end, e1, ← List.drop_drop, List.drop_left' rfl]; rfl
      have hz : post.length + 1 + pre.length = s.size := by rw [Q.szL, e1, List.length_append, List.length_cons]; omega
      have h1 := h _ (List.mem_cons_self ..)
      have h2 := ih (s.extract (pre.length + 1) s.size) (by rw [Q.szL, hq]; omega) (fun x hx => h x (List.mem_cons_of_mem _ hx))
      rw [hp] at h1
      rw [hq] at h2
      rw [e1]
      simp only [List.mem_append, List.mem_cons, not_or]
      exact ⟨h1, by decide, h2⟩
theorem ok_path (p : ByteArray) (h : okP p = true) : p.size ≤ 300 ∧ 1 ≤ p.size ∧ (0 : UInt8) ∉ p.data.toList := by
  unfold okP partsOf at h
  split at h
  case isFalse => simp at h
  rename_i hc
  obtain ⟨h1, h2⟩ := hc
  unfold allOk at h2
  rw [List.all_eq_true] at h2
  refine ⟨h1, ?_, pieces_zero p.size p (Nat.le_refl _) (fun x hx => (name_zero _ (h2 x hx)).1)⟩
  by_cases e : p.size = 0
  · have he : p.data.toList = [] := List.eq_nil_of_length_eq_zero (by rw [← Q.szL]; exact e)
    have hm := pieces_miss 47 p (by rw [he]; rfl)
    have := (name_zero _ (h2 p (by rw [hm]; simp))).2
    rw [he] at this
    simp at this
  · omega
theorem fitS (s : ByteArray) (w : Nat) (h0 : (0 : UInt8) ∉ s.data.toList) (h : s.size ≤ w) (h1 : 1 ≤ w) (h2 : w ≤ 512) : Q7.FitS s w :=
  ⟨h1, h2, fun hn => by have := (Q.index_none s.data.toList 0).2 h0; omega, h⟩
/-- The first bytes of a text, as many as a field has. -/
def fst8 (s : ByteArray) : ByteArray := s.extract 0 (mn (s.size : Int) 100).toNat
theorem mn_100 (s : ByteArray) : 0 ≤ mn (s.size : Int) 100 ∧ mn (s.size : Int) 100 ≤ (s.size : Int) ∧ mn (s.size : Int) 100 ≤ 100 ∧ (s.size ≤ 100 → mn (s.size : Int) 100 = (s.size : Int)) := by
  unfold mn; split <;> omega
theorem first_is (s : ByteArray) : memb_first.f s = some (fst8 s) := by
  obtain ⟨h1, h2, -⟩ := mn_100 s
  rw [memb_first.f, if_pos h1, if_pos h2]; rfl
theorem fst8_list (s : ByteArray) : (fst8 s).data.toList = s.data.toList.take (mn (s.size : Int) 100).toNat := by
  unfold fst8; rw [Q.extL, List.drop_zero, Nat.sub_zero]
theorem fst8_size (s : ByteArray) : (fst8 s).size ≤ 100 := by
  obtain ⟨h1, h2, h3, -⟩ := mn_100 s
  rw [Q.szL, fst8_list, List.length_take]; omega
theorem fst8_zero (s : ByteArray) (h : (0 : UInt8) ∉ s.data.toList) : (0 : UInt8) ∉ (fst8 s).data.toList := by
  rw [fst8_list]; exact fun hm => h (List.mem_of_mem_take hm)
theorem fst8_short (s : ByteArray) (h : s.size ≤ 100) : fst8 s = s := by
  apply Q.ext_list
  rw [fst8_list, (mn_100 s).2.2.2 h, Int.toNat_natCast, Q.szL, List.take_length]
/-- The type of a kind. -/
def T8 (a : Int) : Int := if a = 1 then 48 else if a = 2 then 49 else if a = 3 then 50 else if a = 4 then 53 else 0
/-- How a path is parted. -/
structure Parted (p pre nm : ByteArray) (ok : Bool) : Prop where
  split : ∃ n0, strf_Split.f p = some (pre, n0, ok) ∧ nm = (if ok = true then n0 else fst8 p)
  fit1 : Q7.FitS pre 155
  fit2 : Q7.FitS nm 100
  join : ok = true → strf_Join.f pre nm = some p
  none : ok = false → pre = ⟨#[]⟩
theorem zero_nil : (0 : UInt8) ∉ (⟨#[]⟩ : ByteArray).data.toList := by decide
theorem parted (p : ByteArray) (h : okP p = true) : ∃ pre nm ok, Parted p pre nm ok := by
  obtain ⟨h1, h2, h3⟩ := ok_path p h
  obtain ⟨⟨pre, n0, ok⟩, hs, hc⟩ := Q.split_good p (by omega)
  rcases hc with ⟨hr, hne, hsz⟩ | ⟨hb, hg⟩
  · simp only [Prod.mk.injEq] at hr
    obtain ⟨rfl, rfl, rfl⟩ := hr
    exact ⟨_, _, _, ⟨n0, hs, by rw [if_pos rfl]⟩, fitS _ _ zero_nil (by decide) (by omega) (by omega), fitS _ _ h3 hsz (by omega) (by omega), fun _ => by rw [strf_Join.f, if_pos (by rw [Q.toL])], fun h => by cases h⟩
  · rcases hg with ⟨e1, e2, e3⟩ | ⟨e1, e2, e3, e4, e5, e6⟩
    · simp only at e1 e2 e3
      subst e1 e2 e3
      exact ⟨_, _, _, ⟨_, hs, rfl⟩, fitS _ _ zero_nil (by decide) (by omega) (by omega), fitS _ _ (by rw [if_neg (by decide)]; exact fst8_zero p h3) (by rw [if_neg (by decide)]; exact fst8_size p) (by omega) (by omega), fun h => (by cases h), fun _ => rfl⟩
    · simp only at e1 e2 e3 e4 e5 e6
      subst e1
      rw [e2] at h3
      simp only [List.mem_append, List.mem_cons, not_or] at h3
      have hl := congrArg List.length e2
      simp only [List.length_append, List.length_cons] at hl
      rw [← Q.szL, ← Q.szL, ← Q.szL] at hl
      refine ⟨_, _, _, ⟨n0, hs, by rw [if_pos rfl]⟩, fitS _ _ h3.1 e4 (by omega) (by omega), fitS _ _ h3.2.2 e6 (by omega) (by omega), fun _ => ?_, fun h => by cases h⟩
      rw [strf_Join.f, if_neg (by rw [Q.toL]; exact e3), if_pos (by omega), if_pos (by rw [Q.szL, Q.appL, List.length_append, ← Q.szL]; simp; omega)]
      congr 1
      apply Q.ext_list
      rw [Q.appL, Q.appL, e2, List.append_assoc]; rfl
def kP : ByteArray := ⟨#[112, 97, 116, 104]⟩
def kL : ByteArray := ⟨#[108, 105, 110, 107, 112, 97, 116, 104]⟩
/-- The records that a member needs. -/
def recsOf (p q : ByteArray) (ok : Bool) : List SA := (if ok = true then [] else [(⟨kP, p⟩ : SA)]) ++ (if 100 < q.size then [(⟨kL, q⟩ : SA)] else [])
theorem recs_is (p : ByteArray) (kd m u g t : Int) (q : ByteArray) (d : List Int) (pre nm : ByteArray) (ok : Bool) (h : Parted p pre nm ok) : memb_Recs.f p kd m u g t q d = some (recsOf p q ok) := by
  obtain ⟨n0, hs, -⟩ := h.split
  unfold memb_Recs.f strf_Fits.f recsOf
  rw [hs]
  simp only [Option.bind_some, List.length_nil, List.nil_append]
  by_cases c : 100 < q.size
  · have c' : 100 < (q.size : Int) := by omega
    cases ok <;> simp [c, c', kP, kL]
  · have c' : ¬ 100 < (q.size : Int) := by omega
    cases ok <;> simp [c, c', kP, kL]
theorem find_path (p q : ByteArray) (ok : Bool) : recs_Find.f (recsOf p q ok) kP = some (if ok = true then (⟨#[]⟩, false) else (p, true)) := by
  have e1 : ¬ kL.toList = kP.toList := by decide +kernel
  unfold recs_Find.f recsOf
  cases ok <;> by_cases c : 100 < q.size <;> simp [c, lastOf, rdS, rd_T35, e1]
theorem find_link (p q : ByteArray) (ok : Bool) : recs_Find.f (recsOf p q ok) kL = some (if 100 < q.size then (q, true) else (⟨#[]⟩, false)) := by
  have e1 : ¬ kP.toList = kL.toList := by decide +kernel
  unfold recs_Find.f recsOf
  cases ok <;> by_cases c : 100 < q.size <;> simp [c, lastOf, rdS, rd_T35, e1]
theorem kind_T8 (kd : Int) (h1 : 1 ≤ kd) (h4 : kd ≤ 4) : memb_Kind.f (T8 kd) = some kd ∧ head_IsType.f (T8 kd) = some true ∧ 0 ≤ T8 kd ∧ T8 kd < 256 := by
  have : kd = 1 ∨ kd = 2 ∨ kd = 3 ∨ kd = 4 := by omega
  rcases this with rfl | rfl | rfl | rfl <;> exact ⟨by decide +kernel, by decide +kernel, by decide, by decide⟩
/-- What is read of a member's header, its records and its bytes. -/
theorem from_back (p : ByteArray) (kd m u g t s : Int) (q : ByteArray) (d : List Int) (pre nm : ByteArray) (ok : Bool) (h : Parted p pre nm ok) (h1 : 1 ≤ kd) (h4 : kd ≤ 4) (hd : d.length ≤ 5000) (k : Nat) (hk : 2 ≤ k) :
    memb_From.f k pre nm m u g t s (T8 kd) (fst8 q) (recsOf p q ok) d = some (fromOf p kd m u g t q d) := by
  obtain ⟨k, rfl⟩ : ∃ j, k = j + 2 := ⟨k - 2, by omega⟩
  obtain ⟨P, hP, hP2⟩ : ∃ P, strf_Join.f pre nm = some P ∧ (ok = true → P = p) := by
    cases ok with
    | true => exact ⟨p, h.join rfl, fun _ => rfl⟩
    | false => exact ⟨nm, by rw [h.none rfl, strf_Join.f, if_pos (by rw [Q.toL])], fun h => by cases h⟩
  have hj0 : memb_From.j0 (k + 2) (recsOf p q ok) d p kd m u g t (fst8 q) = some (fromOf p kd m u g t q d) := by
    rw [memb_From.j0, show recs_Find.f (recsOf p q ok) (⟨#[108, 105, 110, 107, 112, 97, 116, 104]⟩ : ByteArray) = _ from find_link p q ok, Option.bind_some]
    by_cases c : 100 < q.size
    · simp only [if_pos c]
      rw [if_pos trivial, mine_j1 _ _ _ _ _ _ _ _ _ (by omega)]
    · simp only [if_neg c]
      rw [if_neg (by decide), mine_j1 _ _ _ _ _ _ _ _ _ (by omega), fst8_short q (by omega)]
  unfold memb_From.f head_Path.f
  rw [hP]
  simp only [Option.bind_some]
  rw [(kind_T8 kd h1 h4).1, Option.bind_some, show recs_Find.f (recsOf p q ok) (⟨#[112, 97, 116, 104]⟩ : ByteArray) = _ from find_path p q ok, Option.bind_some]
  cases ok with
  | true => simp only [if_pos]; rw [if_neg (by decide), hP2 rfl, hj0]
  | false => simp only [Bool.false_eq_true, if_false]; rw [if_pos trivial, hj0]
/-- The bytes that fill a block. -/
theorem pad_is (n : Nat) (hn : n ≤ 1000000) : ∃ z : Nat, blocks_Pad.f (n : Int) = some (z : Int) ∧ n + z = (n + 511) / 512 * 512 := by
  by_cases c : (n : Int) < 1
  · exact ⟨0, by rw [blocks_Pad.f, if_pos c]; rfl, by omega⟩
  · have e1 : Int.tmod (n : Int) 512 = ((n % 512 : Nat) : Int) := by rw [Int.tmod_eq_emod_of_nonneg (by omega)]; omega
    have e2 : wrap64 (512 - Int.tmod (n : Int) 512) = ((512 - n % 512 : Nat) : Int) := by rw [e1]; unfold wrap64; omega
    have e3 : Int.tmod ((512 - n % 512 : Nat) : Int) 512 = (((512 - n % 512) % 512 : Nat) : Int) := by rw [Int.tmod_eq_emod_of_nonneg (by omega)]; omega
    exact ⟨(512 - n % 512) % 512, by rw [blocks_Pad.f, if_neg c, e2, e3], by omega⟩
theorem fill_is (d : List Int) (hd : d.length ≤ 1000000) : ∃ z : Nat, blocks_Fill.f d = some (d ++ List.replicate z 0) ∧ d.length + z = (d.length + 511) / 512 * 512 := by
  obtain ⟨z, h1, h2⟩ := pad_is d.length hd
  refine ⟨z, ?_, h2⟩
  rw [blocks_Fill.f, bytes_Clone.f, if_pos (by omega)]
  simp only [Option.bind_some]
  rw [h1]
  simp only [Option.bind_some, Int.toNat_natCast]
  rw [if_pos (by omega), if_pos (by omega)]
theorem recs_lay (R : List SA) (hR : R.length ≤ 10) (h : ∀ x ∈ R, Qr.mayE x.f0 x.f1 = 0 ∧ x.f0.size ≤ 100000) : ∀ (n k i : Nat) (acc : List Int), i + n = R.length → n < k → acc.length ≤ 2070 * i →
    ∃ b, recs_Lay.l0 k acc R (R.length : Int) (i : Int) = some (b, 0) ∧ b.length ≤ 2070 * R.length ∧ acc.length + n ≤ b.length := by
  intro n
  induction n with
  | zero =>
    intro k i acc hi hk ha
    obtain ⟨k, rfl⟩ : ∃ j, k = j + 1 := ⟨k - 1, by omega⟩
    exact ⟨acc, by rw [recs_Lay.l0, if_neg (by omega)], by omega, by omega⟩
  | succ n ih =>
    intro k i acc hi hk ha
    obtain ⟨k, rfl⟩ : ∃ j, k = j + 1 := ⟨k - 1, by omega⟩
    have h2 : i < R.length := by omega
    obtain ⟨m0, m1⟩ := h _ (List.getElem_mem h2)
    have hm := Qr.B_max R[i].f0 R[i].f1
    obtain ⟨_, z2, z3, z4⟩ := Qr.may_zero _ _ m0
    have hb := Qr.B_len R[i].f0 R[i].f1 m0
    have hL := Qr.L_bd ((R[i].f0.size : Int) + R[i].f1.size + 3) (by omega) (by omega)
    rw [recs_Lay.l0, if_pos (by omega), if_pos (by omega), if_pos (by omega), Qf.rd_A R i h2, Qr.one_mine_is _ _ m1, Option.bind_some]
    simp only
    rw [if_pos m0, if_pos (by omega), Qf.wrap_id (by omega) (by omega), show ((i : Int) + 1) = ((i + 1 : Nat) : Int) by omega]
    obtain ⟨b, e1, e2, e3⟩ := ih k (i + 1) (acc ++ Qr.B R[i].f0 R[i].f1) (by omega) (by omega) (by rw [List.length_append]; omega)
    refine ⟨b, e1, e2, ?_⟩
    rw [List.length_append] at e3
    omega
theorem keys_ok (v : ByteArray) (h : v.size ≤ 2000) : Qr.mayE kP v = 0 ∧ Qr.mayE kL v = 0 := by
  have a1 : ¬ (kP.data.toList.any Qr.badB = true ∨ kP.size < 1 ∨ 60 < kP.size) := by decide +kernel
  have a2 : ¬ (kL.data.toList.any Qr.badB = true ∨ kL.size < 1 ∨ 60 < kL.size) := by decide +kernel
  unfold Qr.mayE
  rw [if_neg a1, if_neg a2, if_neg (by omega)]
  exact ⟨rfl, rfl⟩
theorem recsOf_ok (p q : ByteArray) (ok : Bool) (hp : p.size ≤ 2000) (hq : q.size ≤ 2000) : (recsOf p q ok).length ≤ 2 ∧ ∀ x ∈ recsOf p q ok, Qr.mayE x.f0 x.f1 = 0 ∧ x.f0.size ≤ 100000 := by
  have a1 : kP.size ≤ 100000 := by decide +kernel
  have a2 : kL.size ≤ 100000 := by decide +kernel
  have b1 := (keys_ok p hp).1
  have b2 := (keys_ok q hq).2
  unfold recsOf
  cases ok <;> by_cases c : 100 < q.size <;> simp [c, a1, a2, b1, b2]
/-- The records' bytes, with their header. -/
theorem ahead_is (p q : ByteArray) (ok : Bool) (hp : p.size ≤ 2000) (hq : q.size ≤ 2000) (k : Nat) (hk : 1000 ≤ k) :
    ∃ out : List Int, memb_ahead.f k (recsOf p q ok) = some (out, 0) ∧ out.length % 512 = 0 ∧ out.length ≤ 100000 ∧ (0 < out.length ↔ 0 < (recsOf p q ok).length) := by
  obtain ⟨hl, hR⟩ := recsOf_ok p q ok hp hq
  generalize recsOf p q ok = R at *
  by_cases c : (R.length : Int) = 0
  · exact ⟨[], by rw [memb_ahead.f, if_pos c], rfl, by simp, fun h => absurd h (by simp), fun h => by omega⟩
  obtain ⟨b, e1, e2, e3⟩ := recs_lay R (by omega) hR R.length k 0 [] (by omega) (by omega) (by simp)
  have i0 : Q6.I64 0 := by unfold Q6.I64; omega
  obtain ⟨h1, e, f1, f2⟩ := Q7.lay_parse (⟨#[]⟩ : ByteArray) (⟨#[112, 97, 120]⟩ : ByteArray) (⟨#[]⟩ : ByteArray) 0 0 0 0 (b.length : Int) 120 i0 i0 i0 i0 (by unfold Q6.I64; omega) (by omega) k (by omega)
  have hL : Q7.Lays (⟨#[]⟩ : ByteArray) (⟨#[112, 97, 120]⟩ : ByteArray) (⟨#[]⟩ : ByteArray) 0 0 0 0 (b.length : Int) 120 :=
    ⟨by decide +kernel, fitS _ _ zero_nil (by decide) (by omega) (by omega), fitS _ _ (by decide) (by decide) (by omega) (by omega), fitS _ _ zero_nil (by decide) (by omega) (by omega), Q7.fit0, Q7.fit0, Q7.fit0, by omega, by omega, by omega, by omega⟩
  rcases f2 with ⟨rfl, -, f3⟩ | ⟨-, -, f2⟩
  case inr => exact absurd hL f2
  obtain ⟨z, g1, g2⟩ := fill_is b (by omega)
  refine ⟨h1 ++ (b ++ List.replicate z 0), ?_, ?_, ?_, ?_⟩
  · rw [memb_ahead.f, if_neg c, show recs_Lay.f k R = some (b, 0) from e1, Option.bind_some]
    simp only
    rw [if_pos trivial, f1, Option.bind_some]
    simp only
    rw [g1, Option.bind_some, if_pos (by simp only [List.length_append, List.length_replicate]; omega)]
  · simp only [List.length_append, List.length_replicate]; omega
  · simp only [List.length_append, List.length_replicate]; omega
  · simp only [List.length_append, List.length_replicate]; omega
theorem may_parts (p : ByteArray) (kd m u g t : Int) (q : ByteArray) (n : Nat) (h : mayE p kd m u g t q n = 0) :
    okP p = true ∧ 1 ≤ kd ∧ kd ≤ 4 ∧ numsOk m u g t = true ∧ linkE kd q = 0 ∧ (kd ≠ 1 → n = 0) := by
  unfold mayE at h
  by_cases a : okP p = true
  · rw [if_pos a] at h
    by_cases b : kd < 1 ∨ 4 < kd
    · rw [if_pos b] at h; cases h
    · rw [if_neg b] at h
      by_cases c : numsOk m u g t = true
      · rw [if_pos c] at h
        by_cases d : kd = 1 ∧ (4096 : Int) < (n : Int)
        · rw [if_pos d] at h; cases h
        · rw [if_neg d] at h
          by_cases e : linkE kd q = 0
          · rw [if_pos e] at h
            refine ⟨a, by omega, by omega, c, e, fun f => ?_⟩
            by_cases g : kd ≠ 1 ∧ (0 : Int) < (n : Int)
            · rw [if_pos g] at h; cases h
            · have : ¬ (0 : Int) < (n : Int) := fun z => g ⟨f, z⟩
              omega
          · rw [if_neg e] at h; exact absurd h e
      · rw [if_neg c] at h; cases h
  · rw [if_neg a] at h; cases h
theorem link_zero (kd : Int) (q : ByteArray) (h : linkE kd q = 0) : (0 : UInt8) ∉ q.data.toList ∧ q.size ≤ 300 ∧ (kd ≠ 2 → kd ≠ 3 → q = ⟨#[]⟩) := by
  have hnil : q.toList = ([] : List UInt8) → q = ⟨#[]⟩ := by
    intro e
    apply Q.ext_list
    rw [← Q.toL, e]
  unfold linkE at h
  by_cases c2 : kd = 2
  · rw [if_pos c2] at h
    by_cases o : okP q = true
    · obtain ⟨a, b, c⟩ := ok_path q o
      exact ⟨c, by omega, fun z => absurd c2 z⟩
    · rw [if_neg o] at h; cases h
  rw [if_neg c2] at h
  by_cases c3 : kd = 3
  · rw [if_pos c3] at h
    by_cases z : q.toList = ([] : List UInt8) ∨ zeroIn q = true
    · rw [if_pos z] at h; cases h
    · rw [if_neg z] at h
      by_cases s : (300 : Int) < (q.size : Int)
      · rw [if_pos s] at h; cases h
      · refine ⟨(Q.index_none _ _).1 ?_, by omega, fun _ z => absurd c3 z⟩
        have : ¬ zeroIn q = true := fun y => z (.inr y)
        unfold zeroIn at this
        rw [decide_eq_true_eq] at this
        omega
  rw [if_neg c3] at h
  by_cases z : q.toList = ([] : List UInt8)
  · rw [hnil z]
    exact ⟨zero_nil, by decide, fun _ _ => rfl⟩
  · rw [if_neg z] at h; cases h
/-- What is read is the member itself. -/
theorem fromOf_self (p : ByteArray) (kd m u g t : Int) (q : ByteArray) (d : List Int) (h : mayE p kd m u g t q d.length = 0) : fromOf p kd m u g t q d = (p, kd, m, u, g, t, q, d, 0) := by
  obtain ⟨-, h1, h4, -, hl, hn⟩ := may_parts _ _ _ _ _ _ _ _ h
  obtain ⟨-, -, hq⟩ := link_zero kd q hl
  unfold fromOf
  rw [if_neg (by omega)]
  by_cases c1 : kd = 1
  · rw [if_pos c1]
    obtain rfl := hq (by omega) (by omega)
    rw [h]; unfold cut8; rw [if_pos rfl]
  rw [if_neg c1]
  have hd : d = [] := List.eq_nil_of_length_eq_zero (hn c1)
  subst hd
  by_cases c4 : kd = 4
  · rw [if_pos c4]
    obtain rfl := hq (by omega) (by omega)
    rw [show mayE p kd m u g t (⟨#[]⟩ : ByteArray) 0 = 0 from h]; unfold cut8; rw [if_pos rfl]
  · rw [if_neg c4, show mayE p kd m u g t q 0 = 0 from h]; unfold cut8; rw [if_pos rfl]
/-- What is laid, and what is read of it. -/
theorem lay_whole (p : ByteArray) (kd m u g t : Int) (q : ByteArray) (d : List Int) (hE : mayE p kd m u g t q d.length = 0) (hd : d.length ≤ 5000) (k : Nat) (hk : 1000 ≤ k) :
    ∃ (out h : List Int) (z : Nat) (R : List SA), memb_Recs.f p kd m u g t q d = some R ∧ memb_Lay.f k p kd m u g t q d = some ((out ++ h) ++ (d ++ List.replicate z 0), 0) ∧
      h.length = 512 ∧ d.length + z = (d.length + 511) / 512 * 512 ∧ out.length % 512 = 0 ∧ out.length ≤ 100000 ∧ (0 < out.length ↔ 0 < R.length) ∧
      ∃ pre nm, ∀ K, k ≤ K + 10 → 1000 ≤ K → head_Parse.f K h = some (pre, nm, m, u, g, t, (d.length : Int), T8 kd, fst8 q, 0) ∧ memb_From.f K pre nm m u g t (d.length : Int) (T8 kd) (fst8 q) R d = some (p, kd, m, u, g, t, q, d, 0) := by
  obtain ⟨h0, h1, h4, hN, hl, hn⟩ := may_parts _ _ _ _ _ _ _ _ hE
  obtain ⟨hz, hq, -⟩ := link_zero kd q hl
  obtain ⟨hp1, hp2, hp3⟩ := ok_path p h0
  obtain ⟨pre, nm, ok, hP⟩ := parted p h0
  obtain ⟨t1, t2, t3, t4⟩ := kind_T8 kd h1 h4
  unfold numsOk at hN
  rw [decide_eq_true_eq] at hN
  obtain ⟨n1, n2, n3, n4, n5, n6, n7, n8⟩ := hN
  obtain ⟨out, a1, a2, a3, a4⟩ := ahead_is p q ok (by omega) (by omega) k hk
  have im : Q6.I64 m := by unfold Q6.I64; omega
  have iu : Q6.I64 u := by unfold Q6.I64; omega
  have ig : Q6.I64 g := by unfold Q6.I64; omega
  have it : Q6.I64 t := by unfold Q6.I64; omega
  have is : Q6.I64 (d.length : Int) := by unfold Q6.I64; omega
  have hL : Q7.Lays pre nm (fst8 q) m u g t (d.length : Int) (T8 kd) :=
    ⟨t2, hP.fit1, hP.fit2, fitS _ _ (fst8_zero q hz) (fst8_size q) (by omega) (by omega), .inr (by omega), .inr (by omega), .inr (by omega), n1, n3, n5, by omega⟩
  obtain ⟨z, g1, g2⟩ := fill_is d (by omega)
  have lay : ∀ K, 1000 ≤ K → ∃ h, head_Lay.f K pre nm m u g t (d.length : Int) (T8 kd) (fst8 q) = some (h, 0) ∧ head_Parse.f K h = some (pre, nm, m, u, g, t, (d.length : Int), T8 kd, fst8 q, 0) ∧ h.length = 512 := by
    intro K hK
    obtain ⟨h, e, f1, f2⟩ := Q7.lay_parse pre nm (fst8 q) m u g t (d.length : Int) (T8 kd) im iu ig it is ⟨t3, t4⟩ K (by omega)
    rcases f2 with ⟨rfl, f2, f3⟩ | ⟨-, -, f2⟩
    · exact ⟨h, f1, f2, f3⟩
    · exact absurd hL f2
  obtain ⟨h, f1, f2, f3⟩ := lay k hk
  refine ⟨out, h, z, recsOf p q ok, recs_is _ _ _ _ _ _ _ _ _ _ _ hP, ?_, f3, g2, a2, a3, a4, pre, nm, fun K hK hK2 => ⟨?_, ?_⟩⟩
  · obtain ⟨n0, hs, hnm⟩ := hP.split
    have hh : memb_header.f p kd m u g t q d = some (pre, nm, m, u, g, t, (d.length : Int), T8 kd, fst8 q) := by
      unfold memb_header.f
      rw [hs]
      simp only [Option.bind_some]
      rw [type8, first_is, first_is]
      simp only [Option.bind_some]
      rw [hnm]
      cases ok
      · rw [if_neg (show ¬ (false = true) by decide), if_neg (show ¬ (false = true) by decide)]; rfl
      · rw [if_pos (show true = true from rfl), if_pos (show true = true from rfl)]; rfl
    rw [memb_Lay.f, may_mine, hE, Option.bind_some, if_pos rfl, recs_is _ _ _ _ _ _ _ _ _ _ _ hP, Option.bind_some, a1, Option.bind_some]
    simp only
    rw [if_pos trivial, hh, Option.bind_some]
    simp only
    rw [f1, Option.bind_some]
    simp only
    rw [if_pos trivial, if_pos (by omega), Option.bind_some, g1, Option.bind_some, if_pos (by simp only [List.length_append, List.length_replicate]; omega)]
  · obtain ⟨h', f1', f2', -⟩ := lay K hK2
    have : h' = h := by
      rcases Nat.le_total k K with hh | hh
      · have := up (f := fun k => head_Lay.f k pre nm m u g t (d.length : Int) (T8 kd) (fst8 q)) (head_Lay.mono _ _ _ _ _ _ _ _ _) hh f1
        have e := f1'.symm.trans this
        simp only [Option.some.injEq, Prod.mk.injEq] at e
        exact e.1
      · have := up (f := fun k => head_Lay.f k pre nm m u g t (d.length : Int) (T8 kd) (fst8 q)) (head_Lay.mono _ _ _ _ _ _ _ _ _) hh f1'
        have e := this.symm.trans f1
        simp only [Option.some.injEq, Prod.mk.injEq] at e
        exact e.1
    rw [← this]; exact f2'
  · rw [from_back p kd m u g t _ q d pre nm ok hP h1 h4 hd K (by omega), fromOf_self p kd m u g t q d hE]
end Go.Proofs.YtjidenkhgeoaiaaGreatDoor.Q8

/- The pure statement of MembWhole: what is laid has whole blocks: its header, its bytes, and, if it needs some, its records; the last header is read as it is. For every member. -/
namespace Go.Proofs.YtjidenkhgeoaiaaGreatDoor.Pure
open Go.RowKit Go.Proofs.YtjidenkhgeoaiaaGreatDoor.P Go.Proofs.YtjidenkhgeoaiaaGreatDoor.Hand Go.Proofs.YtjidenkhgeoaiaaGreatDoor.Q8 Go.Proofs.YtjidenkhgeoaiaaGreatDoorW.PrintWords Go.Proofs.YtjidenkhgeoaiaaGreatDoorW.PrintLast
set_option linter.unusedVariables false
set_option linter.unusedSimpArgs false
theorem own_is (n : Nat) (hn : n ≤ 5000) : wrap64 (512 + (wrap64 ((wrap64 (Int.tdiv (wrap64 ((n : Int) + 511)) 512)) * 512))) = ((512 + (n + 511) / 512 * 512 : Nat) : Int) := by
  have e1 : wrap64 ((n : Int) + 511) = ((n + 511 : Nat) : Int) := by unfold wrap64; omega
  have e2 : Int.tdiv ((n + 511 : Nat) : Int) 512 = (((n + 511) / 512 : Nat) : Int) := by rw [Int.tdiv_eq_ediv_of_nonneg (by omega)]; omega
  rw [e1, e2]
  unfold wrap64
  omega
theorem MembWhole : P.thwartlaw08_MembWhole.Pure := by
  intro p kd m u g t q d _ _ _ _ _ _ _ _
  refine ⟨3001, ?_⟩
  unfold thwartlaw08_MembWhole.f thwartlaw08_far.f
  have al : ((thwartlaw08_alive.f 3001).bind fun z => some z) = some true := by rw [alive8_k 3001 (by omega)]; rfl
  by_cases b1 : (p.size : Int) > 600
  · rw [if_pos b1, Option.bind_some, if_pos rfl]; exact al
  rw [if_neg b1]
  by_cases b2 : (q.size : Int) > 600
  · rw [if_pos b2, Option.bind_some, if_pos rfl]; exact al
  rw [if_neg b2]
  by_cases b3 : (d.length : Int) > 5000
  · rw [decide_eq_true b3, Option.bind_some, if_pos rfl]; exact al
  rw [decide_eq_false b3, Option.bind_some, if_neg (by decide)]
  simp only [thwartlaw08_theirs.f, Option.bind_some]
  by_cases hE : mayE p kd m u g t q d.length = 0
  case neg =>
    rw [memb_Lay.f, may_mine, Option.bind_some, if_neg hE, Option.bind_some]
    simp only
    rw [if_neg hE, if_pos (by simp)]
    exact al
  obtain ⟨out, h, z, R, r1, r2, r3, r4, r5, r6, r7, pre, nm, r8⟩ := lay_whole p kd m u g t q d hE (by omega) 3001 (by omega)
  obtain ⟨w1, w2⟩ := r8 3000 (by omega) (by omega)
  rw [r2, Option.bind_some]
  simp only
  rw [if_pos trivial, r1, Option.bind_some, own_is d.length (by omega)]
  have hlen : ((out ++ h) ++ (d ++ List.replicate z 0)).length = out.length + (512 + (d.length + 511) / 512 * 512) := by
    simp only [List.length_append, List.length_replicate]; omega
  obtain ⟨own, ho⟩ : ∃ own : Nat, own = 512 + (d.length + 511) / 512 * 512 := ⟨_, rfl⟩
  rw [← ho] at hlen ⊢
  rw [hlen, if_pos (by omega), if_neg (by omega)]
  have hflag : (decide (((out.length + own : Nat) : Int) > (own : Int)) != decide ((R.length : Int) > 0)) = false := by
    by_cases c : 0 < out.length
    · rw [decide_eq_true (by omega), decide_eq_true (by have := r7.1 c; omega)]; rfl
    · rw [decide_eq_false (by omega), decide_eq_false (by have : ¬ 0 < R.length := fun x => c (r7.2 x); omega)]; rfl
  rw [hflag, thwartlaw08_MembWhole.j0, if_neg (by decide), hlen]
  have e1 : wrap64 (((out.length + own : Nat) : Int) - (own : Int)) = (out.length : Int) := by unfold wrap64; omega
  have e2 : wrap64 ((out.length : Int) + 512) = ((out.length + 512 : Nat) : Int) := by unfold wrap64; omega
  have d1 : ((out ++ h) ++ (d ++ List.replicate z 0)).drop out.length = h ++ (d ++ List.replicate z 0) := by rw [List.append_assoc, List.drop_left' rfl]
  have d2 : ((out ++ h) ++ (d ++ List.replicate z 0)).drop (out.length + 512) = d ++ List.replicate z 0 := by rw [List.drop_left' (by rw [List.length_append, r3])]
  rw [e1, e2, if_pos (by omega), if_pos (by omega), Option.bind_some, Int.toNat_natCast, d1, if_pos (by rw [List.length_append, r3]; omega), List.take_left' r3, w1, Option.bind_some, if_pos (by omega), if_pos (by omega), Option.bind_some, Int.toNat_natCast, d2]
  simp only
  rw [if_pos (by omega), if_pos (by simp only [List.length_append, List.length_replicate]; omega), Int.toNat_natCast, List.take_left' rfl, w2, Option.bind_some]
  simp only [thwartlaw08_theirs.f, Option.bind_some]
  rw [if_pos trivial, if_pos trivial, same_self, Option.bind_some, if_pos rfl, if_pos trivial, alive8_k 3000 (by omega)]
  rfl
end Go.Proofs.YtjidenkhgeoaiaaGreatDoor.Pure

/- What came in, opened by its type: whatever a kind of the printed words tells (numbers, texts, structs, slices of these, one in the other). No function of the program occurs. -/
namespace Go.Proofs.YtjidenkhgeoaiaaGreatDoor.Open
open Go Go.ChangeShapes Go.WideShapes Go.Deep Go.Proofs.YtjidenkhgeoaiaaGreatDoorW.PrintWords
set_option linter.unusedVariables false
set_option linter.unusedSimpArgs false

structure Opens {α : Type} (P : Program) (d : Kd α) (t : TypeId) (Wf : α → Prop) : Prop where
  sz : P.cellsOf t = d.sz
  go : ∀ {H : Type} {enc : TypeId × Value → H} {w : World} {base : Nat} {spare : Nat → Bool} {held : Bool} {fuel : Nat} {cs : List Value} {x : DataW H × List MemPlace},
    DataW.trod enc P w base spare held fuel t cs = some x → ∃ a, d.K w a cs ∧ Wf a
theorem int {P : Program} {k : IntKind} {t : TypeId} (ht : P.underlying t = some (.int k)) (hs : P.cellsOf t = 1) : Opens P (Kd.int k) t (fun n => (Lit.int k n).wf = true) :=
  ⟨hs, fun h => by
    obtain ⟨n, rfl, _, hw⟩ := DataW.trod_int ht h
    exact ⟨n, rfl, hw⟩⟩
theorem bool {P : Program} {t : TypeId} (ht : P.underlying t = some .bool) (hs : P.cellsOf t = 1) : Opens P Kd.bool t (fun _ => True) :=
  ⟨hs, fun h => by
    obtain ⟨n, rfl, _⟩ := DataW.trod_bool ht h
    exact ⟨n, rfl, trivial⟩⟩
theorem string {P : Program} {t : TypeId} (ht : P.underlying t = some .string) (hs : P.cellsOf t = 1) : Opens P Kd.string t (fun s => s.size ≤ 9223372036854775807) :=
  ⟨hs, fun h => by
    obtain ⟨n, rfl, _, hw⟩ := DataW.trod_string ht h
    exact ⟨n, rfl, hw⟩⟩
/-- A list of choices, one an index. -/
theorem choices {α : Type} (n : Nat) (p : Nat → α → Prop) (h : ∀ i, i < n → ∃ a, p i a) : ∃ l : List α, l.length = n ∧ ∀ i a, l[i]? = some a → p i a := by
  induction n with
  | zero => exact ⟨[], rfl, fun i a hi => by simp at hi⟩
  | succ n ih =>
    obtain ⟨l, hl, hp⟩ := ih (fun i hi => h i (by omega))
    obtain ⟨a, ha⟩ := h n (by omega)
    refine ⟨l ++ [a], by simp [hl], fun i b hi => ?_⟩
    rw [List.getElem?_append] at hi
    split at hi
    · exact hp i b hi
    · rename_i hlt
      have : i = n := by
        have := (List.getElem?_eq_some_iff.1 hi).1
        simp at this; omega
      subst this
      rw [hl, Nat.sub_self] at hi
      cases hi
      exact ha
theorem row {α : Type} {P : Program} {d : Kd α} {t e : TypeId} {Wf : α → Prop} (ht : P.underlying t = some (.slice e)) (o : Opens P d e Wf)
    {H : Type} {enc : TypeId × Value → H} {w : World} {base : Nat} {spare : Nat → Bool} {held : Bool} {fuel : Nat} {cs : List Value} {x : DataW H × List MemPlace} (h : DataW.trod enc P w base spare held fuel t cs = some x) :
    ∃ (A : Option Addr) (c : Nat) (l : List α), cs = [.slice A l.length c] ∧ l.length ≤ c ∧ l.length ≤ 9223372036854775807 ∧ Kd.C d w A l.length l ∧ ∀ a ∈ l, Wf a := by
  rcases open_slice ht h with ⟨rfl, _⟩ | ⟨a, len, cap, m, n, D, Pl, rfl, _, hl, hm, hmm, _, hi⟩
  · exact ⟨none, 0, [], rfl, Nat.le_refl _, by simp, ⟨rfl, by simp, fun h => absurd h (by simp)⟩, by simp⟩
  · have hlm : len ≤ m := by rw [hmm]; split <;> omega
    have hm' : cap ≤ 9223372036854775807 := hm
    obtain ⟨l, hll, hp⟩ := choices len (fun i (b : α) => (∃ c, c.length = d.sz ∧ d.K w b c ∧ ∀ j u, c[j]? = some u → w.cell? (a.add (i * d.sz + j)) = some u) ∧ Wf b) (fun i hil => by
      obtain ⟨cs', hc, ht'⟩ := hi i (by omega)
      obtain ⟨b, hK, hW⟩ := o.go ht'
      rw [o.sz] at hc
      obtain ⟨_, hcl, hat⟩ := World.cells?_some hc
      refine ⟨b, ⟨cs', hcl, hK, fun j u hj => ?_⟩, hW⟩
      have hjl : j < d.sz := by rw [← hcl]; exact (List.getElem?_eq_some_iff.1 hj).1
      rw [← Go.Deep.add_add, hat j hjl, hj])
    refine ⟨some a, cap, l, by rw [hll], by omega, by omega, ⟨rfl, by omega, fun _ => ⟨a, rfl, fun j p hj => (hp j p hj).1⟩⟩, fun b hb => ?_⟩
    obtain ⟨i, hi'⟩ := List.getElem?_of_mem hb
    exact (hp i b hi').2
theorem slice {α : Type} {P : Program} {d : Kd α} {t e : TypeId} {Wf : α → Prop} (ht : P.underlying t = some (.slice e)) (hs : P.cellsOf t = 1) (o : Opens P d e Wf) : Opens P (Kd.slice e d) t (fun l => l.length ≤ 9223372036854775807 ∧ ∀ a ∈ l, Wf a) :=
  ⟨hs, fun h => by
    obtain ⟨A, c, l, rfl, hl, hm, hC, hW⟩ := row ht o h
    exact ⟨l, ⟨A, c, rfl, hl, hC⟩, hm, hW⟩⟩
/-- A part of a struct's fields, that begins at a cell. -/
def Part {α : Type} (P : Program) (d : Kd α) (off : Nat) (fs : List Field) (Wf : α → Prop) : Prop :=
  ∀ {H : Type} {enc : TypeId × Value → H} {w : World} {base : Nat} {spare : Nat → Bool} {held : Bool} {n : Nat} {cs : List Value},
    (∀ f ∈ fs, ∃ y, DataW.trod enc P w base spare held n f.type ((cs.drop f.offset).take (P.cellsOf f.type)) = some y) → ∃ a, d.K w a ((cs.drop off).take d.sz) ∧ Wf a
theorem part_one {α : Type} {P : Program} {d : Kd α} {off : Nat} {f : Field} {Wf : α → Prop} (o : Opens P d f.type Wf) (ho : f.offset = off) : Part P d off [f] Wf := by
  intro H enc w base spare held n cs h
  obtain ⟨y, hy⟩ := h f (by simp)
  rw [ho, o.sz] at hy
  exact o.go hy
theorem part_pair {α β : Type} {P : Program} {a : Kd α} {b : Kd β} {off : Nat} {fs gs : List Field} {Wa : α → Prop} {Wb : β → Prop} (ha : Part P a off fs Wa) (hb : Part P b (off + a.sz) gs Wb) :
    Part P (Kd.pair a b) off (fs ++ gs) (fun x => Wa x.1 ∧ Wb x.2) := by
  intro H enc w base spare held n cs h
  obtain ⟨x, hx, wx⟩ := ha (fun f hf => h f (List.mem_append_left _ hf))
  obtain ⟨y, hy, wy⟩ := hb (fun f hf => h f (List.mem_append_right _ hf))
  refine ⟨(x, y), ⟨_, _, ?_, hx, hy⟩, wx, wy⟩
  show (cs.drop off).take (a.sz + b.sz) = _
  rw [List.take_add, List.drop_drop]
theorem struct {α : Type} {P : Program} {d : Kd α} {t : TypeId} {fs : Array Field} {Wf : α → Prop} (ht : P.underlying t = some (.struct fs)) (hs : P.cellsOf t = d.sz) (p : Part P d 0 fs.toList Wf) : Opens P d t Wf :=
  ⟨hs, fun {H enc w base spare held fuel cs x} h => by
    obtain ⟨xs, n, _, _, hlen, hxl, hf⟩ := DataW.trod_struct ht h
    obtain ⟨a, hK, hW⟩ := p (enc := enc) (w := w) (base := base) (spare := spare) (held := held) (n := n) (cs := cs) (fun f hm => by
      obtain ⟨i, hi⟩ := List.getElem?_of_mem hm
      have hi' : fs[i]? = some f := by rw [← Array.getElem?_toList]; exact hi
      have hil : i < xs.length := by rw [hxl]; exact (Array.getElem?_eq_some_iff.1 hi').1
      exact ⟨xs[i], by rw [hf i f hi', List.getElem?_eq_getElem hil]⟩)
    rw [List.drop_zero, List.take_of_length_le (by omega)] at hK
    exact ⟨a, hK, hW⟩⟩
theorem iso {α β : Type} {P : Program} {d : Kd α} {t : TypeId} {Wf : α → Prop} (o : Opens P d t Wf) (f : β → α) (g : α → β) (h : ∀ x, f (g x) = x) : Opens P (Kd.iso d f) t (fun b => Wf (f b)) :=
  ⟨o.sz, fun h' => by
    obtain ⟨a, hK, hW⟩ := o.go h'
    refine ⟨g a, ?_, by rw [h]; exact hW⟩
    show d.K _ (f (g a)) _
    rw [h]; exact hK⟩
end Go.Proofs.YtjidenkhgeoaiaaGreatDoor.Open

/- The statement of MembWhole for every input, out of its pure statement and the printed walk. -/
namespace Go.Proofs.YtjidenkhgeoaiaaGreatDoor.membWhole
open Go Go.ChangeShapes Go.WideShapes Go.ChangeAt Go.RowKit Go.Proofs.YtjidenkhgeoaiaaGreatDoorW.PrintWords
open Go.ChangeMaps (open_string shut_string)
set_option linter.unusedVariables false
set_option linter.unusedSimpArgs false
theorem own : ownKnob Tryz.prog.godebug = none := by kernel_rfl
theorem laidOut : laidOutB Tryz.prog = true := by kernel_rfl
set_option maxRecDepth 100000 in
theorem lifted (os : Os) (started : os.Started) (H : Type) (enc : TypeId × Value → H) :
    ReturnsInHanded {} Tryz.checked os 5 .any (fun w args => (Rows.membWholeSpec.pre enc Tryz.prog Tryz.f5 Rows.membWholeRow.domain false w args ∧ laidMetH Tryz.prog Rows.membWholeRow.laid w) ∧ sizedMet enc Tryz.prog Tryz.f5 (OpenSpec.ofChange Rows.membWholeSpec) false w args) (Rows.membWholeSpec.post enc Tryz.prog Tryz.f5 false true false false) := by
  refine returnsInHanded_of_change_and (C := Tryz.checked) (X := (fun w _ => laidMetH Tryz.prog Rows.membWholeRow.laid w)) (fun _ _ _ hh h => h.of_heap hh) own started (by kernel_rfl) Tryz.func5
    (ChangeSpec.witness_shaped (enc := enc) (C := Tryz.checked) (os := os) (X := (fun w _ => laidMetH Tryz.prog Rows.membWholeRow.laid w)) false (World.laidAll Tryz.prog os Rows.membWholeRow.laid) #[.agg #[.string ByteArray.empty, .int .i64 0, .int .i64 0, .int .i64 0, .int .i64 0, .int .i64 0, .string ByteArray.empty, .slice none 0 0]] 8 (World.laidAll_os _ _ _)
      (World.shaped_of_ZipB (by kernel_rfl) (by kernel_rfl)) (by kernel_rfl) (by kernel_rfl) (by kernel_rfl)
      (by rw [MakeChecks.laidMetH_plain _ _ _ (by kernel_rfl)]; exact laidMet_laidAll _ (by kernel_rfl) (by kernel_rfl))) ?_
  intro W base args ds gs before hval0 hW hcnd hsz0 hX _
  have htab : Aside0 (Hand.TabOk W) := ⟨Hand.tab_of_laid hX (by rfl)⟩
  have hsz : (DataW.weightsEach Tryz.prog (Tryz.f5.params.toList ++ Rows.membWholeSpec.plain.varTypes Tryz.prog) (ds ++ gs)).all (· ≤ reachBytes) = true := hsz0
  have hval : ∀ (j : Nat) t v, Tryz.f5.params[j]? = some t → args[j]? = some v → Value.okWide Tryz.prog W .any base t v := hval0
  have hW' := hW
  obtain ⟨p, q, hA0, hV, rfl, hfz, hnd⟩ := hW
  have hA : DataW.TrodAll enc Tryz.prog W 0 (fun _ => true) true Tryz.f5.params.toList args.toList ds p := hA0
  rw [Tryz.params5] at hA hval hsz
  obtain ⟨v0, vs0, d0, ds0, p0, q0, hargs, rfl, rfl, h0, r0⟩ := trodAll_cons hA
  obtain ⟨rfl, rfl, rfl⟩ := trodAll_nil r0
  obtain rfl : args = #[v0] := by cases args; simp_all
  obtain ⟨rfl, rfl⟩ := trodVars_none hV
  obtain ⟨cs0, rfl, _⟩ := okWide_struct Tryz.underlying45 (hval 0 45 v0 rfl rfl)
  have k0 := h0
  have lt0 : ∀ x ∈ p0, x.block < W.heap.size := by obtain ⟨m, hm⟩ := k0; exact DataW.trod_lt m _ _ _ hm
  obtain ⟨a0_0, a0_1, a0_2, a0_3, a0_4, a0_5, a0_6, A0_7, c0_7, l0_7, rfl, o0_0, o0_1, o0_2, o0_3, o0_4, o0_5, o0_6, hs0_7, o0_7⟩ : ∃ (a0_0 : ByteArray) (a0_1 : Int) (a0_2 : Int) (a0_3 : Int) (a0_4 : Int) (a0_5 : Int) (a0_6 : ByteArray) (A0_7 : Option Addr) (c0_7 : Nat) (l0_7 : List Int), cs0 = #[.string a0_0, .int .i64 a0_1, .int .i64 a0_2, .int .i64 a0_3, .int .i64 a0_4, .int .i64 a0_5, .string a0_6, .slice A0_7 l0_7.length c0_7] ∧ (a0_0.size ≤ 9223372036854775807) ∧ ((Lit.int .i64 a0_1).wf = true) ∧ ((Lit.int .i64 a0_2).wf = true) ∧ ((Lit.int .i64 a0_3).wf = true) ∧ ((Lit.int .i64 a0_4).wf = true) ∧ ((Lit.int .i64 a0_5).wf = true) ∧ (a0_6.size ≤ 9223372036854775807) ∧ (l0_7.length ≤ c0_7 ∧ Kd.C (Kd.int .u8) W A0_7 l0_7.length l0_7) ∧ (l0_7.length ≤ 9223372036854775807 ∧ ∀ y ∈ l0_7, (Lit.int .u8 y).wf = true) := by
    obtain ⟨fuel, hf⟩ := h0
    obtain ⟨x, hK, hW⟩ := (Open.struct (d := (Kd.pair Kd.string (Kd.pair (Kd.int .i64) (Kd.pair (Kd.pair (Kd.int .i64) (Kd.pair (Kd.int .i64) (Kd.pair (Kd.int .i64) (Kd.int .i64)))) (Kd.pair Kd.string (Kd.slice 5 (Kd.int .u8))))))) Tryz.underlying45 (by kernel_rfl) (show Open.Part _ _ 0 ([_] ++ ([_] ++ ([_] ++ ([_] ++ ([_]))))) _ from (Open.part_pair (Open.part_one (Open.string Tryz.underlying9 (by kernel_rfl)) rfl) (Open.part_pair (Open.part_one (Open.int Tryz.underlying3 (by kernel_rfl)) rfl) (Open.part_pair (Open.part_one (Open.struct (d := (Kd.pair (Kd.int .i64) (Kd.pair (Kd.int .i64) (Kd.pair (Kd.int .i64) (Kd.int .i64))))) Tryz.underlying27 (by kernel_rfl) (show Open.Part _ _ 0 ([_] ++ ([_] ++ ([_] ++ ([_])))) _ from (Open.part_pair (Open.part_one (Open.int Tryz.underlying2 (by kernel_rfl)) rfl) (Open.part_pair (Open.part_one (Open.int Tryz.underlying2 (by kernel_rfl)) rfl) (Open.part_pair (Open.part_one (Open.int Tryz.underlying2 (by kernel_rfl)) rfl) (Open.part_one (Open.int Tryz.underlying2 (by kernel_rfl)) rfl)))))) rfl) (Open.part_pair (Open.part_one (Open.string Tryz.underlying9 (by kernel_rfl)) rfl) (Open.part_one (Open.slice Tryz.underlying31 (by kernel_rfl) (Open.int Tryz.underlying5 (by kernel_rfl))) rfl))))))).go hf
    have hK' : ∃ cs, cs = (Value.agg cs0).cells.toList ∧ Kd.K (Kd.pair Kd.string (Kd.pair (Kd.int .i64) (Kd.pair (Kd.pair (Kd.int .i64) (Kd.pair (Kd.int .i64) (Kd.pair (Kd.int .i64) (Kd.int .i64)))) (Kd.pair Kd.string (Kd.slice 5 (Kd.int .u8)))))) W x cs := ⟨_, rfl, hK⟩
    obtain ⟨cs, ecs, hK2⟩ := hK'
    obtain ⟨_, _, rfl, rfl, ⟨_, _, rfl, rfl, ⟨_, _, rfl, ⟨_, _, rfl, rfl, ⟨_, _, rfl, rfl, ⟨_, _, rfl, rfl, rfl⟩⟩⟩, ⟨_, _, rfl, rfl, ⟨A0_7, c0_7, rfl, hc0_7, hr0_7⟩⟩⟩⟩⟩ := hK2
    obtain ⟨w0_0, ⟨w0_1, ⟨⟨w0_2, ⟨w0_3, ⟨w0_4, w0_5⟩⟩⟩, ⟨w0_6, w0_7⟩⟩⟩⟩ := hW
    exact ⟨x.1, x.2.1, x.2.2.1.1, x.2.2.1.2.1, x.2.2.1.2.2.1, x.2.2.1.2.2.2, x.2.2.2.1, _, _, x.2.2.2.2, Array.toList_inj.1 (by simpa [Value.cells] using ecs.symm), w0_0, w0_1, w0_2, w0_3, w0_4, w0_5, w0_6, ⟨hc0_7, hr0_7⟩, w0_7⟩
  clear hA0 hval0 hsz0 hsz
  obtain ⟨k, hk⟩ := Pure.MembWhole a0_0 a0_1 a0_2 a0_3 a0_4 a0_5 a0_6 l0_7 o0_0 o0_1 o0_2 o0_3 o0_4 o0_5 o0_6 o0_7
  refine (P.thwartlaw08_MembWhole.calls k a0_0 a0_1 a0_2 a0_3 a0_4 a0_5 a0_6 A0_7 c0_7 l0_7 true W htab hs0_7.2 hs0_7.1 rfl hk).mono fun e W' ⟨he, bel⟩ => ?_
  subst he
  exact ⟨_, rfl, _, _, _, [], _, [], hW', trodAll_mk1 (shut_bool Tryz.underlying4 _), (trodAll_cons_mk (Below.trod laidOut (by kernel_rfl) (of_decide_eq_true (by kernel_rfl)) k0 bel lt0) trodAll_mk0), rfl, bel.frame _, fun h => by cases h⟩
theorem over : Rows.membWholeRow.holds Tryz.pinned (OpenSpec.ofChange Rows.membWholeSpec) :=
  OpenClaim.holds_of_wide 5 Tryz.f5 rfl rfl rfl rfl rfl rfl rfl ⟨rfl, rfl, rfl, rfl, rfl⟩ rfl rfl rfl rfl rfl (by kernel_rfl) Tryz.func5 (by kernel_rfl)
    (of_decide_eq_true (by kernel_rfl)) (by unfold Func.isWrapper; first | (rw [if_pos (by decide +kernel)]; kernel_rfl) | (rw [if_neg (by decide +kernel)]; exact ⟨rfl, rfl⟩))
    (fun os started H enc _ => lifted os started H enc)
theorem proved : Rows.MembWholeSaid := over
theorem card_proved : Rows.MembWholeCardSaid :=
  Claim7.holds_tied_plain_at .later [] [.data, .data, .data, .data, .pinned] true (true, "d91d5e1725961860c424d8fa74ebd0e3480b6cbf9bda71444830f17a3506859f") false proved (fun _ h => by cases h) (by kernel_rfl) (fun _ h => by cases h) membWhole_row_tie rfl ⟨rfl, rfl⟩ (by kernel_rfl) rfl
    (fun f fn hf hfn => by
      obtain rfl : f = 5 := Option.some.inj ((show Tryz.prog.funcNamed "thwart/thwartlaw08.MembWhole" = some 5 by kernel_rfl).symm.trans hf) |>.symm
      obtain rfl : fn = Tryz.f5 := (Option.some.inj (Tryz.func5.symm.trans hfn)).symm
      exact ⟨by kernel_rfl, fun j t ht => by
        rw [Tryz.params5] at ht
        have hm : t ∈ [45] := by simpa using Array.mem_of_getElem? ht
        have hall : ([45].all fun u => !Tryz.prog.wantsStandIn u) = true := by kernel_rfl
        exact (show Tryz.prog.wantsStandIn t = false by simpa using List.all_eq_true.1 hall t hm)⟩)
    (by kernel_rfl)
#print axioms card_proved
end Go.Proofs.YtjidenkhgeoaiaaGreatDoor.membWhole
namespace Go.Proofs.YtjidenkhgeoaiaaGreatDoor
/-- The statement, under a short name, for the claim. -/
theorem membWhole_holds : Rows.MembWholeCardSaid := membWhole.card_proved
end Go.Proofs.YtjidenkhgeoaiaaGreatDoor
