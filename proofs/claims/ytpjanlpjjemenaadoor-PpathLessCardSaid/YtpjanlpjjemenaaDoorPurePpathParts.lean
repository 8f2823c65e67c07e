/- The pure statement of PpathParts: whether any text is a name, or a path, and its names, are told as the document says. For every text. -/
import Derived.Test.YtpjanlpjjemenaaDoorF8
import Derived.Test.YtpjanlpjjemenaaDoorQPpath
namespace Go.Proofs.YtpjanlpjjemenaaDoor.Pure
open Go.RowKit Go.Proofs.YtpjanlpjjemenaaDoor.P Go.Proofs.YtpjanlpjjemenaaDoor.Hand Go.Proofs.YtpjanlpjjemenaaDoor.Q5 Go.Proofs.YtpjanlpjjemenaaDoorW.PrintWords Go.Proofs.YtpjanlpjjemenaaDoorW.PrintLast
set_option linter.unusedVariables false
set_option linter.unusedSimpArgs false

set_option maxRecDepth 100000 in
theorem alive04 : thwartlaw04_alive.f 100 = some true := by decide +kernel
theorem alive04_k (k : Nat) (hk : 100 ≤ k) : thwartlaw04_alive.f k = some true := by
  obtain ⟨d, rfl⟩ : ∃ d, k = 100 + d := ⟨k - 100, by omega⟩
  clear hk
  induction d with
  | zero => exact alive04
  | succ d ih => exact thwartlaw04_alive.mono (100 + d) true ih
theorem parts_eq (l : List ByteArray) (hl : l.length ≤ 1000) (d : Nat) : ∀ (k i : Nat), i + d = l.length → d + 200 < k → thwartlaw04_PpathParts.l0 k l l l.length i = some true := by
  induction d with
  | zero =>
    intro k i h1 h2
    obtain ⟨k, rfl⟩ : ∃ m, k = m + 1 := ⟨k - 1, by omega⟩
    rw [thwartlaw04_PpathParts.l0, if_neg (by omega), alive04_k k (by omega)]; rfl
  | succ d ih =>
    intro k i h1 h2
    obtain ⟨k, rfl⟩ : ∃ m, k = m + 1 := ⟨k - 1, by omega⟩
    rw [thwartlaw04_PpathParts.l0, if_pos (by omega), if_pos (by omega), if_pos (by omega), if_pos (by omega), if_pos rfl, wrap_id (i := (i : Int) + 1) (by omega) (by omega), show ((i : Int) + 1) = ((i + 1 : Nat) : Int) by omega]
    exact ih k (i + 1) (by omega) (by omega)
theorem PpathParts : thwartlaw04_PpathParts.Pure := by
  intro s hs
  refine ⟨3000, ?_⟩
  unfold thwartlaw04_PpathParts.f
  by_cases hbig : (s.size : Int) > 600
  · rw [if_pos hbig, alive04_k _ (by omega)]; rfl
  rw [if_neg hbig, parts_is, parts_ref s hs 3000 (by omega)]
  simp only [Option.bind_some, if_true]
  unfold ppath_May.f
  rw [parts_is]
  simp only [Option.bind_some]
  rw [if_neg (by simp), name_is s (by omega) 3000 (by omega), name_ref s (by omega) 3000 (by omega)]
  simp only [Option.bind_some]
  rw [show (isName s.data.toList != isName s.data.toList) = false by simp, thwartlaw04_PpathParts.j0, if_neg (by decide)]
  have hlen : (partsOf s).1.length ≤ 1000 := by
    have := pieces_len 47 s
    unfold partsOf
    split <;> simp only [List.length_nil] <;> omega
  exact parts_eq _ hlen (partsOf s).1.length _ 0 (by omega) (by omega)
end Go.Proofs.YtpjanlpjjemenaaDoor.Pure
