/- The library's table of tens, as contracts of our own ask for it: it stands, and it stays. -/
import Derived.Test.YthjljkdiglpbaaaDoorShelf
import Derived.Test.YthjljkdiglpbaaaDoorHWords
import Derived.Lib.AppendIntMem
import Derived.Lib.LaidTab
import Derived.LaidSub
import Derived.MakeChecks
namespace Go.Proofs.YthjljkdiglpbaaaDoor.Hand
open Go.RowKit Go.Proofs.YthjljkdiglpbaaaDoorW.PrintWords Go.Proofs.YthjljkdiglpbaaaDoorW.PrintLast
abbrev TabOk (w : World) : Prop := Lib.TabIs Tryd.prog w "internal/strconv.uint64pow10" .u64 Lib.pow10Tab
theorem TabOk.below {w w' : World} (h : TabOk w) (hb : Below w.heap.size w w') : TabOk w' := Lib.tabBelow_of_tabIs h w' hb
theorem TabOk.alloc {w : World} (h : TabOk w) (o : Obj) : TabOk (w.alloc o) := h.below ((Below.refl w.heap.size w).alloc (Nat.le_refl _) o)
theorem TabOk.drewN {w : World} (h : TabOk w) (n : Nat) : TabOk (w.drewN n) := h.below (pw_below_drewN (Below.refl w.heap.size w) n)
theorem TabOk.drew {w : World} (h : TabOk w) : TabOk w.drew := h.below (below_drew1 (Below.refl w.heap.size w))
set_option maxRecDepth 100000 in
/-- What the row says of the table is what is asked here. -/
theorem tab_of_laid {W : World} {l : List (String × DataW Unit)} (h : laidMetH Tryd.prog l W) (hf : l.filter (fun x => x.1 == "internal/strconv.uint64pow10") = [("internal/strconv.uint64pow10", Lib.tabData .u64 Lib.pow10Tab)]) : TabOk W := by
  have h2 := h.filter (fun x => x.1 == "internal/strconv.uint64pow10")
  rw [hf] at h2
  rw [MakeChecks.laidMetH_plain _ _ _ (by kernel_rfl)] at h2
  exact Lib.tabIs_of_head (g := 1) (t := 163) (by kernel_rfl) (by kernel_rfl) Tryd.underlying163 Tryd.underlying131 (by kernel_rfl) (by kernel_rfl) h2
end Go.Proofs.YthjljkdiglpbaaaDoor.Hand
