/- Small words for the printed texts: strings' '>' , a text that is not empty. -/
import Derived.Test.YthjljkdiglpbaaaDoorHWords
namespace Go.Proofs.YthjljkdiglpbaaaDoor.Hand
open Go.RowKit Go.Proofs.YthjljkdiglpbaaaDoorW
theorem bytes_ne (l : List UInt8) : (l != []) = !l.isEmpty := by cases l <;> rfl
theorem bytes_eq (l : List UInt8) : (l == []) = l.isEmpty := by cases l <;> rfl
theorem less_gt (a b : List UInt8) : (!(Op.bytesLess a b || a == b)) = Op.bytesLess b a := by
  induction a generalizing b with
  | nil => cases b <;> simp [Op.bytesLess]
  | cons x a ih =>
    cases b with
    | nil => simp [Op.bytesLess]
    | cons y b =>
      have h := ih b
      simp only [Op.bytesLess]
      rcases Nat.lt_trichotomy x.toNat y.toNat with e | e | e
      · have h1 : x < y := UInt8.lt_iff_toNat_lt.2 e
        have h2 : ¬ y < x := fun h => by have := UInt8.lt_iff_toNat_lt.1 h; omega
        have h3 : (y == x) = false := beq_eq_false_iff_ne.2 (fun h => by rw [h] at e; omega)
        rw [decide_eq_true h1, decide_eq_false h2, h3]; rfl
      · have hxy : x = y := UInt8.toNat_inj.1 e
        subst hxy
        have h1 : ¬ x < x := fun h => by have := UInt8.lt_iff_toNat_lt.1 h; omega
        rw [decide_eq_false h1, beq_self_eq_true, Bool.false_or, Bool.true_and, Bool.false_or, Bool.true_and, ← h]
        congr 2
        rw [Bool.eq_iff_iff, beq_iff_eq, beq_iff_eq]
        constructor
        · intro h; exact (List.cons.inj h).2
        · intro h; rw [h]
      · have h1 : y < x := UInt8.lt_iff_toNat_lt.2 e
        have h2 : ¬ x < y := fun h => by have := UInt8.lt_iff_toNat_lt.1 h; omega
        have h3 : (x == y) = false := beq_eq_false_iff_ne.2 (fun h => by rw [h] at e; omega)
        have h4 : ((x :: a) == (y :: b)) = false := beq_eq_false_iff_ne.2 (fun h => by rw [(List.cons.inj h).1] at e; omega)
        rw [decide_eq_true h1, decide_eq_false h2, h3, h4]; rfl
theorem bt_nat (s : ByteArray) (n : Nat) : ∀ h : n < s.size, ((s[n]'h).toNat : Int) = PrintWords.bt s (n : Int) := fun h => PrintWords.bt_at s (n : Int) h
theorem gtr_str (t : TypeId) (a b : ByteArray) : binOp .gtr t (.string a) (.string b) = pure (.bool (Op.bytesLess b.toList a.toList)) := by
  rw [← less_gt]
  simp [binOp, Op.stringOp]
end Go.Proofs.YthjljkdiglpbaaaDoor.Hand
