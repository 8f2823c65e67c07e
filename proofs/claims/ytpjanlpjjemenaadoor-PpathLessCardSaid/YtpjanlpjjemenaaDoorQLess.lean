/- Plain facts on order: lists in the order of their first unlike part; it is strict and total. -/
import Derived.Test.YtpjanlpjjemenaaDoorQPpath2
namespace Go.Proofs.YtpjanlpjjemenaaDoor.Q5
open Go.RowKit Go.Proofs.YtpjanlpjjemenaaDoor.P Go.Proofs.YtpjanlpjjemenaaDoor.Hand Go.Proofs.YtpjanlpjjemenaaDoor.Q
set_option linter.unusedVariables false
set_option linter.unusedSimpArgs false

/-- Lists by their first unlike part. -/
def lexLt {α : Type} [DecidableEq α] (lt : α → α → Bool) : List α → List α → Bool
  | _, [] => false
  | [], _ :: _ => true
  | x :: a, y :: b => if x = y then lexLt lt a b else lt x y
/-- A strict order of all. -/
structure Strict {α : Type} (lt : α → α → Bool) : Prop where
  irr : ∀ a, lt a a = false
  tra : ∀ a b c, lt a b = true → lt b c = true → lt a c = true
  tot : ∀ a b, lt a b = false → lt b a = false → a = b
theorem Strict.asy {α : Type} {lt : α → α → Bool} (h : Strict lt) (a b : α) (h1 : lt a b = true) : lt b a = false := by
  cases h2 : lt b a
  · rfl
  · have := h.tra a b a h1 h2
    rw [h.irr] at this; cases this
theorem lex_strict {α : Type} [DecidableEq α] {lt : α → α → Bool} (h : Strict lt) : Strict (lexLt lt) where
  irr a := by
    induction a with
    | nil => rfl
    | cons x a ih => rw [lexLt, if_pos rfl, ih]
  tra a := by
    induction a with
    | nil =>
      intro b c h1 h2
      cases b with
      | nil => cases h1
      | cons y b => cases c with
        | nil => cases h2
        | cons z c => rfl
    | cons x a ih =>
      intro b c h1 h2
      cases b with
      | nil => cases h1
      | cons y b => cases c with
        | nil => cases h2
        | cons z c =>
          rw [lexLt] at h1 h2 ⊢
          by_cases e1 : x = y
          · subst e1
            rw [if_pos rfl] at h1
            by_cases e2 : x = z
            · rw [if_pos e2] at h2 ⊢; exact ih b c h1 h2
            · rw [if_neg e2] at h2 ⊢; exact h2
          · rw [if_neg e1] at h1
            by_cases e2 : y = z
            · subst e2
              rw [if_neg e1]; exact h1
            · rw [if_neg e2] at h2
              have h3 := h.tra x y z h1 h2
              by_cases e3 : x = z
              · subst e3; rw [h.irr] at h3; cases h3
              · rw [if_neg e3]; exact h3
  tot a := by
    induction a with
    | nil =>
      intro b h1 h2
      cases b with
      | nil => rfl
      | cons y b => cases h1
    | cons x a ih =>
      intro b h1 h2
      cases b with
      | nil => cases h2
      | cons y b =>
        rw [lexLt] at h1 h2
        by_cases e : x = y
        · subst e
          rw [if_pos rfl] at h1 h2
          rw [ih b h1 h2]
        · rw [if_neg e] at h1
          rw [if_neg (fun h => e h.symm)] at h2
          exact absurd (h.tot x y h1 h2) e
theorem lex_more {α : Type} [DecidableEq α] (lt : α → α → Bool) (a b : List α) (hb : b ≠ []) : lexLt lt a (a ++ b) = true := by
  induction a with
  | nil => cases b with
    | nil => exact absurd rfl hb
    | cons y b => rfl
  | cons x a ih => rw [List.cons_append, lexLt, if_pos rfl, ih]
def u8Lt (a b : UInt8) : Bool := decide (a < b)
theorem u8_strict : Strict u8Lt where
  irr a := decide_eq_false (by rw [UInt8.lt_iff_toNat_lt]; omega)
  tra a b c h1 h2 := by
    have := UInt8.lt_iff_toNat_lt.1 (of_decide_eq_true h1)
    have := UInt8.lt_iff_toNat_lt.1 (of_decide_eq_true h2)
    exact decide_eq_true (by rw [UInt8.lt_iff_toNat_lt]; omega)
  tot a b h1 h2 := by
    have h3 : ¬ a.toNat < b.toNat := fun h => of_decide_eq_false h1 (UInt8.lt_iff_toNat_lt.2 h)
    have h4 : ¬ b.toNat < a.toNat := fun h => of_decide_eq_false h2 (UInt8.lt_iff_toNat_lt.2 h)
    exact UInt8.toNat_inj.1 (by omega)
theorem bytes_lex (a b : List UInt8) : Op.bytesLess a b = lexLt u8Lt a b := by
  induction a generalizing b with
  | nil => cases b <;> rfl
  | cons x a ih =>
    cases b with
    | nil => rfl
    | cons y b =>
      rw [lexLt, ← ih]
      simp only [Op.bytesLess]
      by_cases e : x = y
      · subst e
        have : ¬ x < x := fun h => by have := UInt8.lt_iff_toNat_lt.1 h; omega
        rw [if_pos rfl, decide_eq_false this, beq_self_eq_true, Bool.false_or, Bool.true_and]
      · rw [if_neg e, beq_eq_false_iff_ne.2 e, Bool.false_and, Bool.or_false]; rfl
/-- One text ahead of another, byte by byte. -/
def bLt : List UInt8 → List UInt8 → Bool := lexLt u8Lt
theorem b_strict : Strict bLt := lex_strict u8_strict
/-- One path ahead of another, name by name. -/
def pLt (a b : List UInt8) : Bool := lexLt bLt (pl a) (pl b)
theorem p_strict : Strict pLt where
  irr a := (lex_strict b_strict).irr _
  tra a b c h1 h2 := (lex_strict b_strict).tra _ _ _ h1 h2
  tot a b h1 h2 := by
    have := (lex_strict b_strict).tot _ _ h1 h2
    rw [← jn_pl a, ← jn_pl b, this]
theorem p_parent (a p b : List UInt8) (h : a = p ++ 47 :: b) : pLt p a = true := by
  unfold pLt
  rw [h, pl_app]
  exact lex_more _ _ _ (pl_ne b)
end Go.Proofs.YtpjanlpjjemenaaDoor.Q5
