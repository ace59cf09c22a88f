/- The sign of a rational number. -/
import Derived.Test.YtaahbabdbopphaaDoorMA
namespace Go.Proofs.YtaahbabdbopphaaDoor.Mx
theorem sgn_cases (x : Rat) : (x < 0 ∧ sgn x = -1) ∨ (x = 0 ∧ sgn x = 0) ∨ (0 < x ∧ sgn x = 1) := by
  unfold sgn
  by_cases h : x = 0
  · right; left; exact ⟨h, if_pos h⟩
  · by_cases h1 : x < 0
    · left; exact ⟨h1, by rw [if_neg h, if_pos h1]⟩
    · right; right; exact ⟨by grind, by rw [if_neg h, if_neg h1]⟩
theorem sgn_zero_iff (x : Rat) : sgn x = 0 ↔ x = 0 := by
  rcases sgn_cases x with ⟨h, e⟩ | ⟨h, e⟩ | ⟨h, e⟩ <;> rw [e] <;> grind
theorem sgn_mul (x y : Rat) : sgn (x * y) = sgn x * sgn y := by
  have mp : ∀ a b : Rat, 0 < a → 0 < b → 0 < a * b := fun a b ha hb => Rat.mul_pos ha hb
  rcases sgn_cases x with ⟨h, e⟩ | ⟨h, e⟩ | ⟨h, e⟩ <;> rcases sgn_cases y with ⟨h', e'⟩ | ⟨h', e'⟩ | ⟨h', e'⟩ <;> rw [e, e'] <;> rcases sgn_cases (x * y) with ⟨h2, e2⟩ | ⟨h2, e2⟩ | ⟨h2, e2⟩ <;> rw [e2]
  all_goals first
    | rfl
    | (exfalso; have := mp (-x) (-y) (by grind) (by grind); grind)
    | (exfalso; have := mp (-x) y (by grind) (by grind); grind)
    | (exfalso; have := mp x (-y) (by grind) (by grind); grind)
    | (exfalso; have := mp x y (by grind) (by grind); grind)
    | (exfalso; grind)
theorem sgn_trans (p q r : Rat) (hA : sgn (p - q) ≤ 0) (hB : sgn (q - r) ≤ 0) : sgn (p - r) ≤ 0 := by
  rcases sgn_cases (p - q) with ⟨h, e⟩ | ⟨h, e⟩ | ⟨h, e⟩ <;> rcases sgn_cases (q - r) with ⟨h', e'⟩ | ⟨h', e'⟩ | ⟨h', e'⟩ <;> rcases sgn_cases (p - r) with ⟨h2, e2⟩ | ⟨h2, e2⟩ | ⟨h2, e2⟩ <;> rw [e] at hA <;> rw [e'] at hB <;> rw [e2]
  all_goals first
    | omega
    | (exfalso; grind)
theorem sgn_add_right (p q r : Rat) : sgn ((p + r) - (q + r)) = sgn (p - q) := by rw [show (p + r) - (q + r) = p - q from by grind]
theorem sgn_mul_right (p q r : Rat) : sgn (p * r - q * r) = sgn (p - q) * sgn r := by rw [← sgn_mul, show p * r - q * r = (p - q) * r from by grind]
theorem sgn_self (p : Rat) : sgn (p - p) = 0 := by rw [show p - p = 0 from by grind]; rfl
theorem sgn_bound (x : Rat) : -1 ≤ sgn x ∧ sgn x ≤ 1 := by
  rcases sgn_cases x with ⟨h, e⟩ | ⟨h, e⟩ | ⟨h, e⟩ <;> rw [e] <;> decide
theorem sgn_swap (p q : Rat) : sgn (q - p) = - sgn (p - q) := by
  rcases sgn_cases (p - q) with ⟨h, e⟩ | ⟨h, e⟩ | ⟨h, e⟩ <;> rcases sgn_cases (q - p) with ⟨h', e'⟩ | ⟨h', e'⟩ | ⟨h', e'⟩ <;> rw [e, e']
  all_goals first
    | rfl
    | (exfalso; grind)
end Go.Proofs.YtaahbabdbopphaaDoor.Mx
