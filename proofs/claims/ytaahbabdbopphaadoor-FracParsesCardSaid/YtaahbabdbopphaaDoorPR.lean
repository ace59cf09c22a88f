/- The reference's reading of a string is prs1. -/
import Derived.Test.YtaahbabdbopphaaDoorKA
namespace Go.Proofs.YtaahbabdbopphaaDoor
open Go.RowKit Mx
set_option maxRecDepth 100000

/-- Where the first point or stroke stands. -/
def cutAt (l : List UInt8) : Nat := l.findIdx fun b => b == 46 || b == 47
def Nmb (l : List UInt8) : Prop := dpre l = l ∧ l ≠ []
instance (l : List UInt8) : Decidable (Nmb l) := by unfold Nmb; exact inferInstance
/-- What the reference reads behind the sign. -/
def rp1 (nb : Bool) (l : List UInt8) : Rat × Int :=
  if ¬ Nmb (l.take (cutAt l)) then (0, 4)
  else if cutAt l = l.length then (mkRat (sg nb (dv (l.take (cutAt l)))) 1, 0)
  else if ¬ Nmb (l.drop (cutAt l + 1)) then (0, 4)
  else if l.getD (cutAt l) 0 = 47 then (if dv (l.drop (cutAt l + 1)) = 0 then (0, 3) else (mkRat (sg nb (dv (l.take (cutAt l)))) (dv (l.drop (cutAt l + 1))), 0))
  else (mkRat (sg nb (dv (l.take (cutAt l)) * 10 ^ (l.drop (cutAt l + 1)).length + dv (l.drop (cutAt l + 1)))) (10 ^ (l.drop (cutAt l + 1)).length), 0)
theorem cut_le (l : List UInt8) : cutAt l ≤ l.length := List.findIdx_le_length
theorem cut_at {l : List UInt8} (h : cutAt l < l.length) : l.getD (cutAt l) 0 = 46 ∨ l.getD (cutAt l) 0 = 47 := by
  have h1 := List.findIdx_getElem (xs := l) (p := fun b => b == 46 || b == 47) (w := h)
  rw [List.getD_eq_getElem?_getD, List.getElem?_eq_getElem h, Option.getD_some]
  simp only [Bool.or_eq_true, beq_iff_eq] at h1
  exact h1
theorem cut_no {l : List UInt8} {i : Nat} (h : i < cutAt l) : l.getD i 0 ≠ 46 ∧ l.getD i 0 ≠ 47 := by
  have h1 := List.not_of_lt_findIdx (xs := l) (p := fun b => b == 46 || b == 47) h
  have h2 := cut_le l
  rw [List.getD_eq_getElem?_getD, List.getElem?_eq_getElem (by omega), Option.getD_some]
  simp only [Bool.or_eq_false_iff, beq_eq_false_iff_ne] at h1
  exact h1
theorem dpre_self {l : List UInt8} (h : ∀ b ∈ l, isD b = true) : dpre l = l := by
  unfold dpre
  induction l with
  | nil => rfl
  | cons a l ih => rw [List.takeWhile_cons, if_pos (h a (by simp)), ih (fun b hb => h b (by simp [hb]))]
theorem dpre_take_all {l : List UInt8} {c : Nat} (h : dpre (l.take c) = l.take c) : ∀ b ∈ l.take c, isD b = true := by
  intro b hb
  have := dpre_all (l.take c)
  rw [h] at this
  exact this b hb
theorem dpre_at {l : List UInt8} (h : (dpre l).length < l.length) : isD (l.getD (dpre l).length 0) = false := by
  induction l with
  | nil => exact absurd h (Nat.not_lt_zero _)
  | cons a l ih =>
    by_cases ha : isD a = true
    · have e : dpre (a :: l) = a :: dpre l := by unfold dpre; rw [List.takeWhile_cons, if_pos ha]
      rw [e, List.length_cons, List.length_cons] at h
      rw [e, List.length_cons, List.getD_cons_succ]
      exact ih (by omega)
    · have e : dpre (a :: l) = [] := by unfold dpre; rw [List.takeWhile_cons, if_neg ha]
      rw [e]
      show isD a = false
      simpa using ha
theorem dpre_full {l : List UInt8} (h : (dpre l).length = l.length) : dpre l = l := by
  have h1 := List.takeWhile_prefix (l := l) isD
  exact h1.eq_of_length h
theorem dpre_tk (l : List UInt8) : dpre l = l.take (dpre l).length := by
  have h1 := List.takeWhile_prefix (l := l) isD
  exact (List.prefix_iff_eq_take.1 h1)
theorem rp1_is (nb : Bool) (l : List UInt8) : rp1 nb l = prs1 nb l := by
  have hc := cut_le l
  by_cases h : dpre (l.take (cutAt l)) = l.take (cutAt l)
  · have e : dpre l = l.take (cutAt l) := by
      refine dpre_eq l _ hc (dpre_take_all h) ?_
      by_cases h1 : cutAt l = l.length
      · exact Or.inl h1
      · refine Or.inr ⟨by omega, ?_⟩
        have h2 := cut_at (l := l) (by omega)
        rw [List.getD_eq_getElem?_getD, List.getElem?_eq_getElem (by omega), Option.getD_some] at h2
        rcases h2 with h2 | h2 <;> rw [h2] <;> decide
    have el : (dpre l).length = cutAt l := by rw [e, List.length_take]; omega
    unfold rp1 prs1
    rw [el]
    by_cases h0 : cutAt l = 0
    · rw [if_pos h0, if_pos (fun hh => hh.2 (by rw [h0]; rfl))]
    · rw [if_neg h0, if_neg (not_not_intro ⟨h, fun hh => by have := congrArg List.length hh; rw [List.length_take, List.length_nil] at this; omega⟩), e]
      by_cases h1 : cutAt l = l.length
      · rw [if_pos h1, if_pos h1]
      · rw [if_neg h1, if_neg h1]
        have h2 := cut_at (l := l) (by omega)
        generalize hm : l.drop (cutAt l + 1) = m
        by_cases hN : Nmb m
        · have hN1 := hN.1
          have hN2 := List.length_pos_iff.2 hN.2
          rw [hN1]
          generalize l.getD (cutAt l) 0 = x at h2 ⊢
          have hx : ¬ (m.length = 0 ∨ m.length ≠ m.length ∨ x.toNat ≠ 46 ∧ x.toNat ≠ 47) := by
            rintro (h3 | h3 | h3)
            · omega
            · exact h3 rfl
            · rcases h2 with h2 | h2
              · exact h3.1 (by rw [h2]; rfl)
              · exact h3.2 (by rw [h2]; rfl)
          rw [if_neg (not_not_intro hN), if_neg hx]
          rcases h2 with rfl | rfl
          · rw [if_neg (show ¬ (46 : UInt8) = 47 by decide), if_pos (show (46 : UInt8).toNat = 46 by decide)]
          · rw [if_pos rfl, if_neg (show ¬ (47 : UInt8).toNat = 46 by decide)]
        · rw [if_pos hN, if_pos (by
            by_cases h3 : (dpre m).length = m.length
            · refine Or.inl ?_
              have h4 := dpre_full h3
              by_cases h5 : m = []
              · rw [h5]; rfl
              · exact absurd ⟨h4, h5⟩ hN
            · exact Or.inr (Or.inl h3))]
  · have hd : (dpre l).length < cutAt l := by
      apply Nat.lt_of_not_le
      intro hh
      have : ∀ b ∈ l.take (cutAt l), isD b = true := by
        intro b hb
        have h1 := dpre_all l
        apply h1
        rw [dpre_tk l]
        exact (List.take_subset_take_left l hh) hb
      exact absurd (dpre_self this) h
    unfold rp1 prs1
    rw [if_pos (fun hh => h hh.1)]
    by_cases h0 : (dpre l).length = 0
    · rw [if_pos h0]
    · rw [if_neg h0, if_neg (by omega), if_pos]
      refine Or.inr (Or.inr ?_)
      have h1 := cut_no hd
      refine ⟨fun h2 => h1.1 (UInt8.toNat_inj.1 (by rw [h2]; rfl)), fun h2 => h1.2 (UInt8.toNat_inj.1 (by rw [h2]; rfl))⟩
end Go.Proofs.YtaahbabdbopphaaDoor
