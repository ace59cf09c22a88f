/- What is written is read back. -/
import Derived.Test.YtaahbabdbopphaaDoorKA
namespace Go.Proofs.YtaahbabdbopphaaDoor
open Go.RowKit Mx
set_option maxRecDepth 100000

theorem isD_dig {k : Nat} (h : k < 10) : isD (UInt8.ofNat (48 + k)) = true := by
  have : k = 0 ∨ k = 1 ∨ k = 2 ∨ k = 3 ∨ k = 4 ∨ k = 5 ∨ k = 6 ∨ k = 7 ∨ k = 8 ∨ k = 9 := by omega
  rcases this with rfl | rfl | rfl | rfl | rfl | rfl | rfl | rfl | rfl | rfl <;> decide
theorem dec_isD (u : Nat) : ∀ b ∈ Lib.decDigits u, isD b = true := by
  induction u using Nat.strongRecOn with
  | _ u ih =>
    intro b hb
    by_cases h : u < 10
    · rw [dd1 h, List.mem_singleton] at hb
      rw [hb]; exact isD_dig h
    · rw [dd2 h, List.mem_append, List.mem_singleton] at hb
      rcases hb with hb | hb
      · exact ih _ (by omega) b hb
      · rw [hb]; exact isD_dig (by omega)
theorem dv_dec (u : Nat) : dv (Lib.decDigits u) = u := by
  induction u using Nat.strongRecOn with
  | _ u ih =>
    have hk : ∀ k, k < 10 → (UInt8.ofNat (48 + k)).toNat - 48 = k := fun k hk => by rw [UInt8.toNat_ofNat']; omega
    by_cases h : u < 10
    · rw [dd1 h]; show (0 * 10 + ((UInt8.ofNat (48 + u)).toNat - 48)) = u; rw [hk u h]; omega
    · rw [dd2 h, dv_snoc, ih _ (by omega), hk _ (by omega)]; omega
theorem dpre_app {l r : List UInt8} (h : ∀ b ∈ l, isD b = true) (hr : ∀ b, r.head? = some b → isD b = false) : dpre (l ++ r) = l := by
  unfold dpre
  induction l with
  | nil =>
    cases r with
    | nil => rfl
    | cons b r => rw [List.nil_append, List.takeWhile_cons, hr b rfl]; rfl
  | cons a l ih =>
    rw [List.cons_append, List.takeWhile_cons, h a (by simp), if_pos rfl, ih (fun b hb => h b (by simp [hb]))]
theorem dec_head (u : Nat) : (Lib.decDigits u).head? ≠ some 45 := by
  intro h
  have h1 := dec_isD u 45 (by cases hx : Lib.decDigits u with
    | nil => rw [hx] at h; cases h
    | cons a l => rw [hx] at h; injection h with h; rw [h]; simp)
  revert h1; decide
theorem prs1_txt (q : Rat) : prs1 (rneg q) (Lib.decDigits (rn q) ++ (if rd q = 1 then [] else 47 :: Lib.decDigits (rd q))) = (q, 0) := by
  have hp := dec_pos (rn q)
  by_cases h : rd q = 1
  · rw [if_pos h, List.append_nil]
    have e : dpre (Lib.decDigits (rn q)) = Lib.decDigits (rn q) := by
      have := dpre_app (r := []) (dec_isD (rn q)) (by simp)
      rwa [List.append_nil] at this
    unfold prs1
    rw [e, if_neg (by omega), if_pos rfl, dv_dec, ← h, mk_parts]
  · rw [if_neg h]
    have e : dpre (Lib.decDigits (rn q) ++ 47 :: Lib.decDigits (rd q)) = Lib.decDigits (rn q) := dpre_app (dec_isD (rn q)) (by intro b hb; injection hb with hb; rw [← hb]; decide)
    have e2 : (Lib.decDigits (rn q) ++ 47 :: Lib.decDigits (rd q)).drop ((Lib.decDigits (rn q)).length + 1) = Lib.decDigits (rd q) := by
      rw [List.drop_append]
      simp
    have e3 : (Lib.decDigits (rn q) ++ 47 :: Lib.decDigits (rd q)).getD (Lib.decDigits (rn q)).length 0 = 47 := by
      rw [List.getD_eq_getElem?_getD, List.getElem?_append_right (Nat.le_refl _), Nat.sub_self]; rfl
    have e4 : dpre (Lib.decDigits (rd q)) = Lib.decDigits (rd q) := by
      have := dpre_app (r := []) (dec_isD (rd q)) (by simp)
      rwa [List.append_nil] at this
    have hp2 := dec_pos (rd q)
    unfold prs1
    rw [e, e2, e3, e4, if_neg (by omega), if_neg (by rw [List.length_append, List.length_cons]; omega), if_neg (by
      rintro (h1 | h1 | h1)
      · omega
      · exact h1 rfl
      · exact h1.2 (by decide)), if_neg (by decide), dv_dec, if_neg (rd_ne q), dv_dec, mk_parts]
theorem prs_txt (q : Rat) (hl : (txt q).length ≤ 10000) : prs (txt q) = (q, 0) := by
  unfold prs
  rw [if_neg (by omega)]
  have hh := prs1_txt q
  unfold txt
  cases hs : rneg q
  · rw [hs] at hh
    simp only [Bool.false_eq_true, if_false, List.nil_append]
    rw [if_neg ?_]
    · exact hh
    · have h1 := dec_head (rn q)
      have h2 := dec_pos (rn q)
      cases hx : Lib.decDigits (rn q) with
      | nil => rw [hx] at h2; exact absurd h2 (by decide)
      | cons a l => rw [hx] at h1; exact h1
  · rw [hs] at hh
    rw [if_pos rfl]
    show (if some (45 : UInt8) = some 45 then prs1 true _ else _) = _
    rw [if_pos rfl]
    exact hh
end Go.Proofs.YtaahbabdbopphaaDoor
