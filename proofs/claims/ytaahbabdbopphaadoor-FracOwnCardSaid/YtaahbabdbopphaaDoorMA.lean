/- The long division in plain numbers: what holds before each digit of the quotient. The integer part of a rational number, from its parts. How many digits the parts of sums, products and powers have. Decimal digits in pieces of nine. Division bit by bit. -/
import Derived.Lib.ItoaMem
namespace Go.Proofs.YtaahbabdbopphaaDoor.Mx

/-- The base of the digits. -/
abbrev BB : Nat := 4294967296

/-- What a list of digits stands for, the least significant first. -/
def val : List Nat → Nat
  | [] => 0
  | x :: xs => x + 4294967296 * val xs

/-- The canonical digits of a number. -/
def dig (n : Nat) : List Nat := if h : n = 0 then [] else n % 4294967296 :: dig (n / 4294967296)
termination_by n
decreasing_by omega

def Ds (xs : List Nat) : Prop := ∀ x ∈ xs, x < 4294967296

theorem dig_zero : dig 0 = [] := by rw [dig]; simp
theorem dig_pos {n : Nat} (h : n ≠ 0) : dig n = n % 4294967296 :: dig (n / 4294967296) := by rw [dig]; simp [h]
theorem dig_cons {x n : Nat} (hx : x < 4294967296) (h : n ≠ 0 ∨ x ≠ 0) : dig (x + 4294967296 * n) = x :: dig n := by
  rw [dig_pos (by omega)]
  congr 1
  · omega
  · congr 1; omega
theorem ds_dig (n : Nat) : Ds (dig n) := by
  induction n using Nat.strongRecOn with
  | _ n ih =>
    by_cases h : n = 0
    · subst h; rw [dig_zero]; intro x hx; cases hx
    · rw [dig_pos h]; intro x hx
      rcases List.mem_cons.1 hx with rfl | hx
      · omega
      · exact ih _ (by omega) x hx
theorem val_dig (n : Nat) : val (dig n) = n := by
  induction n using Nat.strongRecOn with
  | _ n ih =>
    by_cases h : n = 0
    · subst h; rw [dig_zero]; rfl
    · rw [dig_pos h, val, ih _ (by omega)]; omega
theorem dig_inj {a b : Nat} (h : dig a = dig b) : a = b := by rw [← val_dig a, h, val_dig]
theorem dig_eq_nil {n : Nat} : dig n = [] ↔ n = 0 := by
  constructor
  · intro h; rw [← val_dig n, h]; rfl
  · rintro rfl; exact dig_zero
theorem len_dig_zero {n : Nat} : (dig n).length = 0 ↔ n = 0 := by rw [List.length_eq_zero_iff, dig_eq_nil]
theorem len_dig_pos {n : Nat} : 0 < (dig n).length ↔ n ≠ 0 := by
  have := @len_dig_zero n; omega
theorem ds_nil : Ds [] := by intro x hx; cases hx
theorem ds_cons {x : Nat} {xs : List Nat} (h : x < 4294967296) (k : Ds xs) : Ds (x :: xs) := by
  intro y hy; rcases List.mem_cons.1 hy with rfl | hy
  · exact h
  · exact k y hy
theorem ds_head {x : Nat} {xs : List Nat} (h : Ds (x :: xs)) : x < 4294967296 := h x (by simp)
theorem ds_tail {x : Nat} {xs : List Nat} (h : Ds (x :: xs)) : Ds xs := fun y hy => h y (by simp [hy])
theorem ds_append {xs ys : List Nat} (h : Ds xs) (k : Ds ys) : Ds (xs ++ ys) := by
  intro y hy; rcases List.mem_append.1 hy with hy | hy
  · exact h y hy
  · exact k y hy
theorem ds_take {xs : List Nat} (h : Ds xs) (n : Nat) : Ds (xs.take n) := fun y hy => h y (List.mem_of_mem_take hy)
theorem ds_drop {xs : List Nat} (h : Ds xs) (n : Nat) : Ds (xs.drop n) := fun y hy => h y (List.mem_of_mem_drop hy)
theorem ds_get {xs : List Nat} (h : Ds xs) (i : Nat) : xs.getD i 0 < 4294967296 := by
  rw [List.getD_eq_getElem?_getD]
  by_cases hi : i < xs.length
  · rw [List.getElem?_eq_getElem hi]; exact h _ (List.getElem_mem hi)
  · rw [List.getElem?_eq_none (by omega)]; simp
theorem ds_set {xs : List Nat} (h : Ds xs) (i : Nat) {x : Nat} (hx : x < 4294967296) : Ds (xs.set i x) := by
  intro y hy; rcases List.mem_or_eq_of_mem_set hy with hy | rfl
  · exact h y hy
  · exact hx
theorem ds_replicate (n : Nat) : Ds (List.replicate n 0) := by
  intro y hy; rw [List.mem_replicate] at hy; omega

theorem val_nil : val [] = 0 := rfl
theorem val_cons (x : Nat) (xs : List Nat) : val (x :: xs) = x + 4294967296 * val xs := rfl
theorem pow_succ' (n : Nat) : 4294967296 ^ (n + 1) = 4294967296 * 4294967296 ^ n := by rw [Nat.pow_succ, Nat.mul_comm]
theorem pw_pos (n : Nat) : 0 < 4294967296 ^ n := Nat.pow_pos (by omega)
theorem val_append (xs ys : List Nat) : val (xs ++ ys) = val xs + 4294967296 ^ xs.length * val ys := by
  induction xs with
  | nil => simp [val]
  | cons x xs ih =>
    rw [List.cons_append, val_cons, val_cons, ih, List.length_cons, pow_succ', Nat.mul_add, Nat.mul_assoc]; omega
theorem val_snoc (xs : List Nat) (x : Nat) : val (xs ++ [x]) = val xs + 4294967296 ^ xs.length * x := by
  rw [val_append]; simp [val]
theorem val_replicate (n : Nat) : val (List.replicate n 0) = 0 := by
  induction n with
  | zero => rfl
  | succ n ih => rw [List.replicate_succ, val_cons, ih]
theorem val_lt {xs : List Nat} (h : Ds xs) : val xs < 4294967296 ^ xs.length := by
  induction xs with
  | nil => simp [val]
  | cons x xs ih =>
    have h1 := ih (ds_tail h); have h2 := ds_head h
    rw [val_cons, List.length_cons, pow_succ']
    have : 4294967296 * (val xs + 1) ≤ 4294967296 * 4294967296 ^ xs.length := Nat.mul_le_mul_left _ h1
    omega
theorem val_take_drop (xs : List Nat) (n : Nat) (h : n ≤ xs.length) : val xs = val (xs.take n) + 4294967296 ^ n * val (xs.drop n) := by
  conv => lhs; rw [← List.take_append_drop n xs]
  rw [val_append, List.length_take, Nat.min_eq_left h]
theorem val_take_succ (xs : List Nat) (n : Nat) (h : n < xs.length) : val (xs.take (n + 1)) = val (xs.take n) + 4294967296 ^ n * xs.getD n 0 := by
  rw [List.take_succ_eq_append_getElem h, val_snoc, List.length_take, Nat.min_eq_left (by omega)]; simp [h]
theorem val_drop (xs : List Nat) (n : Nat) (h : n < xs.length) : val (xs.drop n) = xs.getD n 0 + 4294967296 * val (xs.drop (n + 1)) := by
  rw [List.drop_eq_getElem_cons h, val_cons]; simp [h]
theorem val_drop_ge (xs : List Nat) (n : Nat) (h : xs.length ≤ n) : val (xs.drop n) = 0 := by rw [List.drop_of_length_le h]; rfl

/-- Digits whose last one is not 0 are the canonical ones. -/
theorem dig_val {xs : List Nat} (h : Ds xs) (hl : ∀ x, xs.getLast? = some x → x ≠ 0) : dig (val xs) = xs := by
  induction xs with
  | nil => exact dig_zero
  | cons x xs ih =>
    have ih := ih (ds_tail h) (fun y hy => hl y (by
      cases xs with
      | nil => cases hy
      | cons z zs => rw [List.getLast?_cons_cons]; exact hy))
    rw [val_cons, dig_cons (ds_head h), ih]
    cases xs with
    | nil => right; exact hl x (by simp)
    | cons z zs =>
      left; intro e
      rw [e, dig_zero] at ih; cases ih
theorem dig_last {n x : Nat} (h : (dig n).getLast? = some x) : x ≠ 0 := by
  induction n using Nat.strongRecOn with
  | _ n ih =>
    by_cases h0 : n = 0
    · subst h0; rw [dig_zero] at h; cases h
    · rw [dig_pos h0] at h
      by_cases h1 : n / 4294967296 = 0
      · rw [h1, dig_zero] at h; simp at h; omega
      · rw [dig_pos h1, List.getLast?_cons_cons, ← dig_pos h1] at h
        exact ih _ (by omega) h
/-- 'n' digits of which those from 'k' on are 0, digit 'k - 1' is not. -/
theorem trim_to {xs : List Nat} {k : Nat} (h : Ds xs) (hk : k ≤ xs.length) (hz : ∀ i, k ≤ i → i < xs.length → xs.getD i 0 = 0) (hl : k = 0 ∨ xs.getD (k - 1) 0 ≠ 0) : xs.take k = dig (val xs) := by
  have hv : val (xs.drop k) = 0 := by
    have : xs.drop k = List.replicate (xs.length - k) 0 := by
      apply List.ext_getElem
      · simp
      · intro i h1 h2
        simp at h1 ⊢
        have := hz (k + i) (by omega) (by omega)
        rw [List.getD_eq_getElem?_getD, List.getElem?_eq_getElem (by omega)] at this
        simpa using this
    rw [this, val_replicate]
  have e : val xs = val (xs.take k) := by rw [val_take_drop xs k hk, hv]; omega
  rw [e]
  refine (dig_val (ds_take h k) ?_).symm
  intro x hx
  rcases hl with rfl | hl
  · simp at hx
  · rw [List.getLast?_eq_getElem?, List.length_take, Nat.min_eq_left hk] at hx
    by_cases k0 : k = 0
    · subst k0; simp at hx
    · rw [List.getElem?_take, if_pos (by omega)] at hx
      rw [List.getD_eq_getElem?_getD, hx] at hl
      simpa using hl

/-! ### how many digits -/
theorem len_le_iff {n k : Nat} : (dig n).length ≤ k ↔ n < 4294967296 ^ k := by
  induction k generalizing n with
  | zero => rw [Nat.le_zero, len_dig_zero, Nat.pow_zero]; omega
  | succ k ih =>
    by_cases h : n = 0
    · subst h; rw [dig_zero]; simp; exact pw_pos _
    · rw [dig_pos h, List.length_cons, Nat.add_le_add_iff_right, ih, Nat.div_lt_iff_lt_mul (by omega), Nat.pow_succ]
theorem lt_pow_len (n : Nat) : n < 4294967296 ^ (dig n).length := len_le_iff.1 (Nat.le_refl _)
theorem len_mono {a b : Nat} (h : a ≤ b) : (dig a).length ≤ (dig b).length := len_le_iff.2 (Nat.lt_of_le_of_lt h (lt_pow_len b))
theorem len_val {xs : List Nat} (h : Ds xs) : (dig (val xs)).length ≤ xs.length := len_le_iff.2 (val_lt h)
theorem len_mul (a b : Nat) : (dig (a * b)).length ≤ (dig a).length + (dig b).length := by
  rw [len_le_iff, Nat.pow_add]
  exact Nat.mul_lt_mul'' (lt_pow_len a) (lt_pow_len b)
theorem len_add (a b : Nat) : (dig (a + b)).length ≤ max (dig a).length (dig b).length + 1 := by
  rw [len_le_iff, pow_succ']
  have h1 := lt_pow_len a; have h2 := lt_pow_len b
  have m1 : 4294967296 ^ (dig a).length ≤ 4294967296 ^ max (dig a).length (dig b).length := Nat.pow_le_pow_right (by omega) (by omega)
  have m2 : 4294967296 ^ (dig b).length ≤ 4294967296 ^ max (dig a).length (dig b).length := Nat.pow_le_pow_right (by omega) (by omega)
  omega
theorem len_small {a : Nat} (h : a < 4294967296) : (dig a).length ≤ 1 := len_le_iff.2 (by simpa using h)
theorem len_two {a : Nat} (h : a < 18446744073709551616) : (dig a).length ≤ 2 := len_le_iff.2 (by simpa using h)
theorem pow_le_of_lt_len {n k : Nat} (h : k < (dig n).length) : 4294967296 ^ k ≤ n := by
  rcases Nat.lt_or_ge n (4294967296 ^ k) with h1 | h1
  · have := len_le_iff.2 h1; omega
  · exact h1
end Go.Proofs.YtaahbabdbopphaaDoor.Mx
namespace Go.Proofs.YtaahbabdbopphaaDoor.Mx

def sg (neg : Bool) (n : Nat) : Int := if neg then -(n : Int) else n
theorem sg_natAbs (neg : Bool) (n : Nat) : (sg neg n).natAbs = n := by unfold sg; split <;> omega
theorem sg_neg (neg : Bool) (n : Nat) : decide (sg neg n < 0) = (neg && decide (0 < n)) := by
  unfold sg; cases neg <;> simp <;> omega
/-- The value of a sign, a numerator and a denominator (0 counts as 1). -/
def fv (neg : Bool) (n d : Nat) : Rat := mkRat (sg neg n) (if d = 0 then 1 else d)
def low (d : Nat) : Nat := if d = 0 then 1 else d
theorem low_pos (d : Nat) : 0 < low d := by unfold low; split <;> omega
theorem low_ne (d : Nat) : low d ≠ 0 := by have := low_pos d; omega
theorem low_of {d : Nat} (h : d ≠ 0) : low d = d := by unfold low; simp [h]
theorem fv_low (neg : Bool) (n d : Nat) : fv neg n d = mkRat (sg neg n) (low d) := rfl

/-- The parts of a rational number. -/
def rneg (q : Rat) : Bool := decide (q.num < 0)
def rn (q : Rat) : Nat := q.num.natAbs
def rd (q : Rat) : Nat := q.den
/-- The denominator as it is written: nothing for 1. -/
def rD (q : Rat) : Nat := if q.den = 1 then 0 else q.den

theorem rd_pos (q : Rat) : 0 < rd q := q.den_pos
theorem rd_ne (q : Rat) : rd q ≠ 0 := q.den_nz
theorem sg_parts (q : Rat) : sg (rneg q) (rn q) = q.num := by
  unfold sg rneg rn
  by_cases h : q.num < 0
  · simp [h]; omega
  · simp [h]; omega
theorem num_ofSg (neg : Bool) (n d : Nat) (hd : d ≠ 0) : (mkRat (sg neg n) d).num = sg neg (n / n.gcd d) := by
  rw [Rat.num_mkRat, if_neg hd, sg_natAbs, Nat.gcd_comm]
  obtain ⟨k, hk⟩ := Nat.gcd_dvd_left n d
  have hg : 0 < n.gcd d := Nat.gcd_pos_of_pos_right _ (by omega)
  have hn : n / n.gcd d = k := by conv => lhs; lhs; rw [hk]
                                  exact Nat.mul_div_cancel_left _ hg
  rw [hn]
  have : sg neg n = sg neg k * (n.gcd d : Int) := by
    conv => lhs; rw [hk]
    unfold sg; cases neg
    · simp [Int.mul_comm]
    · simp only [if_true]; push_cast; rw [Int.neg_mul, Int.mul_comm]
  rw [this]
  exact Int.mul_ediv_cancel _ (by omega)
theorem rn_mk (neg : Bool) (n d : Nat) (hd : d ≠ 0) : rn (mkRat (sg neg n) d) = n / n.gcd d := by
  unfold rn; rw [num_ofSg _ _ _ hd, sg_natAbs]
theorem rd_mk (neg : Bool) (n d : Nat) (hd : d ≠ 0) : rd (mkRat (sg neg n) d) = d / n.gcd d := by
  unfold rd; rw [Rat.den_mkRat, if_neg hd, sg_natAbs, Nat.gcd_comm]
theorem div_gcd_pos (n d : Nat) (hd : d ≠ 0) : 0 < n / n.gcd d ↔ 0 < n := by
  have hg : 0 < n.gcd d := Nat.gcd_pos_of_pos_right _ (by omega)
  constructor
  · intro h; rcases Nat.eq_zero_or_pos n with rfl | h1
    · simp at h
    · exact h1
  · intro h; exact Nat.div_pos (Nat.le_of_dvd h (Nat.gcd_dvd_left n d)) hg
theorem rneg_mk (neg : Bool) (n d : Nat) (hd : d ≠ 0) : rneg (mkRat (sg neg n) d) = (neg && decide (0 < n)) := by
  unfold rneg; rw [num_ofSg _ _ _ hd, sg_neg]
  simp only [div_gcd_pos n d hd]
theorem rneg_mk' (neg : Bool) (n d : Nat) (hd : d ≠ 0) : rneg (mkRat (sg neg n) d) = (neg && decide (0 < n / n.gcd d)) := by
  unfold rneg; rw [num_ofSg _ _ _ hd, sg_neg]
theorem mk_parts (q : Rat) : mkRat (sg (rneg q) (rn q)) (rd q) = q := by rw [sg_parts]; exact Rat.mkRat_self q
theorem fv_parts (q : Rat) : fv (rneg q) (rn q) (rd q) = q := by
  rw [fv_low, low_of (rd_ne q), mk_parts]
theorem low_rD (q : Rat) : low (rD q) = rd q := by
  unfold low rD rd; by_cases h : q.den = 1
  · simp [h]
  · have := q.den_nz; simp [h, this]
theorem fv_canon (q : Rat) : fv (rneg q) (rn q) (rD q) = q := by rw [fv_low, low_rD, mk_parts]
/-- Two numbers with the same parts are one. -/
theorem parts_inj {p q : Rat} (h1 : rneg p = rneg q) (h2 : rn p = rn q) (h3 : rD p = rD q) : p = q := by rw [← fv_canon p, ← fv_canon q, h1, h2, h3]
theorem rneg_zero_n {q : Rat} (h : rn q = 0) : rneg q = false := by unfold rneg; unfold rn at h; rw [decide_eq_false_iff_not]; omega
theorem rn_zero {q : Rat} : rn q = 0 ↔ q = 0 := by
  unfold rn; rw [Int.natAbs_eq_zero, Rat.num_eq_zero]
theorem coprime_parts (q : Rat) : (rn q).gcd (rd q) = 1 := q.reduced
theorem rd_of_zero {q : Rat} (h : rn q = 0) : rd q = 1 := by
  have := coprime_parts q; rw [h, Nat.gcd_zero_left] at this; exact this

/-! ### the operations -/
theorem add_same (p q : Rat) (h : rneg p = rneg q) : mkRat (sg (rneg p) (rn p * rd q + rn q * rd p)) (rd p * rd q) = p + q := by
  rw [Rat.add_def', ← sg_parts p, ← sg_parts q, ← h]
  congr 1
  unfold sg; cases rneg p
  · simp [rd]
  · simp [rd]; rw [Int.neg_add, Int.neg_mul, Int.neg_mul]
theorem add_less (p q : Rat) (h : rneg p ≠ rneg q) (hlt : rn p * rd q < rn q * rd p) : mkRat (sg (rneg q) (rn q * rd p - rn p * rd q)) (rd p * rd q) = p + q := by
  rw [Rat.add_def', ← sg_parts p, ← sg_parts q]
  congr 1
  unfold sg
  revert h
  cases rneg p <;> cases rneg q <;> intro h <;> simp at h ⊢ <;> rw [Int.ofNat_sub (by omega)] <;> push_cast <;> simp only [rd, Int.neg_mul] <;> omega
theorem add_more (p q : Rat) (h : rneg p ≠ rneg q) (hge : ¬ rn p * rd q < rn q * rd p) : mkRat (sg (rneg p) (rn p * rd q - rn q * rd p)) (rd p * rd q) = p + q := by
  rw [Rat.add_def', ← sg_parts p, ← sg_parts q]
  congr 1
  unfold sg
  revert h
  cases rneg p <;> cases rneg q <;> intro h <;> simp at h ⊢ <;> rw [Int.ofNat_sub (by omega)] <;> push_cast <;> simp only [rd, Int.neg_mul] <;> omega
theorem sg_mul (a b : Bool) (m n : Nat) : sg (a != b) (m * n) = sg a m * sg b n := by
  unfold sg; cases a <;> cases b <;> simp [Int.neg_mul, Int.mul_neg]
theorem mul_is (p q : Rat) : mkRat (sg (rneg p != rneg q) (rn p * rn q)) (rd p * rd q) = p * q := by
  rw [Rat.mul_def', sg_mul, sg_parts, sg_parts]; rfl
theorem neg_parts (q : Rat) : rneg (-q) = (!rneg q && decide (0 < rn q)) ∧ rn (-q) = rn q ∧ rd (-q) = rd q := by
  refine ⟨?_, ?_, ?_⟩
  · unfold rneg rn; rw [Rat.neg_num]
    rcases Int.lt_trichotomy q.num 0 with h | h | h
    · rw [decide_eq_false (by omega), decide_eq_true h]; rfl
    · rw [decide_eq_false (by omega), decide_eq_false (by omega), decide_eq_false (by omega)]; rfl
    · rw [decide_eq_true (by omega), decide_eq_false (by omega), decide_eq_true (by omega)]; rfl
  · unfold rn; rw [Rat.neg_num, Int.natAbs_neg]
  · unfold rd; rw [Rat.neg_den]
theorem inv_parts {q : Rat} (h : rn q ≠ 0) : rneg q⁻¹ = rneg q ∧ rn q⁻¹ = rd q ∧ rd q⁻¹ = rn q := by
  have hd := q.den_nz
  unfold rn at h
  refine ⟨?_, ?_, ?_⟩
  · unfold rneg; rw [Rat.num_inv]
    rcases Int.lt_trichotomy q.num 0 with h1 | h1 | h1
    · rw [Int.sign_eq_neg_one_of_neg h1]; simp [h1]; omega
    · omega
    · rw [Int.sign_eq_one_of_pos h1]; simp; omega
  · unfold rn rd; rw [Rat.num_inv]
    rw [Int.natAbs_mul, Int.natAbs_sign_of_ne_zero (by omega)]; simp
  · unfold rn rd; rw [Rat.den_inv, if_neg (by omega)]
theorem sign_cases (q : Rat) : (q < 0 ↔ rneg q = true) ∧ (q = 0 ↔ rn q = 0) := by
  refine ⟨?_, rn_zero.symm⟩
  unfold rneg
  rw [← Rat.not_le, ← Rat.num_nonneg, decide_eq_true_eq]; omega
/-- -1, 0 or 1. -/
def sgn (q : Rat) : Int := if q = 0 then 0 else if q < 0 then -1 else 1
theorem sgn_is (q : Rat) : sgn q = if rn q = 0 then 0 else if rneg q = true then -1 else 1 := by
  unfold sgn; simp only [(sign_cases q).1, (sign_cases q).2]
end Go.Proofs.YtaahbabdbopphaaDoor.Mx
namespace Go.Proofs.YtaahbabdbopphaaDoor.Mx

theorem val_take_succ' (xs : List Nat) (n : Nat) : val (xs.take (n + 1)) = val (xs.take n) + 4294967296 ^ n * xs.getD n 0 := by
  rcases Nat.lt_or_ge n xs.length with h | h
  · exact val_take_succ xs n h
  · rw [List.take_of_length_le (by omega), List.take_of_length_le h, List.getD_eq_getElem?_getD, List.getElem?_eq_none h]; simp
theorem val_drop' (xs : List Nat) (n : Nat) : val (xs.drop n) = xs.getD n 0 + 4294967296 * val (xs.drop (n + 1)) := by
  rcases Nat.lt_or_ge n xs.length with h | h
  · exact val_drop xs n h
  · rw [val_drop_ge _ _ h, val_drop_ge _ _ (by omega), List.getD_eq_getElem?_getD, List.getElem?_eq_none h]; simp
theorem val_take_all (xs : List Nat) (n : Nat) (h : xs.length ≤ n) : val (xs.take n) = val xs := by rw [List.take_of_length_le h]
theorem val_set (xs : List Nat) (k v : Nat) (h : k < xs.length) : val (xs.set k v) + 4294967296 ^ k * xs.getD k 0 = val xs + 4294967296 ^ k * v := by
  induction xs generalizing k with
  | nil => simp at h
  | cons x xs ih =>
    cases k with
    | zero => simp [val]; omega
    | succ k =>
      have := ih k (by simpa using h)
      rw [List.set_cons_succ, val_cons, val_cons, List.getD_cons_succ, pow_succ', Nat.mul_assoc, Nat.mul_assoc]; omega
theorem getD_set_same (xs : List Nat) (k v : Nat) (h : k < xs.length) : (xs.set k v).getD k 0 = v := by
  rw [List.getD_eq_getElem?_getD]; simp [h]
theorem getD_set_other (xs : List Nat) (k j v : Nat) (h : k ≠ j) : (xs.set k v).getD j 0 = xs.getD j 0 := by
  rw [List.getD_eq_getElem?_getD, List.getD_eq_getElem?_getD, List.getElem?_set_ne h]
theorem getD_ge (xs : List Nat) (k : Nat) (h : xs.length ≤ k) : xs.getD k 0 = 0 := by
  rw [List.getD_eq_getElem?_getD, List.getElem?_eq_none h]; rfl
theorem getD_replicate (n k : Nat) : (List.replicate n 0).getD k 0 = 0 := by
  rcases Nat.lt_or_ge k n with h | h
  · rw [List.getD_eq_getElem?_getD]; simp [h]
  · exact getD_ge _ _ (by simpa using h)
theorem take_set_ge (xs : List Nat) (k v : Nat) : (xs.set k v).take k = xs.take k := by
  rw [List.take_set]; exact List.set_eq_of_length_le (by rw [List.length_take]; omega)
theorem val_zero_of {xs : List Nat} (h : ∀ i, xs.getD i 0 = 0) : val xs = 0 := by
  induction xs with
  | nil => rfl
  | cons x xs ih =>
    have h0 := h 0
    rw [val_cons, ih (fun i => by have := h (i + 1); simpa using this)]
    simp at h0; omega

/-! ### compare -/
theorem cmp_at {xs ys : List Nat} {i : Nat} (hx : Ds xs) (hi : i < xs.length) (hl : xs.length = ys.length)
    (h : val (xs.drop (i + 1)) = val (ys.drop (i + 1))) (hlt : xs.getD i 0 < ys.getD i 0) : val xs < val ys := by
  rw [val_take_drop xs i (by omega), val_take_drop ys i (by omega), val_drop' xs, val_drop' ys, h]
  have h1 := val_lt (ds_take hx i)
  rw [List.length_take, Nat.min_eq_left (by omega)] at h1
  have h2 : 4294967296 ^ i * (xs.getD i 0 + 4294967296 * val (ys.drop (i + 1)) + 1) ≤ 4294967296 ^ i * (ys.getD i 0 + 4294967296 * val (ys.drop (i + 1))) := Nat.mul_le_mul_left _ (by omega)
  rw [Nat.mul_add, Nat.mul_one] at h2
  omega
theorem lt_of_len {a b : Nat} (h : (dig a).length < (dig b).length) : a < b := by
  rcases Nat.lt_or_ge a b with h1 | h1
  · exact h1
  · have := len_mono h1; omega

/-! ### add -/
theorem add_step {o c c' x y k O X Y : Nat} (h : O + 4294967296 ^ k * c = X + Y) (hs : c' * 4294967296 + o = c + x + y) :
    (O + 4294967296 ^ k * o) + 4294967296 ^ (k + 1) * c' = (X + 4294967296 ^ k * x) + (Y + 4294967296 ^ k * y) := by
  have e : 4294967296 ^ k * (c' * 4294967296 + o) = 4294967296 ^ k * (c + x + y) := by rw [hs]
  rw [Nat.mul_add, Nat.mul_add, Nat.mul_add] at e
  rw [Nat.pow_succ, Nat.mul_assoc, Nat.mul_comm 4294967296 c']
  omega
theorem carry_zero {O c k S : Nat} (h : O + 4294967296 ^ k * c = S) (hs : S < 4294967296 ^ k) : c = 0 := by
  rcases Nat.eq_zero_or_pos c with h0 | h0
  · exact h0
  · have : 4294967296 ^ k * 1 ≤ 4294967296 ^ k * c := Nat.mul_le_mul_left _ h0
    omega

theorem add_end {out : List Nat} {a b k C : Nat} (h : val (out.take k) + 4294967296 ^ k * C = val ((dig a).take k) + val ((dig b).take k))
    (ho : out.length ≤ k) (ha : (dig a).length + 1 ≤ k) (hb : (dig b).length + 1 ≤ k) : val out = a + b := by
  rw [val_take_all out k ho, val_take_all (dig a) k (by omega), val_take_all (dig b) k (by omega), val_dig, val_dig] at h
  have hlt : a + b < 4294967296 ^ k := len_le_iff.1 (Nat.le_trans (len_add a b) (by omega))
  have := carry_zero h hlt
  subst this
  omega

/-! ### sub -/
theorem sub_step {o b b' x y k O X Y : Nat} (h : O + Y = X + 4294967296 ^ k * b) (hs : o + y + b = x + 4294967296 * b') :
    (O + 4294967296 ^ k * o) + (Y + 4294967296 ^ k * y) = (X + 4294967296 ^ k * x) + 4294967296 ^ (k + 1) * b' := by
  have e : 4294967296 ^ k * (o + y + b) = 4294967296 ^ k * (x + 4294967296 * b') := by rw [hs]
  rw [Nat.mul_add, Nat.mul_add, Nat.mul_add] at e
  rw [Nat.pow_succ, Nat.mul_assoc]
  omega
theorem borrow_zero {O Y X b k : Nat} (h : O + Y = X + 4294967296 ^ k * b) (ho : O < 4294967296 ^ k) (hle : Y ≤ X) : b = 0 := by
  rcases Nat.eq_zero_or_pos b with h0 | h0
  · exact h0
  · have : 4294967296 ^ k * 1 ≤ 4294967296 ^ k * b := Nat.mul_le_mul_left _ h0
    omega

theorem sub_end {out : List Nat} {a b k C : Nat} (h : val (out.take k) + val ((dig b).take k) = val ((dig a).take k) + 4294967296 ^ k * C)
    (ho : out.length ≤ k) (hds : Ds out) (ha : (dig a).length ≤ k) (hb : (dig b).length ≤ k) (hle : b ≤ a) : val out = a - b := by
  rw [val_take_all out k ho, val_take_all (dig a) k ha, val_take_all (dig b) k hb, val_dig, val_dig] at h
  have hlt : val out < 4294967296 ^ k := Nat.lt_of_lt_of_le (val_lt hds) (Nat.pow_le_pow_right (by omega) ho)
  have := borrow_zero h hlt hle
  subst this
  omega

/-! ### mul -/
theorem mul_step {V V' c c' o o' x y i j S T : Nat} (h : V + 4294967296 ^ (i + j) * c = S + 4294967296 ^ i * (x * T)) (hv : V' + 4294967296 ^ (i + j) * o = V + 4294967296 ^ (i + j) * o')
    (hs : c' * 4294967296 + o' = c + x * y + o) : V' + 4294967296 ^ (i + (j + 1)) * c' = S + 4294967296 ^ i * (x * (T + 4294967296 ^ j * y)) := by
  have e : 4294967296 ^ (i + j) * (c' * 4294967296 + o') = 4294967296 ^ (i + j) * (c + x * y + o) := by rw [hs]
  rw [Nat.mul_add, Nat.mul_add, Nat.mul_add] at e
  have e2 : 4294967296 ^ i * (x * (T + 4294967296 ^ j * y)) = 4294967296 ^ i * (x * T) + 4294967296 ^ (i + j) * (x * y) := by
    rw [Nat.mul_add, Nat.mul_add, Nat.pow_add, Nat.mul_left_comm x, Nat.mul_assoc]
  rw [e2, ← Nat.add_assoc i j 1, Nat.pow_succ, Nat.mul_assoc, Nat.mul_comm 4294967296 c']
  omega
theorem mul_bound {c x y o : Nat} (hc : c < 4294967296) (hx : x < 4294967296) (hy : y < 4294967296) (ho : o < 4294967296) : c + x * y + o ≤ 18446744073709551615 := by
  have : x * y ≤ 4294967295 * 4294967295 := Nat.mul_le_mul (by omega) (by omega)
  omega
theorem pbound {x y : Nat} (hx : x < 4294967296) (hy : y < 4294967296) : x * y ≤ 18446744065119617025 := Nat.mul_le_mul (Nat.le_of_lt_succ hx) (Nat.le_of_lt_succ hy)

/-! ### over -/
theorem over_step {V Q d r r' q x : Nat} (h : V = d * Q + r) (hs : r * 4294967296 + x = d * q + r') : x + 4294967296 * V = d * (q + 4294967296 * Q) + r' := by
  rw [h, Nat.mul_add, Nat.mul_add, Nat.mul_left_comm d 4294967296 Q]; omega

/-! ### the long division -/
theorem guess_top {R v n j t : Nat} (hv : 4294967296 ^ n * t ≤ v) (ht : 0 < t) : R / (v * 4294967296 ^ j) ≤ R / 4294967296 ^ (j + n) / t := by
  rw [Nat.div_div_eq_div_mul, Nat.pow_add]
  apply Nat.div_le_div_left
  · rw [Nat.mul_comm v, Nat.mul_assoc]; exact Nat.mul_le_mul_left _ hv
  · exact Nat.mul_pos (Nat.mul_pos (pw_pos _) (pw_pos _)) ht
theorem digit_at (xs : List Nat) (h : Ds xs) (i : Nat) : val xs / 4294967296 ^ i % 4294967296 = xs.getD i 0 := by
  rcases Nat.lt_or_ge i xs.length with hi | hi
  · rw [val_take_drop xs i (by omega), val_drop' xs i, Nat.add_mul_div_left _ _ (pw_pos _)]
    have h1 := val_lt (ds_take h i)
    rw [List.length_take, Nat.min_eq_left (by omega)] at h1
    rw [Nat.div_eq_of_lt h1]
    have := ds_get h i
    omega
  · rw [getD_ge _ _ hi]
    have : val xs < 4294967296 ^ i := Nat.lt_of_lt_of_le (val_lt h) (Nat.pow_le_pow_right (by omega) hi)
    rw [Nat.div_eq_of_lt this]
theorem digit_dig (n i : Nat) : (dig n).getD i 0 = n / 4294967296 ^ i % 4294967296 := by
  rw [← digit_at _ (ds_dig n), val_dig]
theorem drop_val (xs : List Nat) (h : Ds xs) (i : Nat) : val (xs.drop i) = val xs / 4294967296 ^ i := by
  rcases Nat.lt_or_ge i xs.length with hi | hi
  · rw [val_take_drop xs i (by omega), Nat.add_mul_div_left _ _ (pw_pos _)]
    have h1 := val_lt (ds_take h i)
    rw [List.length_take, Nat.min_eq_left (by omega)] at h1
    rw [Nat.div_eq_of_lt h1]; omega
  · rw [val_drop_ge _ _ hi]
    have : val xs < 4294967296 ^ i := Nat.lt_of_lt_of_le (val_lt h) (Nat.pow_le_pow_right (by omega) hi)
    rw [Nat.div_eq_of_lt this]
/-- The last digit of a number that is not 0. -/
theorem top_digit {n : Nat} (h : n ≠ 0) : (dig n).getD ((dig n).length - 1) 0 ≠ 0 ∧ 4294967296 ^ ((dig n).length - 1) * (dig n).getD ((dig n).length - 1) 0 ≤ n := by
  have hp := len_dig_pos.2 h
  refine ⟨?_, ?_⟩
  · have : (dig n).getLast? = some ((dig n).getD ((dig n).length - 1) 0) := by
      rw [List.getLast?_eq_getElem?, List.getD_eq_getElem?_getD, List.getElem?_eq_getElem (by omega)]; rfl
    exact dig_last this
  · have := val_take_drop (dig n) ((dig n).length - 1) (by omega)
    rw [val_dig, val_drop', show (dig n).length - 1 + 1 = (dig n).length from by omega, val_drop_ge (dig n) (dig n).length (Nat.le_refl _), Nat.mul_zero, Nat.add_zero] at this
    omega
/-- One digit of the quotient: the rest is below the next place. -/
theorem quot_step {u v Q R j g : Nat} (h : u = v * (4294967296 ^ (j + 1) * Q) + R) (hg : g = R / (v * 4294967296 ^ j)) (hv : 0 < v) :
    u = v * (4294967296 ^ j * (g + 4294967296 * Q)) + (R - v * g * 4294967296 ^ j) ∧ R - v * g * 4294967296 ^ j < v * 4294967296 ^ j ∧ v * g * 4294967296 ^ j ≤ R := by
  have hp : 0 < v * 4294967296 ^ j := Nat.mul_pos hv (pw_pos j)
  have hle : v * g * 4294967296 ^ j ≤ R := by
    rw [hg, Nat.mul_assoc, Nat.mul_comm _ (4294967296 ^ j), ← Nat.mul_assoc]; exact Nat.mul_div_le _ _
  refine ⟨?_, ?_, hle⟩
  · have e : v * (4294967296 ^ j * (g + 4294967296 * Q)) = v * g * 4294967296 ^ j + v * (4294967296 ^ (j + 1) * Q) := by
      rw [Nat.mul_add, Nat.mul_add, Nat.pow_succ, Nat.mul_assoc v g, Nat.mul_comm g, Nat.mul_assoc (4294967296 ^ j)]
    rw [e]; omega
  · have := Nat.mod_lt R hp
    have h2 := Nat.div_add_mod R (v * 4294967296 ^ j)
    have e : v * g * 4294967296 ^ j = v * 4294967296 ^ j * (R / (v * 4294967296 ^ j)) := by rw [← hg, Nat.mul_assoc, Nat.mul_comm g, ← Nat.mul_assoc]
    omega
theorem guess_is {R v j g : Nat} (hv : 0 < v) (hfit : v * g * 4294967296 ^ j ≤ R) (hmax : R / (v * 4294967296 ^ j) ≤ g) : g = R / (v * 4294967296 ^ j) := by
  have hp : 0 < v * 4294967296 ^ j := Nat.mul_pos hv (pw_pos j)
  refine Nat.le_antisymm ?_ hmax
  rw [Nat.le_div_iff_mul_le hp]
  have e : g * (v * 4294967296 ^ j) = v * g * 4294967296 ^ j := by rw [← Nat.mul_assoc, Nat.mul_comm g v]
  omega
theorem guess_not {R v j g : Nat} (hv : 0 < v) (hfit : ¬ v * g * 4294967296 ^ j ≤ R) : R / (v * 4294967296 ^ j) ≤ g - 1 := by
  have hp : 0 < v * 4294967296 ^ j := Nat.mul_pos hv (pw_pos j)
  have : R / (v * 4294967296 ^ j) < g := by
    rw [Nat.div_lt_iff_lt_mul hp]
    have e : g * (v * 4294967296 ^ j) = v * g * 4294967296 ^ j := by rw [← Nat.mul_assoc, Nat.mul_comm g v]
    omega
  omega
/-- Moved up by the same power of 2 the quotient stays, the rest is moved up too. -/
theorem div_shift {a b s Q R : Nat} (hb : 0 < b) (h : a * 2 ^ s = b * 2 ^ s * Q + R) (hR : R < b * 2 ^ s) : Q = a / b ∧ R / 2 ^ s = a % b := by
  have hs : 0 < 2 ^ s := Nat.pow_pos (by omega)
  have hp : 0 < b * 2 ^ s := Nat.mul_pos hb hs
  have hQ : Q = a * 2 ^ s / (b * 2 ^ s) := by
    rw [h, Nat.mul_add_div hp, Nat.div_eq_of_lt hR]; omega
  have hR' : R = a * 2 ^ s % (b * 2 ^ s) := by
    rw [h, Nat.mul_add_mod, Nat.mod_eq_of_lt hR]
  rw [Nat.mul_div_mul_right _ _ hs] at hQ
  refine ⟨hQ, ?_⟩
  rw [hR', Nat.mul_mod_mul_right, Nat.mul_div_cancel _ hs]

/-! ### shifts by bits -/
theorem shift_step {V x o h k s : Nat} (ho : o = x * 2 ^ s % 4294967296) (hh : h = x * 2 ^ s / 4294967296) :
    V * 2 ^ s + 4294967296 ^ k * (o + 4294967296 * h) = (V + 4294967296 ^ k * x) * 2 ^ s := by
  have : o + 4294967296 * h = x * 2 ^ s := by rw [ho, hh]; omega
  rw [this, Nat.add_mul, Nat.mul_assoc]
theorem down_take {n s k : Nat} : n / 2 ^ s % 4294967296 ^ (k + 1) = n / 2 ^ s % 4294967296 ^ k + 4294967296 ^ k * (n / 4294967296 ^ k / 2 ^ s % 4294967296) := by
  rw [Nat.pow_succ, Nat.mod_mul, Nat.div_div_eq_div_mul, Nat.div_div_eq_div_mul, Nat.mul_comm (2 ^ s)]
theorem down_digit {n s k : Nat} (hs : s ≤ 31) : n / 4294967296 ^ k / 2 ^ s % 4294967296 = (n / 4294967296 ^ k % 4294967296 + 4294967296 * (n / 4294967296 ^ (k + 1) % 4294967296)) / 2 ^ s % 4294967296 := by
  have e : n / 4294967296 ^ k % 4294967296 + 4294967296 * (n / 4294967296 ^ (k + 1) % 4294967296) = n / 4294967296 ^ k % 18446744073709551616 := by
    rw [Nat.pow_succ, ← Nat.div_div_eq_div_mul]; omega
  rw [e]
  generalize n / 4294967296 ^ k = m
  have h2 : (18446744073709551616 : Nat) = 2 ^ s * 2 ^ (64 - s) := by rw [← Nat.pow_add, show s + (64 - s) = 64 from by omega]
  have h3 : (2 : Nat) ^ (64 - s) = 4294967296 * 2 ^ (32 - s) := by rw [show 64 - s = 32 + (32 - s) from by omega, Nat.pow_add]
  rw [h2, Nat.mod_mul_right_div_self, h3, Nat.mod_mul_right_mod]
theorem shift_round {out : List Nat} {k s x V v h : Nat} (hl : k + 1 < out.length) (hV : val out = V * 2 ^ s) (hz : out.getD (k + 1) 0 = 0)
    (hv : v = out.getD k 0 + x * 2 ^ s % 4294967296) (hh : h = x * 2 ^ s / 4294967296) : val ((out.set k v).set (k + 1) h) = (V + 4294967296 ^ k * x) * 2 ^ s := by
  have e1 := val_set out k v (by omega)
  have e2 := val_set (out.set k v) (k + 1) h (by simpa using hl)
  rw [getD_set_other _ _ _ _ (by omega), hz, Nat.mul_zero, Nat.add_zero] at e2
  rw [e2]
  have e3 := shift_step (V := V) (k := k) (s := s) (x := x) rfl rfl
  rw [← e3, ← hV, ← hh, Nat.pow_succ, Nat.mul_add, ← Nat.mul_assoc (4294967296 ^ k)]
  rw [hv, Nat.mul_add] at e1
  rw [hv]
  omega
theorem shift_low {x s : Nat} (hs : s ≤ 31) : x * 2 ^ s % 4294967296 % 2 ^ s = 0 := by
  rw [Nat.mod_mod_of_dvd]
  · exact Nat.mul_mod_left _ _
  · exact ⟨2 ^ (32 - s), by rw [← Nat.pow_add, show s + (32 - s) = 32 from by omega]⟩
theorem shift_high {x s : Nat} (hs : s ≤ 31) : x / 2 ^ (32 - s) = x * 2 ^ s / 4294967296 := by
  rw [← Nat.mul_div_mul_right x (2 ^ (32 - s)) (Nat.pow_pos (n := s) (show 0 < 2 by omega)), ← Nat.pow_add, show 32 - s + s = 32 from by omega]
theorem shift_high_lt {x s : Nat} (hx : x < 4294967296) : x * 2 ^ s / 4294967296 < 2 ^ s := by
  rw [Nat.div_lt_iff_lt_mul (by omega), Nat.mul_comm]
  exact Nat.mul_lt_mul_of_pos_left hx (Nat.pow_pos (by omega))
theorem pow_le_31 {s : Nat} (hs : s ≤ 31) : 2 ^ s ≤ 2147483648 := Nat.pow_le_pow_right (n := 2) (by omega) hs
theorem down_round {xs : List Nat} {s k v : Nat} (hd : Ds xs) (hs : s ≤ 31) (hv : v = (xs.getD k 0 + xs.getD (k + 1) 0 * 4294967296) / 2 ^ s % 4294967296) :
    val xs / 2 ^ s % 4294967296 ^ k + 4294967296 ^ k * v = val xs / 2 ^ s % 4294967296 ^ (k + 1) := by
  rw [down_take, down_digit hs, digit_at xs hd, digit_at xs hd, hv, Nat.mul_comm (xs.getD (k + 1) 0)]
theorem down_end {xs : List Nat} {s k : Nat} (hd : Ds xs) (hk : xs.length ≤ k) : val xs / 2 ^ s % 4294967296 ^ k = val xs / 2 ^ s := by
  apply Nat.mod_eq_of_lt
  exact Nat.lt_of_le_of_lt (Nat.div_le_self _ _) (Nat.lt_of_lt_of_le (val_lt hd) (Nat.pow_le_pow_right (by omega) hk))
theorem dig_shift {a j : Nat} (h : a ≠ 0) : List.replicate j 0 ++ dig a = dig (a * 4294967296 ^ j) := by
  induction j with
  | zero => simp
  | succ j ih =>
    rw [List.replicate_succ, List.cons_append, ih, Nat.pow_succ, ← Nat.mul_assoc, Nat.mul_comm (a * 4294967296 ^ j)]
    have := dig_cons (x := 0) (n := a * 4294967296 ^ j) (by omega) (.inl (Nat.mul_ne_zero h (by have := pw_pos j; omega)))
    rw [Nat.zero_add] at this
    exact this.symm
theorem cast_shl (x s : Nat) : ((x * 2 ^ s % 4294967296 : Nat) : Int) = (x : Int) * 2 ^ s % 4294967296 := by
  rw [Int.natCast_emod, Int.natCast_mul, Int.natCast_pow]; rfl
theorem cast_shr (x s : Nat) : ((x / 2 ^ s % 4294967296 : Nat) : Int) = (x : Int) / 2 ^ s % 4294967296 := by
  rw [Int.natCast_emod, Int.natCast_ediv, Int.natCast_pow]; rfl
end Go.Proofs.YtaahbabdbopphaaDoor.Mx
namespace Go.Proofs.YtaahbabdbopphaaDoor.Mx

theorem len_shift (a j : Nat) : (dig (a * 4294967296 ^ j)).length ≤ (dig a).length + j := by
  rw [len_le_iff, Nat.pow_add]
  exact Nat.mul_lt_mul_of_pos_right (lt_pow_len a) (pw_pos j)
theorem len_shl (a s : Nat) (hs : s ≤ 31) : (dig (a * 2 ^ s)).length ≤ (dig a).length + 1 := by
  have h := len_mul a (2 ^ s)
  have := @len_small (2 ^ s) (by have := pow_le_31 hs; omega)
  omega

/-- Before digit k - 1 of the quotient is found: the digits from k on are in 'out', R is what is left. -/
structure DI (L k R : Nat) (out : List Nat) (U V : Nat) : Prop where
  len : out.length = L
  eq : U = V * (4294967296 ^ k * val (out.drop k)) + R
  lt : R < V * 4294967296 ^ k
  zero : ∀ i, i < k → out.getD i 0 = 0

theorem DI.start {U V L : Nat} (hV : V ≠ 0) (hL : L + (dig V).length = (dig U).length + 1) : DI L L U (List.replicate L 0) U V := by
  refine ⟨by simp, ?_, ?_, fun i _ => getD_replicate _ _⟩
  · rw [val_drop_ge _ _ (by simp), Nat.mul_zero, Nat.mul_zero, Nat.zero_add]
  · have h1 := lt_pow_len U
    have hp := len_dig_pos.2 hV
    have h2 : 4294967296 ^ ((dig V).length - 1) ≤ V := pow_le_of_lt_len (by omega)
    have e : (dig U).length = ((dig V).length - 1) + L := by omega
    rw [e, Nat.pow_add] at h1
    exact Nat.lt_of_lt_of_le h1 (Nat.mul_le_mul_right _ h2)
theorem DI.le {L k R : Nat} {out : List Nat} {U V : Nat} (h : DI L k R out U V) : R ≤ U := by have := h.eq; omega
theorem DI.quot_lt {L j R : Nat} {out : List Nat} {U V : Nat} (h : DI L (j + 1) R out U V) (hV : V ≠ 0) : R / (V * 4294967296 ^ j) < 4294967296 := by
  rw [Nat.div_lt_iff_lt_mul (Nat.mul_pos (by omega) (pw_pos j)), Nat.mul_comm 4294967296, Nat.mul_assoc, ← Nat.pow_succ]
  exact h.lt
theorem DI.fit {L j R g : Nat} {out : List Nat} {U V : Nat} (h : DI L (j + 1) R out U V) (hV : V ≠ 0) (hj : j < L) (hfit : V * g * 4294967296 ^ j ≤ R) (hmax : R / (V * 4294967296 ^ j) ≤ g) :
    DI L j (R - V * g * 4294967296 ^ j) (out.set j g) U V := by
  have hg := guess_is (by omega) hfit hmax
  obtain ⟨h1, h2, _⟩ := quot_step h.eq hg (by omega)
  refine ⟨by rw [List.length_set]; exact h.len, ?_, h2, fun i hi => ?_⟩
  · rw [val_drop' _ j, getD_set_same _ _ _ (by rw [h.len]; exact hj), List.drop_set_of_lt (by omega)]
    exact h1
  · rw [getD_set_other _ _ _ _ (by omega)]; exact h.zero i (by omega)
theorem DI.none {L j R : Nat} {out : List Nat} {U V : Nat} (h : DI L (j + 1) R out U V) (hV : V ≠ 0) (hmax : R / (V * 4294967296 ^ j) ≤ 0) : DI L j R out U V := by
  have hg := guess_is (g := 0) (by omega) (by simp) hmax
  obtain ⟨h1, h2, _⟩ := quot_step h.eq hg (by omega)
  rw [Nat.mul_zero, Nat.zero_mul, Nat.sub_zero] at h1 h2
  refine ⟨h.len, ?_, h2, fun i hi => h.zero i (by omega)⟩
  rw [val_drop' _ j, h.zero j (by omega)]
  exact h1
theorem DI.end_ {L R : Nat} {out : List Nat} {U V : Nat} (h : DI L 0 R out U V) (_hV : V ≠ 0) : val out = U / V ∧ R = U % V := by
  have h1 := h.eq
  have h2 := h.lt
  rw [Nat.pow_zero, Nat.one_mul, List.drop_zero] at h1
  rw [Nat.pow_zero, Nat.mul_one] at h2
  rw [h1]
  exact ⟨by rw [Nat.mul_add_div (by omega), Nat.div_eq_of_lt h2]; omega, by rw [Nat.mul_add_mod, Nat.mod_eq_of_lt h2]⟩
theorem top_two {R m : Nat} (h : R < 4294967296 ^ (m + 2)) : (dig R).getD (m + 1) 0 * 4294967296 + (dig R).getD m 0 = R / 4294967296 ^ m := by
  rw [digit_dig, digit_dig, Nat.pow_succ, ← Nat.div_div_eq_div_mul]
  have : R / 4294967296 ^ m < 4294967296 * 4294967296 := by
    rw [Nat.div_lt_iff_lt_mul (pw_pos m), Nat.mul_comm (4294967296 * 4294967296)]
    rw [Nat.pow_succ, Nat.pow_succ, Nat.mul_assoc] at h
    exact h
  generalize R / 4294967296 ^ m = t at this ⊢
  omega
theorem DI.guess {L j R : Nat} {out : List Nat} {U V nv : Nat} (h : DI L (j + 1) R out U V) (hV : V ≠ 0) (hn : (dig V).length = nv) :
    R / (V * 4294967296 ^ j) ≤ ((dig R).getD (j + nv) 0 * 4294967296 + (dig R).getD (j + nv - 1) 0) / (dig V).getD (nv - 1) 0 := by
  have hp := len_dig_pos.2 hV
  have ht := top_digit hV
  rw [hn] at ht hp
  have hlt : R < 4294967296 ^ ((j + nv - 1) + 2) := by
    have h1 := h.lt
    have h2 := lt_pow_len V
    rw [hn] at h2
    have e : (j + nv - 1) + 2 = nv + (j + 1) := by omega
    rw [e, Nat.pow_add]
    exact Nat.lt_of_lt_of_le h1 (Nat.mul_le_mul_right _ (Nat.le_of_lt h2))
  have e2 := top_two hlt
  rw [show j + nv - 1 + 1 = j + nv from by omega] at e2
  rw [e2, show j + nv - 1 = j + (nv - 1) from by omega]
  exact guess_top ht.2 (by omega)
end Go.Proofs.YtaahbabdbopphaaDoor.Mx
namespace Go.Proofs.YtaahbabdbopphaaDoor.Mx

/-- The absolute value of the floor. -/
def flo (q : Rat) : Nat := rn q / rd q + if rneg q = true ∧ rn q % rd q ≠ 0 then 1 else 0
theorem floor_is (q : Rat) : q.floor = sg (rneg q) (flo q) := by
  rw [Rat.floor_def, ← sg_parts q]
  have hd : 0 < rd q := rd_pos q
  show sg (rneg q) (rn q) / ((rd q : Nat) : Int) = _
  have h1 := Nat.div_add_mod (rn q) (rd q)
  have h2 := Nat.mod_lt (rn q) hd
  unfold flo
  generalize rn q = n at *
  generalize rd q = d at *
  cases hs : rneg q
  · simp [sg]
  · simp only [sg, if_true, true_and]
    by_cases h0 : n % d = 0
    · rw [if_neg (by omega)]
      have e : (-(n : Int)) = (-((n / d : Nat) : Int)) * (d : Int) := by
        have : (n : Int) = (d : Int) * ((n / d : Nat) : Int) := by
          rw [← Int.natCast_mul]; congr 1; omega
        rw [Int.neg_mul, Int.mul_comm, ← this]
      rw [e, Int.mul_ediv_cancel _ (by omega)]
      simp
    · rw [if_pos h0]
      have e : (-(n : Int)) = ((d - n % d : Nat) : Int) + (d : Int) * (-(((n / d : Nat) : Int) + 1)) := by
        have h3 : ((d - n % d : Nat) : Int) = (d : Int) - ((n % d : Nat) : Int) := by omega
        have h4 : (n : Int) = (d : Int) * ((n / d : Nat) : Int) + ((n % d : Nat) : Int) := by
          rw [← Int.natCast_mul, ← Int.natCast_add]; congr 1; omega
        rw [h3, Int.mul_neg, Int.mul_add, h4]
        generalize (d : Int) * ((n / d : Nat) : Int) = z
        generalize ((n % d : Nat) : Int) = y
        omega
      rw [e, Int.add_mul_ediv_left _ _ (by omega), Int.ediv_eq_zero_of_lt (by omega) (by omega)]
      push_cast
      omega
theorem flo_pos {q : Rat} (h : rneg q = true) : 0 < flo q := by
  have hd := rd_pos q
  have hn : 0 < rn q := by
    rcases Nat.eq_zero_or_pos (rn q) with h0 | h0
    · have := rneg_zero_n h0; rw [h] at this; cases this
    · exact h0
  unfold flo
  by_cases h0 : rn q % rd q = 0
  · have := Nat.div_pos (Nat.le_of_dvd hn (Nat.dvd_of_mod_eq_zero h0)) hd
    omega
  · rw [if_pos ⟨h, h0⟩]; exact Nat.succ_pos _
theorem int_parts (z : Int) : rneg (z : Rat) = decide (z < 0) ∧ rn (z : Rat) = z.natAbs ∧ rd (z : Rat) = 1 := by
  refine ⟨?_, ?_, ?_⟩
  · unfold rneg; rw [Rat.num_intCast]
  · unfold rn; rw [Rat.num_intCast]
  · unfold rd; rw [Rat.den_intCast]
theorem floor_parts (q : Rat) : rneg ((q.floor : Int) : Rat) = (rneg q && decide (0 < flo q)) ∧ rn ((q.floor : Int) : Rat) = flo q ∧ rd ((q.floor : Int) : Rat) = 1 := by
  have h := int_parts q.floor
  rw [h.1, h.2.1, h.2.2, floor_is, sg_natAbs, sg_neg]
  exact ⟨rfl, rfl, rfl⟩
end Go.Proofs.YtaahbabdbopphaaDoor.Mx
namespace Go.Proofs.YtaahbabdbopphaaDoor.Mx

/-- How many digits the numerator and the denominator have. -/
def ln (q : Rat) : Nat := (dig (rn q)).length
def ld (q : Rat) : Nat := (dig (rd q)).length
theorem mk_len (sb : Bool) (n d : Nat) (hd : d ≠ 0) : ln (mkRat (sg sb n) d) ≤ (dig n).length ∧ ld (mkRat (sg sb n) d) ≤ (dig d).length := by
  unfold ln ld
  rw [rn_mk _ _ _ hd, rd_mk _ _ _ hd]
  exact ⟨len_mono (Nat.div_le_self _ _), len_mono (Nat.div_le_self _ _)⟩
theorem fv_len (sb : Bool) (n d : Nat) : ln (fv sb n d) ≤ (dig n).length ∧ ld (fv sb n d) ≤ (dig (low d)).length := by
  rw [fv_low]
  exact mk_len sb n _ (low_ne d)
theorem len_low (d : Nat) : (dig (low d)).length ≤ (dig d).length + 1 := by
  unfold low
  by_cases h : d = 0
  · rw [if_pos h]; have := @len_small 1 (by omega); omega
  · rw [if_neg h]; omega
theorem ln_neg (q : Rat) : ln (-q) = ln q ∧ ld (-q) = ld q := by
  have h := neg_parts q
  unfold ln ld
  rw [h.2.1, h.2.2]
  exact ⟨rfl, rfl⟩
theorem ln_inv {q : Rat} (h0 : rn q ≠ 0) : ln q⁻¹ = ld q ∧ ld q⁻¹ = ln q := by
  have h := inv_parts h0
  unfold ln ld
  rw [h.2.1, h.2.2]
  exact ⟨rfl, rfl⟩
theorem ln_mul (p q : Rat) : ln (p * q) ≤ ln p + ln q ∧ ld (p * q) ≤ ld p + ld q := by
  have h := mk_len (rneg p != rneg q) (rn p * rn q) (rd p * rd q) (Nat.mul_ne_zero (rd_ne p) (rd_ne q))
  rw [mul_is] at h
  have h1 := len_mul (rn p) (rn q)
  have h2 := len_mul (rd p) (rd q)
  unfold ln ld at *
  omega
theorem ln_add (p q : Rat) : ln (p + q) ≤ ln p + ld q + ln q + ld p + 1 ∧ ld (p + q) ≤ ld p + ld q := by
  have hd : rd p * rd q ≠ 0 := Nat.mul_ne_zero (rd_ne p) (rd_ne q)
  have a1 := len_mul (rn p) (rd q)
  have a2 := len_mul (rn q) (rd p)
  have a3 := len_mul (rd p) (rd q)
  by_cases hs : rneg p = rneg q
  · have h := mk_len (rneg p) (rn p * rd q + rn q * rd p) (rd p * rd q) hd
    rw [add_same p q hs] at h
    have a4 := len_add (rn p * rd q) (rn q * rd p)
    unfold ln ld at *
    omega
  · by_cases hlt : rn p * rd q < rn q * rd p
    · have h := mk_len (rneg q) (rn q * rd p - rn p * rd q) (rd p * rd q) hd
      rw [add_less p q hs hlt] at h
      have a4 := len_mono (Nat.sub_le (rn q * rd p) (rn p * rd q))
      unfold ln ld at *
      omega
    · have h := mk_len (rneg p) (rn p * rd q - rn q * rd p) (rd p * rd q) hd
      rw [add_more p q hs hlt] at h
      have a4 := len_mono (Nat.sub_le (rn p * rd q) (rn q * rd p))
      unfold ln ld at *
      omega
theorem ln_int (z : Int) : ln (z : Rat) = (dig z.natAbs).length ∧ ld (z : Rat) = 1 := by
  have h := int_parts z
  unfold ln ld
  rw [h.2.1, h.2.2]
  refine ⟨rfl, ?_⟩
  have h1 := @len_small 1 (by omega)
  have h2 := @len_dig_pos 1
  omega
theorem ln_i64 {z : Int} (h0 : -9223372036854775808 ≤ z) (h1 : z ≤ 9223372036854775807) : ln (z : Rat) ≤ 2 := by
  rw [(ln_int z).1]
  exact len_two (by omega)
theorem ln_floor (q : Rat) : ln ((q.floor : Int) : Rat) ≤ ln q + 1 := by
  have h := floor_parts q
  unfold ln
  rw [h.2.1]
  have h1 : flo q ≤ rn q + 1 := by
    unfold flo
    have := Nat.div_le_self (rn q) (rd q)
    split <;> omega
  have h2 := len_mono h1
  have h3 := len_add (rn q) 1
  have h4 := @len_small 1 (by omega)
  by_cases h5 : rn q = 0
  · have h6 : flo q ≤ 1 := by
      unfold flo
      rw [h5]; simp
    have := len_mono h6
    omega
  · have h6 := (@len_dig_pos (rn q)).2 h5
    omega
end Go.Proofs.YtaahbabdbopphaaDoor.Mx
namespace Go.Proofs.YtaahbabdbopphaaDoor
open Go.RowKit Mx

/-- The last k decimal digits. -/
def pad : Nat → Nat → List UInt8
  | 0, _ => []
  | k + 1, r => pad k (r / 10) ++ [UInt8.ofNat (48 + r % 10)]
theorem dec_big {u : Nat} (h : 10 ≤ u) : Lib.decDigits u = Lib.decDigits (u / 10) ++ [UInt8.ofNat (48 + u % 10)] := by
  rw [Lib.decDigits, dif_neg (by omega)]
theorem dec_pad (q : Nat) (hq : 0 < q) : ∀ (k r : Nat), r < 10 ^ k → Lib.decDigits (q * 10 ^ k + r) = Lib.decDigits q ++ pad k r := by
  intro k
  induction k with
  | zero => intro r hr; have : r = 0 := by simpa using hr
            subst this; simp [pad]
  | succ k ih =>
    intro r hr
    have hp : 0 < 10 ^ k := Nat.pow_pos (by decide)
    have hr' : r / 10 < 10 ^ k := by rw [Nat.pow_succ] at hr; omega
    have e : q * 10 ^ (k + 1) + r = 10 * (q * 10 ^ k) + r := by rw [Nat.pow_succ]; rw [Nat.mul_comm 10, Nat.mul_assoc]
    have hpos : 0 < q * 10 ^ k := Nat.mul_pos hq hp
    rw [e, dec_big (by omega), show (10 * (q * 10 ^ k) + r) / 10 = q * 10 ^ k + r / 10 from by omega, show (10 * (q * 10 ^ k) + r) % 10 = r % 10 from by omega, ih _ hr', pad, List.append_assoc]
theorem pad_zero (k : Nat) : pad k 0 = List.replicate k 48 := by
  induction k with
  | zero => rfl
  | succ k ih => rw [pad, show 0 / 10 = 0 from rfl, ih, List.replicate_succ']; rfl
theorem pad_rep : ∀ (k r : Nat), r < 10 ^ (k + 1) → (Lib.decDigits r).length ≤ k + 1 ∧ pad (k + 1) r = List.replicate (k + 1 - (Lib.decDigits r).length) 48 ++ Lib.decDigits r := by
  intro k
  induction k with
  | zero =>
    intro r hr
    have hr : r < 10 := by simpa using hr
    rw [Lib.decDigits_one hr]
    refine ⟨Nat.le_refl _, ?_⟩
    simp only [pad, List.nil_append, List.length_singleton, Nat.zero_add, Nat.sub_self, List.replicate_zero, Nat.mod_eq_of_lt hr]
  | succ k ih =>
    intro r hr
    by_cases h : r < 10
    · rw [Lib.decDigits_one h, pad, show r / 10 = 0 from by omega, pad_zero]
      refine ⟨by simp, ?_⟩
      simp [Nat.mod_eq_of_lt h]
    · have := ih (r / 10) (by rw [Nat.pow_succ 10 (k + 1)] at hr; omega)
      rw [dec_big (by omega), pad, this.2]
      refine ⟨by simp; omega, ?_⟩
      rw [List.length_append, List.length_singleton, show k + 1 + 1 - ((Lib.decDigits (r / 10)).length + 1) = k + 1 - (Lib.decDigits (r / 10)).length from by omega, List.append_assoc]
theorem dec_pos (u : Nat) : 0 < (Lib.decDigits u).length := by
  by_cases h : u < 10
  · rw [Lib.decDigits_one h]; simp
  · rw [dec_big (by omega)]; simp
/-- A number of n digits of 32 bits has at most 10 n decimal digits. -/
theorem dec_len {a n : Nat} (h : (dig a).length ≤ n) (hn : 0 < n) : (Lib.decDigits a).length ≤ 10 * n := by
  obtain ⟨k, rfl⟩ : ∃ k, n = k + 1 := ⟨n - 1, by omega⟩
  have h1 : a < 4294967296 ^ (k + 1) := Nat.lt_of_lt_of_le (by
    have := val_lt (ds_dig a); rwa [val_dig] at this) (Nat.pow_le_pow_right (by decide) h)
  have h2 : 4294967296 ^ (k + 1) ≤ 10 ^ (10 * k + 9 + 1) := by
    rw [show 10 * k + 9 + 1 = 10 * (k + 1) from by omega, Nat.pow_mul]
    exact Nat.pow_le_pow_left (by decide) _
  have := (pad_rep (10 * k + 9) a (Nat.lt_of_lt_of_le h1 h2)).1
  omega
/-- One part of a numeral: the digits of r, nine of them if more come ahead. -/
def piece (q r : Nat) : List UInt8 := if q = 0 then Lib.decDigits r else pad 9 r
/-- The digits that are still to come. -/
def rest (m : Nat) : List UInt8 := if m = 0 then [] else Lib.decDigits m
theorem rest_step {m : Nat} (h : m ≠ 0) : rest m = rest (m / 1000000000) ++ piece (m / 1000000000) (m % 1000000000) := by
  unfold rest piece
  rw [if_neg h]
  by_cases hq : m / 1000000000 = 0
  · rw [if_pos hq, if_pos hq, List.nil_append, Nat.mod_eq_of_lt (by omega)]
  · rw [if_neg hq, if_neg hq]
    have e : m = m / 1000000000 * 10 ^ 9 + m % 1000000000 := by have := Nat.div_add_mod m 1000000000; have h9 : (10 : Nat) ^ 9 = 1000000000 := rfl; rw [h9]; omega
    conv => lhs; rw [e]
    exact dec_pad _ (by omega) 9 _ (by have : (10 : Nat) ^ 9 = 1000000000 := rfl; omega)
theorem piece_pos (q r : Nat) : 0 < (piece q r).length := by
  unfold piece
  split
  · exact dec_pos r
  · rw [pad]; simp
theorem piece_zero (r : Nat) : piece 0 r = Lib.decDigits r := if_pos rfl
theorem piece_nine {q r : Nat} (h : q ≠ 0) (hr : r < 1000000000) : (Lib.decDigits r).length ≤ 9 ∧ piece q r = List.replicate (9 - (Lib.decDigits r).length) 48 ++ Lib.decDigits r := by
  have := pad_rep 8 r (by have : (10 : Nat) ^ (8 + 1) = 1000000000 := rfl; omega)
  unfold piece
  rw [if_neg h]
  exact this
end Go.Proofs.YtaahbabdbopphaaDoor
namespace Go.Proofs.YtaahbabdbopphaaDoor
open Go.RowKit Mx

theorem dstep_lt {A b : Nat} (hb : 0 < b) (h : 2 * (A / 2 % b) + A % 2 < b) : A / b = 2 * (A / 2 / b) ∧ A % b = 2 * (A / 2 % b) + A % 2 := by
  rw [Nat.div_mod_unique hb]
  refine ⟨?_, h⟩
  have h1 := Nat.div_add_mod (A / 2) b
  have h2 : b * (2 * (A / 2 / b)) = 2 * (b * (A / 2 / b)) := Nat.mul_left_comm _ _ _
  omega
theorem dstep_ge {A b : Nat} (hb : 0 < b) (h : b ≤ 2 * (A / 2 % b) + A % 2) : A / b = 2 * (A / 2 / b) + 1 ∧ A % b = 2 * (A / 2 % b) + A % 2 - b := by
  rw [Nat.div_mod_unique hb]
  have h0 := Nat.mod_lt (A / 2) hb
  refine ⟨?_, by omega⟩
  have h1 := Nat.div_add_mod (A / 2) b
  have h2 : b * (2 * (A / 2 / b) + 1) = 2 * (b * (A / 2 / b)) + b := by rw [Nat.mul_add, Nat.mul_left_comm, Nat.mul_one]
  omega
theorem dig_get : ∀ (k a : Nat), (dig a).getD k 0 = a / 4294967296 ^ k % 4294967296 := by
  intro k
  induction k with
  | zero =>
    intro a
    by_cases h : a = 0
    · subst h; rw [dig_zero]; rfl
    · rw [dig_pos h, Nat.pow_zero, Nat.div_one]; rfl
  | succ k ih =>
    intro a
    by_cases h : a = 0
    · subst h; rw [dig_zero, Nat.zero_div]; rfl
    · rw [dig_pos h, List.getD_cons_succ, ih, Nat.div_div_eq_div_mul, Nat.pow_succ, Nat.mul_comm]
theorem val_drop_div {xs : List Nat} (h : Ds xs) {k : Nat} : val (xs.drop k) = val xs / 4294967296 ^ k := by
  rcases Nat.lt_or_ge xs.length k with hk | hk
  · rw [val_drop_ge _ _ (by omega), Nat.div_eq_of_lt]
    exact Nat.lt_of_lt_of_le (val_lt h) (Nat.pow_le_pow_right (by decide) (by omega))
  · conv => rhs; rw [← List.take_append_drop k xs, val_append, List.length_take, Nat.min_eq_left hk]
    rw [Nat.add_mul_div_left _ _ (Nat.pow_pos (by decide)), Nat.div_eq_of_lt, Nat.zero_add]
    have := val_lt (xs := xs.take k) (fun x hx => h x (List.mem_of_mem_take hx))
    rwa [List.length_take, Nat.min_eq_left hk] at this
theorem pow32 (k : Nat) : (4294967296 : Nat) ^ k = 2 ^ (32 * k) := by rw [Nat.pow_mul]
/-- The bit that the loop looks at. -/
theorem bit_at (a i : Nat) : (dig a).getD (i / 32) 0 / 2 ^ (i % 32) % 2 = a / 2 ^ i % 2 := by
  rw [dig_get, pow32]
  have h1 : a / 2 ^ i = a / 2 ^ (32 * (i / 32)) / 2 ^ (i % 32) := by
    rw [Nat.div_div_eq_div_mul, ← Nat.pow_add, show 32 * (i / 32) + i % 32 = i from Nat.div_add_mod i 32]
  rw [h1]
  generalize a / 2 ^ (32 * (i / 32)) = y
  have hj : i % 32 < 32 := Nat.mod_lt _ (by decide)
  generalize i % 32 = j at hj ⊢
  have e : (4294967296 : Nat) = 2 ^ j * 2 ^ (32 - j) := by rw [← Nat.pow_add, show j + (32 - j) = 32 from by omega]
  rw [e, Nat.mod_mul_right_div_self, Nat.mod_mod_of_dvd]
  exact ⟨2 ^ (32 - j - 1), by rw [show 32 - j = (32 - j - 1) + 1 from by omega, Nat.pow_succ, Nat.mul_comm, show 32 - j - 1 + 1 - 1 = 32 - j - 1 from by omega]⟩
/-- The digit into which the bit goes has a 0 there. -/
theorem bit_free {out : List Nat} {q i : Nat} (hds : Ds out) (hv : val out = q * 2 ^ (i + 1)) : out.getD (i / 32) 0 % 2 ^ (i % 32 + 1) = 0 := by
  have h0 : out.getD (i / 32) 0 = val out / 4294967296 ^ (i / 32) % 4294967296 := by
    rw [← val_drop_div hds]
    rw [val_drop']
    rw [Nat.add_mul_mod_self_left, Nat.mod_eq_of_lt (ds_get hds _)]
  rw [h0, hv, pow32]
  have hj : i % 32 < 32 := Nat.mod_lt _ (by decide)
  have e1 : 2 ^ (i + 1) = 2 ^ (32 * (i / 32)) * 2 ^ (i % 32 + 1) := by rw [← Nat.pow_add]; congr 1; have := Nat.div_add_mod i 32; omega
  rw [e1, Nat.mul_comm q, Nat.mul_assoc, Nat.mul_div_cancel_left _ (Nat.pow_pos (by decide))]
  have e2 : (4294967296 : Nat) = 2 ^ (i % 32 + 1) * 2 ^ (31 - i % 32) := by rw [← Nat.pow_add, show i % 32 + 1 + (31 - i % 32) = 32 from by omega]
  rw [e2, Nat.mod_mul_right_mod, Nat.mul_mod_right]
end Go.Proofs.YtaahbabdbopphaaDoor
