/- Decimals: what is written with places is read back, and lies near. -/
import Derived.Test.YtaahbabdbopphaaDoorPT
import Derived.Test.YtaahbabdbopphaaDoorMB
import Derived.Test.YtaahbabdbopphaaDoorRC
namespace Go.Proofs.YtaahbabdbopphaaDoor
open Go.RowKit Mx
set_option maxRecDepth 100000

theorem dv_from (l : List UInt8) : ∀ a : Nat, l.foldl (fun n b => n * 10 + (b.toNat - 48)) a = a * 10 ^ l.length + l.foldl (fun n b => n * 10 + (b.toNat - 48)) 0 := by
  induction l with
  | nil => intro a; simp
  | cons b l ih =>
    intro a
    rw [List.foldl_cons, List.foldl_cons, ih (a * 10 + _), ih (0 * 10 + _), List.length_cons, Nat.pow_succ]
    generalize 10 ^ l.length = P
    generalize b.toNat - 48 = d
    rw [Nat.add_mul, Nat.mul_assoc, Nat.mul_comm 10 P, Nat.zero_mul, Nat.zero_add, Nat.add_assoc]
theorem dv_append (X Y : List UInt8) : dv (X ++ Y) = dv X * 10 ^ Y.length + dv Y := by
  unfold dv
  rw [List.foldl_append, dv_from]
theorem dv_zeros (k : Nat) : dv (List.replicate k 48) = 0 := by
  induction k with
  | zero => rfl
  | succ k ih => exact ih
theorem dpad_isD (R p : Nat) : ∀ b ∈ dpad (Lib.decDigits R) p, isD b = true := by
  intro b hb
  unfold dpad at hb
  rcases List.mem_append.1 hb with hb | hb
  · rw [(List.mem_replicate.1 hb).2]; decide
  · exact dec_isD R b hb
theorem dv_dpad (R p : Nat) : dv (dpad (Lib.decDigits R) p) = R := by
  unfold dpad
  rw [dv_append, dv_zeros, dv_dec, Nat.zero_mul, Nat.zero_add]
theorem dpre_own {l : List UInt8} (h : ∀ b ∈ l, isD b = true) : dpre l = l := by
  have := dpre_app (r := []) h (by simp)
  rwa [List.append_nil] at this
theorem prs1_dpoint (nb : Bool) (R p : Nat) : prs1 nb (dpoint (dpad (Lib.decDigits R) p) p) = (mkRat (sg nb R) ((10 ^ p : Nat)), 0) := by
  have hD := dpad_isD R p
  have hV := dv_dpad R p
  have hL := (dpad_len (Lib.decDigits R) p).1
  generalize dpad (Lib.decDigits R) p = L at hD hV hL
  unfold dpoint
  by_cases hp : p = 0
  · rw [if_pos hp]
    unfold prs1
    rw [dpre_own hD, if_neg (by omega), if_pos rfl, hV, hp, Nat.pow_zero]
  · rw [if_neg hp]
    have hX : ∀ b ∈ L.take (L.length - p), isD b = true := fun b hb => hD b (List.mem_of_mem_take hb)
    have hY : ∀ b ∈ L.drop (L.length - p), isD b = true := fun b hb => hD b (List.mem_of_mem_drop hb)
    have hXY : dv (L.take (L.length - p)) * 10 ^ (L.drop (L.length - p)).length + dv (L.drop (L.length - p)) = R := by rw [← dv_append, List.take_append_drop, hV]
    have lX : (L.take (L.length - p)).length = L.length - p := by rw [List.length_take]; omega
    have lY : (L.drop (L.length - p)).length = p := by rw [List.length_drop]; omega
    generalize L.take (L.length - p) = X at hX hXY lX
    generalize L.drop (L.length - p) = Y at hY hXY lY
    have e : dpre (X ++ 46 :: Y) = X := dpre_app hX (by intro b hb; injection hb with hb; rw [← hb]; decide)
    have e2 : (X ++ 46 :: Y).drop (X.length + 1) = Y := by
      rw [List.drop_append]
      simp
    have e3 : (X ++ 46 :: Y).getD X.length 0 = 46 := by
      rw [List.getD_eq_getElem?_getD, List.getElem?_append_right (Nat.le_refl _), Nat.sub_self]; rfl
    have e4 := dpre_own hY
    unfold prs1
    rw [e, e2, e3, e4, if_neg (by omega), if_neg (by rw [List.length_append, List.length_cons]; omega), if_neg (by
      rintro (h1 | h1 | h1)
      · omega
      · exact h1 rfl
      · exact h1.1 (by decide)), if_pos (by decide), hXY, lY]
theorem dpoint_head (R p : Nat) : (dpoint (dpad (Lib.decDigits R) p) p).head? ≠ some 45 := by
  intro h
  have h1 := List.mem_of_mem_head? h
  have hD := dpad_isD R p
  generalize dpad (Lib.decDigits R) p = L at hD h1
  have h2 : isD 45 = true ∨ (45 : UInt8) = 46 := by
    unfold dpoint at h1
    by_cases hp : p = 0
    · rw [if_pos hp] at h1; exact Or.inl (hD _ h1)
    · rw [if_neg hp] at h1
      rcases List.mem_append.1 h1 with h1 | h1
      · exact Or.inl (hD _ (List.mem_of_mem_take h1))
      · rcases List.mem_cons.1 h1 with h1 | h1
        · exact Or.inr h1
        · exact Or.inl (hD _ (List.mem_of_mem_drop h1))
  revert h2; decide
theorem prs_dtx (q : Rat) (p : Nat) (hl : (dtx q p).length ≤ 10000) : prs (dtx q p) = (mkRat (sg (rneg q) (rnd q p)) ((10 ^ p : Nat)), 0) := by
  unfold prs
  rw [if_neg (by omega)]
  unfold dtx
  cases hb : (rneg q && decide (0 < rnd q p))
  · simp only [Bool.false_eq_true, if_false, List.nil_append]
    rw [if_neg (dpoint_head _ _), prs1_dpoint]
    cases hs : rneg q
    · rfl
    · rw [hs] at hb
      have : rnd q p = 0 := by simpa using hb
      rw [this]; rfl
  · rw [if_pos rfl]
    have hs : rneg q = true := by
      cases hs : rneg q
      · rw [hs] at hb; cases hb
      · rfl
    rw [hs]
    show (if some (45 : UInt8) = some 45 then prs1 true _ else _) = _
    rw [if_pos rfl]
    exact prs1_dpoint true (rnd q p) p
/-- Twice the parts, against the number. -/
theorem rnd_near (n d N : Nat) (hd : 0 < d) : ((2 * n * N : Nat) : Int) - (2 * ((n * N * 2 + d) / (d * 2)) * d : Nat) ≤ d ∧ -(d : Int) ≤ ((2 * n * N : Nat) : Int) - (2 * ((n * N * 2 + d) / (d * 2)) * d : Nat) := by
  have h1 := Nat.div_add_mod (n * N * 2 + d) (d * 2)
  have h2 := Nat.mod_lt (n * N * 2 + d) (show 0 < d * 2 by omega)
  generalize (n * N * 2 + d) / (d * 2) = R at *
  generalize (n * N * 2 + d) % (d * 2) = m at *
  have e1 : 2 * n * N = n * N * 2 := by rw [Nat.mul_assoc, Nat.mul_comm]
  have e2 : 2 * R * d = d * 2 * R := by rw [Nat.mul_comm (2 * R) d, Nat.mul_assoc d 2 R]
  rw [e1, e2]
  omega
theorem abs_parts (d : Rat) : mkRat (sg false (rn d)) (rd d) = d ∨ mkRat (sg false (rn d)) (rd d) = -d := by
  have h1 := mk_parts d
  cases hs : rneg d
  · rw [hs] at h1; exact Or.inl h1
  · rw [hs] at h1
    right
    rw [show sg true (rn d) = - sg false (rn d) from rfl, ← Rat.neg_mkRat] at h1
    generalize mkRat (sg false (rn d)) (rd d) = z at h1
    rw [← h1, Rat.neg_neg]
theorem nat_ne {a : Nat} (h : a ≠ 0) : ((a : Nat) : Rat) ≠ 0 := fun e => h (Rat.natCast_inj.1 (show ((a : Nat) : Rat) = ((0 : Nat) : Rat) from e))
theorem near_core (x D R N : Rat) (hD : 0 < D) (hN : N ≠ 0) (h1 : 2 * x * N - 2 * R * D ≤ D) (h2 : -D ≤ 2 * x * N - 2 * R * D) :
    (x / D - R / N) * (2 * N) ≤ 1 ∧ (R / N - x / D) * (2 * N) ≤ 1 := by
  have hD0 : D ≠ 0 := by grind
  have e1 : (x / D - R / N) * (2 * N) * D = 2 * x * N - 2 * R * D := by grind
  have e2 : (R / N - x / D) * (2 * N) * D = -(2 * x * N - 2 * R * D) := by grind
  constructor
  · refine Rat.le_of_mul_le_mul_right (c := D) ?_ hD
    rw [e1, Rat.one_mul]; exact h1
  · refine Rat.le_of_mul_le_mul_right (c := D) ?_ hD
    rw [e2, Rat.one_mul]; grind
theorem dec_near (q : Rat) (p : Nat) (d : Rat) (hd : d = q - mkRat (sg (rneg q) (rnd q p)) ((10 ^ p : Nat))) :
    sgn (mkRat (sg false (rn d)) (rd d) * (((2 : Int) : Rat) * ((10 : Int) : Rat) ^ p) - ((1 : Int) : Rat)) ≤ 0 := by
  have hN : ((10 ^ p : Nat) : Rat) = ((10 : Int) : Rat) ^ p := by
    rw [Rat.natCast_pow]; rfl
  have hN0 : ((10 ^ p : Nat) : Rat) ≠ 0 := nat_ne (by have : 0 < 10 ^ p := Nat.pow_pos (by decide); omega)
  have hDp : (0 : Rat) < ((rd q : Nat) : Rat) := Rat.natCast_pos.2 (rd_pos q)
  obtain ⟨g1, g2⟩ := rnd_near (rn q) (rd q) (10 ^ p) (rd_pos q)
  have k1 := Rat.intCast_le_intCast.2 g1
  have k2 := Rat.intCast_le_intCast.2 g2
  simp only [Rat.intCast_sub, Rat.intCast_neg, Rat.intCast_natCast, Rat.natCast_mul] at k1 k2
  obtain ⟨m1, m2⟩ := near_core (rn q : Rat) (rd q : Rat) (rnd q p : Rat) ((10 ^ p : Nat) : Rat) hDp hN0 (by unfold rnd; exact k1) (by unfold rnd; exact k2)
  have hq : q = (rn q : Rat) / (rd q : Rat) ∧ rneg q = false ∨ q = -((rn q : Rat) / (rd q : Rat)) ∧ rneg q = true := by
    have h1 := mk_parts q
    rw [Rat.mkRat_eq_div] at h1
    cases hs : rneg q
    · rw [hs] at h1; exact Or.inl ⟨h1.symm, rfl⟩
    · rw [hs] at h1
      refine Or.inr ⟨?_, rfl⟩
      rw [show sg true (rn q) = -((rn q : Nat) : Int) from rfl, Rat.intCast_neg, Rat.intCast_natCast] at h1
      generalize (rn q : Rat) = x at *
      generalize (rd q : Rat) = y at *
      grind
  rw [← hN]
  have two : ((2 : Int) : Rat) = 2 := rfl
  have one : ((1 : Int) : Rat) = 1 := rfl
  rw [two, one]
  have hz := abs_parts d
  generalize mkRat (sg false (rn d)) (rd d) = z at hz ⊢
  rw [Rat.mkRat_eq_div] at hd
  have hr : ((sg (rneg q) (rnd q p) : Int) : Rat) = (rnd q p : Rat) ∧ rneg q = false ∨ ((sg (rneg q) (rnd q p) : Int) : Rat) = -(rnd q p : Rat) ∧ rneg q = true := by
    cases hs : rneg q
    · exact Or.inl ⟨rfl, rfl⟩
    · exact Or.inr ⟨by rw [show sg true (rnd q p) = -((rnd q p : Nat) : Int) from rfl, Rat.intCast_neg, Rat.intCast_natCast], rfl⟩
  generalize ((sg (rneg q) (rnd q p) : Int) : Rat) = S at hd hr
  generalize (rn q : Rat) / (rd q : Rat) = X at *
  generalize (rnd q p : Rat) = R at *
  generalize ((10 ^ p : Nat) : Rat) = N at *
  have hle : z * (2 * N) ≤ 1 := by
    have hzz : z = X - R / N ∨ z = R / N - X := by
      rcases hq with ⟨hq, hb⟩ | ⟨hq, hb⟩ <;> rcases hr with ⟨hr, hb'⟩ | ⟨hr, hb'⟩
      · rw [hq, hr] at hd; rcases hz with hz | hz <;> grind
      · rw [hb] at hb'; cases hb'
      · rw [hb] at hb'; cases hb'
      · rw [hq, hr] at hd; rcases hz with hz | hz <;> grind
    rcases hzz with rfl | rfl
    · exact m1
    · exact m2
  rcases sgn_cases (z * (2 * N) - 1) with ⟨h, e⟩ | ⟨h, e⟩ | ⟨h, e⟩ <;> rw [e]
  · decide
  · decide
  · exfalso; grind
theorem dec_floor (q : Rat) (p : Nat) : (mkRat (sg false (rn q)) (rd q) * ((10 : Int) : Rat) ^ p + ((1 : Int) : Rat) / ((2 : Int) : Rat)).floor = ((rnd q p : Nat) : Int) := by
  have hN : ((10 ^ p : Nat) : Rat) = ((10 : Int) : Rat) ^ p := by
    rw [Rat.natCast_pow]; rfl
  have hd2 : rd q * 2 ≠ 0 := by have := rd_pos q; omega
  have hD0 := nat_ne (rd_ne q)
  have e : mkRat (sg false (rn q)) (rd q) * ((10 : Int) : Rat) ^ p + ((1 : Int) : Rat) / ((2 : Int) : Rat) = fv false (rn q * 10 ^ p * 2 + rd q) (rd q * 2) := by
    rw [fv_low, low_of hd2, Rat.mkRat_eq_div, Rat.mkRat_eq_div, ← hN]
    rw [show sg false (rn q) = ((rn q : Nat) : Int) from rfl, show sg false (rn q * 10 ^ p * 2 + rd q) = ((rn q * 10 ^ p * 2 + rd q : Nat) : Int) from rfl, Rat.intCast_natCast, Rat.intCast_natCast,
      Rat.natCast_add, Rat.natCast_mul, Rat.natCast_mul, Rat.natCast_mul]
    have two : ((2 : Int) : Rat) = 2 := rfl
    have one : ((1 : Int) : Rat) = 1 := rfl
    have two' : ((2 : Nat) : Rat) = 2 := rfl
    rw [two, one, two']
    generalize (rn q : Rat) = x at *
    generalize (rd q : Rat) = y at *
    generalize ((10 ^ p : Nat) : Rat) = N at *
    grind
  rw [e, floor_is, flo_fv, low_of hd2, if_neg (by simp), Nat.add_zero]
  have hs : rneg (fv false (rn q * 10 ^ p * 2 + rd q) (rd q * 2)) = false := by
    rw [fv_low, low_of hd2, rneg_mk _ _ _ hd2]; rfl
  rw [hs]
  rfl
end Go.Proofs.YtaahbabdbopphaaDoor
