/- Canonical numbers: frac.Canonical; the specification's Canonical, Size. -/
import Derived.Test.YtaahbabdbopphaaDoorRC
import Derived.Test.YtaahbabdbopphaaDoorB0
namespace Go.Proofs.YtaahbabdbopphaaDoor
open Go.RowKit Mx
set_option maxRecDepth 100000

theorem dig_of_len {xs : List Nat} (h : Ds xs) (hl : (dig (val xs)).length = xs.length) : xs = dig (val xs) := by
  refine (dig_val h (fun x hx e => ?_)).symm
  subst e
  have hne : xs ≠ [] := fun e => by rw [e] at hx; cases hx
  have hsp : xs = xs.dropLast ++ [0] := by
    have := List.dropLast_concat_getLast hne
    rw [List.getLast?_eq_some_getLast hne] at hx
    injection hx with hx
    rw [hx] at this; exact this.symm
  have hv : val xs = val xs.dropLast := by rw [hsp, val_snoc, Nat.mul_zero, Nat.add_zero, List.dropLast_concat]
  have h1 : (dig (val xs)).length ≤ xs.dropLast.length := by
    rw [hv]; exact len_val (fun y hy => h y ((List.dropLast_sublist _).subset hy))
  have h2 : xs.dropLast.length + 1 = xs.length := by rw [List.length_dropLast]; have := List.length_pos_iff.2 hne; omega
  omega
/-- Whether a sign and two lists of digits are canonical. -/
def cn (s : Bool) (xs ys : List Nat) : Bool := decide (s = rneg (fv s (val xs) (val ys)) ∧ xs = dig (rn (fv s (val xs) (val ys))) ∧ ys = dig (rD (fv s (val xs) (val ys))))
theorem fv_zero (s : Bool) (b : Nat) : fv s 0 b = 0 := by rw [fv_low, show sg s 0 = 0 from by cases s <;> rfl, Rat.zero_mkRat]
theorem cn_zero {s : Bool} {xs ys : List Nat} (h : val xs = 0) : cn s xs ys = decide (s = false ∧ xs = [] ∧ ys = []) := by
  unfold cn
  rw [h, fv_zero, show rneg 0 = false from rfl, show rn 0 = 0 from rfl, show rD 0 = 0 from rfl, dig_zero]
theorem cn_pos {s : Bool} {xs ys : List Nat} (h : val xs ≠ 0) : cn s xs ys = decide (xs = dig (val xs) ∧ ys = dig (val ys) ∧ val ys ≠ 1 ∧ (val ys = 0 ∨ (val xs).gcd (val ys) = 1)) := by
  unfold cn
  obtain ⟨h1, h2, h3⟩ := fv_parts_red s (val xs) (val ys) h
  rw [h1, h2, rD_of, h3, decide_eq_decide]
  have hg : 0 < (val xs).gcd (low (val ys)) := Nat.gcd_pos_of_pos_left _ (by omega)
  constructor
  · rintro ⟨_, e1, e2⟩
    have e3 : val xs = val xs / (val xs).gcd (low (val ys)) := by conv => lhs; rw [e1, val_dig]
    have hg1 : (val xs).gcd (low (val ys)) = 1 := by
      rcases Nat.lt_or_ge 1 ((val xs).gcd (low (val ys))) with h5 | h5
      · exfalso
        have := Nat.div_lt_self (show 0 < val xs by omega) h5
        omega
      · omega
    rw [hg1, Nat.div_one] at e1 e2
    by_cases hb : val ys = 0
    · refine ⟨e1, ?_, by omega, .inl hb⟩
      rw [hb, dig_zero]
      rw [hb, show low 0 = 1 from rfl, if_pos rfl, dig_zero] at e2
      exact e2
    · rw [low_of hb] at e2 hg1
      by_cases hb1 : val ys = 1
      · exfalso
        rw [hb1, if_pos rfl, dig_zero] at e2
        rw [e2] at hb; exact hb rfl
      · rw [if_neg hb1] at e2
        exact ⟨e1, e2, hb1, .inr hg1⟩
  · rintro ⟨e1, e2, hb1, hc⟩
    have hg1 : (val xs).gcd (low (val ys)) = 1 := by
      rcases hc with hc | hc
      · rw [hc]; exact Nat.gcd_one_right _
      · by_cases hb : val ys = 0
        · rw [hb]; exact Nat.gcd_one_right _
        · rw [low_of hb]; exact hc
    rw [hg1, Nat.div_one, Nat.div_one]
    refine ⟨rfl, e1, ?_⟩
    by_cases hb : val ys = 0
    · rw [hb, show low 0 = 1 from rfl, if_pos rfl, ← hb]; exact e2
    · rw [low_of hb, if_neg hb1]; exact e2

set_option maxHeartbeats 2000000 in
theorem rCanonical_any (s1 : Bool) (A1 A2 : Option Addr) (n1 n2 c1 c2 : Nat) (xs ys : List Nat) (w : World) (h1 : Sl w A1 n1 c1 xs) (h2 : Sl w A2 n2 c2 ys) (d1 : Ds xs) (d2 : Ds ys) (hl1 : n1 ≤ 1000000) (hl2 : n2 ≤ 1000000) (b : Bool) (hb : b = cn s1 xs ys) :
    Calls Tryd.prog 62 #[.agg #[.bool s1, .slice A1 n1 c1, .slice A2 n2 c2]] w (ValPost (.bool b) w) := by
  have HB := Lib.hid hb
  obtain ⟨q, hq⟩ : ∃ q, Hid (q = fv s1 (val xs) (val ys)) := ⟨_, rfl⟩
  have HBQ : Hid (b = decide (s1 = rneg q ∧ xs = dig (rn q) ∧ ys = dig (rD q))) := Lib.hid (by rw [hq.out]; exact hb)
  have hr : Rf w s1 A1 n1 c1 A2 n2 c2 q := ⟨xs, ys, h1, h2, d1, d2, hq.out⟩
  have hln := hr.len
  have HL : Hid (ln q ≤ 1000000 ∧ ld q ≤ 1000001) := Lib.hid (by omega)
  obtain ⟨u, HU, x1, xb⟩ := boxes1 w (.bool s1) (.slice A1 n1 c1) (.slice A2 n2 c2) 24
  replace h1 := h1.below xb
  replace h2 := h2.below xb
  replace hr := hr.below xb
  have y1 := x1.drew
  have g1 := h1.drew
  have g2 := h2.drew
  have gr := hr.drew
  have yu := below_drew xb
  clear hb hln
  go_enter Tryd.func62, Tryd.ntmps62
  go_wp2_with fail
  rw [← HU.out]
  go_region_held3 (fun w' => w'.cell? ⟨w.heap.size, 0, none⟩ = some (.bool s1) ∧ w'.cell? ⟨w.heap.size, 1, none⟩ = some (.slice A1 n1 c1) ∧ w'.cell? ⟨w.heap.size, 2, none⟩ = some (.slice A2 n2 c2))
    (first | (with_reducible exact ⟨x1.c0, x1.c1, x1.c2⟩) | (with_reducible exact ⟨y1.c0, y1.c1, y1.c2⟩) | go_keep)
    (first
      | (go_at_call 34
         (with_reducible refine (rCanon_any s1 A1 A2 n1 n2 c1 c2 q _ gr (by omega) (by omega)).mono ?_)
         rintro e w5 ⟨s2, A3, n3, c3, A4, n4, c4, rfl, f2, _, _, b5⟩
         replace y1 := y1.below b5
         replace g1 := g1.below b5
         replace g2 := g2.below b5
         replace yu := bthen yu b5
         have hn3 : n3 ≤ 1000000 := by have := f2.lens; have := HL.out; omega
         have hn4 : n4 ≤ 1000001 := by have := f2.lens; have := HL.out; omega)
      | (go_at_call 22
         (with_reducible refine (Same_any s1 s2 A1 A2 A3 A4 n1 n2 n3 n4 c1 c2 c3 c4 xs ys _ _ _ g1 g2 f2.num f2.den (by omega) (by omega) (by omega) (by omega) b (by rw [HBQ.out, f2.neg])).mono ?_)
         rintro e w5 ⟨rfl, b5⟩
         replace y1 := y1.below b5
         replace yu := bthen yu b5))
  go_wp2_with fail
  go_ret
  exact ⟨rfl, yu⟩

set_option maxHeartbeats 4000000 in
theorem Canonical_i (s1 : Bool) (A1 A2 : Option Addr) (n1 n2 c1 c2 : Nat) (xs ys : List Nat) (w : World) (h1 : Sl w A1 n1 c1 xs) (h2 : Sl w A2 n2 c2 ys) (d1 : Ds xs) (d2 : Ds ys) (hl1 : n1 ≤ 1000000) (hl2 : n2 ≤ 1000000) (h0 : xs ≠ dig (val xs)) :
    Calls Tryd.prog 61 #[.agg #[.bool s1, .slice A1 n1 c1, .slice A2 n2 c2]] w (ValPost (.bool (cn s1 xs ys)) w) := by
  have HC : Hid (cn s1 xs ys = false) := Lib.hid (by
    by_cases hv : val xs = 0
    · rw [cn_zero hv]; exact decide_eq_false (fun e => h0 (by rw [hv, dig_zero]; exact e.2.1))
    · rw [cn_pos hv]; exact decide_eq_false (fun e => h0 e.1))
  rw [HC.out]
  obtain ⟨u, HU, x1, xb⟩ := boxes1 w (.bool s1) (.slice A1 n1 c1) (.slice A2 n2 c2) 24
  replace h1 := h1.below xb
  replace h2 := h2.below xb
  have y1 := x1.drew
  have g1 := h1.drew
  have g2 := h2.drew
  have yu := below_drew xb
  have HL := Lib.hid (show (dig (val xs)).length ≠ n1 from fun e => h0 (dig_of_len d1 (by rw [e, ← h1.len])))
  clear h0
  go_enter Tryd.func61, Tryd.ntmps61
  go_wp2_with fail
  rw [← HU.out]
  go_region_held3 (fun w' => w'.cell? ⟨w.heap.size, 0, none⟩ = some (.bool s1) ∧ w'.cell? ⟨w.heap.size, 1, none⟩ = some (.slice A1 n1 c1) ∧ w'.cell? ⟨w.heap.size, 2, none⟩ = some (.slice A2 n2 c2))
    (first | (with_reducible exact ⟨x1.c0, x1.c1, x1.c2⟩) | (with_reducible exact ⟨y1.c0, y1.c1, y1.c2⟩) | go_keep)
    (first
      | (go_at_call 108
         (with_reducible refine (trimmed_any A1 c1 xs _ n1 g1 d1 (by omega)).mono ?_)
         rintro e w5 hp
         obtain ⟨B1, m1, e1, rfl, k1, ⟨b5, _⟩⟩ := hp.nat
         have lm1 : m1 ≤ 1000000 := by have := len_val d1; have := k1.len; have := g1.len; omega
         replace y1 := y1.below b5
         replace g2 := g2.below b5
         replace yu := bthen yu b5)
      | (go_at_call 108
         (with_reducible refine (trimmed_any A2 c2 ys _ n2 g2 d2 (by omega)).mono ?_)
         rintro e w5 hp
         obtain ⟨B2, m2, e2, rfl, k2, ⟨b5, _⟩⟩ := hp.nat
         have lm2 : m2 ≤ 1000000 := by have := len_val d2; have := k2.len; have := g2.len; omega
         replace y1 := y1.below b5
         replace k1 := k1.below b5
         replace yu := bthen yu b5))
  have q0 := y1.c0
  have q1 := y1.c1
  have q2 := y1.c2
  have L1 := h1.len
  have L2 := h2.len
  have hne : m1 ≠ n1 := by rw [← k1.len]; exact HL.out
  have hf : ((m1 : Int) == (n1 : Int)) = false := beq_eq_false_iff_ne.2 (by omega)
  have hf2 : (m1 == n1) = false := beq_eq_false_iff_ne.2 (by omega)
  go_wp2_with fail
  go_ret
  exact ⟨rfl, yu⟩

set_option maxHeartbeats 4000000 in
theorem Canonical_ii (s1 : Bool) (A1 A2 : Option Addr) (n1 n2 c1 c2 : Nat) (xs ys : List Nat) (w : World) (h1 : Sl w A1 n1 c1 xs) (h2 : Sl w A2 n2 c2 ys) (d1 : Ds xs) (d2 : Ds ys) (hl1 : n1 ≤ 1000000) (hl2 : n2 ≤ 1000000) (h0 : xs = dig (val xs)) (h3 : ys ≠ dig (val ys)) :
    Calls Tryd.prog 61 #[.agg #[.bool s1, .slice A1 n1 c1, .slice A2 n2 c2]] w (ValPost (.bool (cn s1 xs ys)) w) := by
  have HC : Hid (cn s1 xs ys = false) := Lib.hid (by
    by_cases hv : val xs = 0
    · rw [cn_zero hv]; exact decide_eq_false (fun e => h3 (by rw [e.2.2]; exact dig_zero.symm))
    · rw [cn_pos hv]; exact decide_eq_false (fun e => h3 e.2.1))
  rw [HC.out]
  obtain ⟨u, HU, x1, xb⟩ := boxes1 w (.bool s1) (.slice A1 n1 c1) (.slice A2 n2 c2) 24
  replace h1 := h1.below xb
  replace h2 := h2.below xb
  have y1 := x1.drew
  have g1 := h1.drew
  have g2 := h2.drew
  have yu := below_drew xb
  have HL := Lib.hid (show (dig (val ys)).length ≠ n2 from fun e => h3 (dig_of_len d2 (by rw [e, ← h2.len])))
  have HE := Lib.hid (show (dig (val xs)).length = n1 by rw [← h0]; exact h1.len)
  clear h0 h3
  go_enter Tryd.func61, Tryd.ntmps61
  go_wp2_with fail
  rw [← HU.out]
  go_region_held3 (fun w' => w'.cell? ⟨w.heap.size, 0, none⟩ = some (.bool s1) ∧ w'.cell? ⟨w.heap.size, 1, none⟩ = some (.slice A1 n1 c1) ∧ w'.cell? ⟨w.heap.size, 2, none⟩ = some (.slice A2 n2 c2))
    (first | (with_reducible exact ⟨x1.c0, x1.c1, x1.c2⟩) | (with_reducible exact ⟨y1.c0, y1.c1, y1.c2⟩) | go_keep)
    (first
      | (go_at_call 108
         (with_reducible refine (trimmed_any A1 c1 xs _ n1 g1 d1 (by omega)).mono ?_)
         rintro e w5 hp
         obtain ⟨B1, m1, e1, rfl, k1, ⟨b5, _⟩⟩ := hp.nat
         have lm1 : m1 ≤ 1000000 := by have := len_val d1; have := k1.len; have := g1.len; omega
         replace y1 := y1.below b5
         replace g2 := g2.below b5
         replace yu := bthen yu b5)
      | (go_at_call 108
         (with_reducible refine (trimmed_any A2 c2 ys _ n2 g2 d2 (by omega)).mono ?_)
         rintro e w5 hp
         obtain ⟨B2, m2, e2, rfl, k2, ⟨b5, _⟩⟩ := hp.nat
         have lm2 : m2 ≤ 1000000 := by have := len_val d2; have := k2.len; have := g2.len; omega
         replace y1 := y1.below b5
         replace k1 := k1.below b5
         replace yu := bthen yu b5))
  have q0 := y1.c0
  have q1 := y1.c1
  have q2 := y1.c2
  have L1 := h1.len
  have L2 := h2.len
  have hm : m1 = n1 := by rw [← k1.len]; exact HE.out
  subst hm
  have hne : m2 ≠ n2 := by rw [← k2.len]; exact HL.out
  have hf : ((m2 : Int) == (n2 : Int)) = false := beq_eq_false_iff_ne.2 (by omega)
  have hf2 : (m2 == n2) = false := beq_eq_false_iff_ne.2 (by omega)
  go_wp2_with fail
  go_ret
  exact ⟨rfl, yu⟩

set_option maxHeartbeats 4000000 in
theorem Canonical_iii (s1 : Bool) (A1 A2 : Option Addr) (n1 n2 c1 c2 : Nat) (xs ys : List Nat) (w : World) (h1 : Sl w A1 n1 c1 xs) (h2 : Sl w A2 n2 c2 ys) (d1 : Ds xs) (d2 : Ds ys) (hl1 : n1 ≤ 1000000) (hl2 : n2 ≤ 1000000) (h0 : xs = dig (val xs)) (h3 : ys = dig (val ys)) (hb : val ys = 1) :
    Calls Tryd.prog 61 #[.agg #[.bool s1, .slice A1 n1 c1, .slice A2 n2 c2]] w (ValPost (.bool (cn s1 xs ys)) w) := by
  have HC : Hid (cn s1 xs ys = false) := Lib.hid (by
    by_cases hv : val xs = 0
    · rw [cn_zero hv]; exact decide_eq_false (fun e => by rw [e.2.2] at hb; cases hb)
    · rw [cn_pos hv]; exact decide_eq_false (fun e => e.2.2.1 hb))
  rw [HC.out]
  obtain ⟨u, HU, x1, xb⟩ := boxes1 w (.bool s1) (.slice A1 n1 c1) (.slice A2 n2 c2) 24
  replace h1 := h1.below xb
  replace h2 := h2.below xb
  have y1 := x1.drew
  have g1 := h1.drew
  have g2 := h2.drew
  have yu := below_drew xb
  have HE := Lib.hid (show (dig (val xs)).length = n1 by rw [← h0]; exact h1.len)
  have HE2 := Lib.hid (show (dig (val ys)).length = n2 by rw [← h3]; exact h2.len)
  have HB := Lib.hid hb
  clear h0 h3 hb
  go_enter Tryd.func61, Tryd.ntmps61
  go_wp2_with fail
  rw [← HU.out]
  go_region_held3 (fun w' => w'.cell? ⟨w.heap.size, 0, none⟩ = some (.bool s1) ∧ w'.cell? ⟨w.heap.size, 1, none⟩ = some (.slice A1 n1 c1) ∧ w'.cell? ⟨w.heap.size, 2, none⟩ = some (.slice A2 n2 c2))
    (first | (with_reducible exact ⟨x1.c0, x1.c1, x1.c2⟩) | (with_reducible exact ⟨y1.c0, y1.c1, y1.c2⟩) | go_keep)
    (first
      | (go_at_call 108
         (with_reducible refine (trimmed_any A1 c1 xs _ n1 g1 d1 (by omega)).mono ?_)
         rintro e w5 hp
         obtain ⟨B1, m1, e1, rfl, k1, ⟨b5, _⟩⟩ := hp.nat
         have lm1 : m1 ≤ 1000000 := by have := len_val d1; have := k1.len; have := g1.len; omega
         replace y1 := y1.below b5
         replace g2 := g2.below b5
         replace yu := bthen yu b5)
      | (go_at_call 108
         (with_reducible refine (trimmed_any A2 c2 ys _ n2 g2 d2 (by omega)).mono ?_)
         rintro e w5 hp
         obtain ⟨B2, m2, e2, rfl, k2, ⟨b5, _⟩⟩ := hp.nat
         have lm2 : m2 ≤ 1000000 := by have := len_val d2; have := k2.len; have := g2.len; omega
         replace y1 := y1.below b5
         replace k1 := k1.below b5
         replace yu := bthen yu b5))
  have q0 := y1.c0
  have q1 := y1.c1
  have q2 := y1.c2
  have L1 := h1.len
  have L2 := h2.len
  have hm : m1 = n1 := by rw [← k1.len]; exact HE.out
  subst hm
  have hm : m2 = n2 := by rw [← k2.len]; exact HE2.out
  subst hm
  rw [HB.out, dig_one] at k2
  have hm : m2 = 1 := by rw [← k2.len]; rfl
  subst hm
  obtain ⟨ad, rfl, hc⟩ := k2.at_ (k := 0) (by omega)
  rw [show ad.add 0 = ad from rfl, show ([1] : List Nat).getD 0 0 = 1 from rfl] at hc
  go_wp2_with fail
  go_ret
  exact ⟨rfl, yu⟩

set_option maxHeartbeats 4000000 in
theorem Canonical_iv (s1 : Bool) (A1 A2 : Option Addr) (n1 n2 c1 c2 : Nat) (xs ys : List Nat) (w : World) (h1 : Sl w A1 n1 c1 xs) (h2 : Sl w A2 n2 c2 ys) (d1 : Ds xs) (d2 : Ds ys) (hl1 : n1 ≤ 1000000) (hl2 : n2 ≤ 1000000) (h0 : xs = dig (val xs)) (h3 : ys = dig (val ys)) (hv : val xs = 0) (hy0 : val ys = 0) :
    Calls Tryd.prog 61 #[.agg #[.bool s1, .slice A1 n1 c1, .slice A2 n2 c2]] w (ValPost (.bool (cn s1 xs ys)) w) := by
  have HC : Hid (cn s1 xs ys = (!s1)) := Lib.hid (by
    rw [cn_zero hv]; rw [hv, dig_zero] at h0; rw [hy0, dig_zero] at h3; rw [h0, h3]; cases s1 <;> rfl)
  rw [HC.out]
  obtain ⟨u, HU, x1, xb⟩ := boxes1 w (.bool s1) (.slice A1 n1 c1) (.slice A2 n2 c2) 24
  replace h1 := h1.below xb
  replace h2 := h2.below xb
  have y1 := x1.drew
  have g1 := h1.drew
  have g2 := h2.drew
  have yu := below_drew xb
  have HE := Lib.hid (show (dig (val xs)).length = n1 by rw [← h0]; exact h1.len)
  have HE2 := Lib.hid (show (dig (val ys)).length = n2 by rw [← h3]; exact h2.len)
  have HV := Lib.hid hv
  have HY := Lib.hid hy0
  clear h0 h3 hv hy0
  go_enter Tryd.func61, Tryd.ntmps61
  go_wp2_with fail
  rw [← HU.out]
  go_region_held3 (fun w' => w'.cell? ⟨w.heap.size, 0, none⟩ = some (.bool s1) ∧ w'.cell? ⟨w.heap.size, 1, none⟩ = some (.slice A1 n1 c1) ∧ w'.cell? ⟨w.heap.size, 2, none⟩ = some (.slice A2 n2 c2))
    (first | (with_reducible exact ⟨x1.c0, x1.c1, x1.c2⟩) | (with_reducible exact ⟨y1.c0, y1.c1, y1.c2⟩) | go_keep)
    (first
      | (go_at_call 108
         (with_reducible refine (trimmed_any A1 c1 xs _ n1 g1 d1 (by omega)).mono ?_)
         rintro e w5 hp
         obtain ⟨B1, m1, e1, rfl, k1, ⟨b5, _⟩⟩ := hp.nat
         have lm1 : m1 ≤ 1000000 := by have := len_val d1; have := k1.len; have := g1.len; omega
         replace y1 := y1.below b5
         replace g2 := g2.below b5
         replace yu := bthen yu b5)
      | (go_at_call 108
         (with_reducible refine (trimmed_any A2 c2 ys _ n2 g2 d2 (by omega)).mono ?_)
         rintro e w5 hp
         obtain ⟨B2, m2, e2, rfl, k2, ⟨b5, _⟩⟩ := hp.nat
         have lm2 : m2 ≤ 1000000 := by have := len_val d2; have := k2.len; have := g2.len; omega
         replace y1 := y1.below b5
         replace k1 := k1.below b5
         replace yu := bthen yu b5))
  have q0 := y1.c0
  have q1 := y1.c1
  have q2 := y1.c2
  have L1 := h1.len
  have L2 := h2.len
  have hm : m1 = n1 := by rw [← k1.len]; exact HE.out
  subst hm
  have hm : m2 = n2 := by rw [← k2.len]; exact HE2.out
  subst hm
  rw [HV.out, dig_zero] at k1
  rw [HY.out, dig_zero] at k2
  have hm : m1 = 0 := by rw [← k1.len]; rfl
  have hm2 : m2 = 0 := by rw [← k2.len]; rfl
  subst hm
  subst hm2
  go_wp2_with fail
  go_ret
  exact ⟨rfl, yu⟩

set_option maxHeartbeats 4000000 in
theorem Canonical_v (s1 : Bool) (A1 A2 : Option Addr) (n1 n2 c1 c2 : Nat) (xs ys : List Nat) (w : World) (h1 : Sl w A1 n1 c1 xs) (h2 : Sl w A2 n2 c2 ys) (d1 : Ds xs) (d2 : Ds ys) (hl1 : n1 ≤ 1000000) (hl2 : n2 ≤ 1000000) (h0 : xs = dig (val xs)) (h3 : ys = dig (val ys)) (hb1 : val ys ≠ 1) (hv : val xs = 0) (hy0 : val ys ≠ 0) :
    Calls Tryd.prog 61 #[.agg #[.bool s1, .slice A1 n1 c1, .slice A2 n2 c2]] w (ValPost (.bool (cn s1 xs ys)) w) := by
  have HC : Hid (cn s1 xs ys = false) := Lib.hid (by
    rw [cn_zero hv]; exact decide_eq_false (fun e => hy0 (by rw [e.2.2]; rfl)))
  rw [HC.out]
  obtain ⟨u, HU, x1, xb⟩ := boxes1 w (.bool s1) (.slice A1 n1 c1) (.slice A2 n2 c2) 24
  replace h1 := h1.below xb
  replace h2 := h2.below xb
  have y1 := x1.drew
  have g1 := h1.drew
  have g2 := h2.drew
  have yu := below_drew xb
  have HE := Lib.hid (show (dig (val xs)).length = n1 by rw [← h0]; exact h1.len)
  have HE2 := Lib.hid (show (dig (val ys)).length = n2 by rw [← h3]; exact h2.len)
  have HB1 := Lib.hid hb1
  have HV := Lib.hid hv
  have HY := Lib.hid hy0
  clear h0 h3 hb1 hv hy0
  go_enter Tryd.func61, Tryd.ntmps61
  go_wp2_with fail
  rw [← HU.out]
  go_region_held3 (fun w' => w'.cell? ⟨w.heap.size, 0, none⟩ = some (.bool s1) ∧ w'.cell? ⟨w.heap.size, 1, none⟩ = some (.slice A1 n1 c1) ∧ w'.cell? ⟨w.heap.size, 2, none⟩ = some (.slice A2 n2 c2))
    (first | (with_reducible exact ⟨x1.c0, x1.c1, x1.c2⟩) | (with_reducible exact ⟨y1.c0, y1.c1, y1.c2⟩) | go_keep)
    (first
      | (go_at_call 108
         (with_reducible refine (trimmed_any A1 c1 xs _ n1 g1 d1 (by omega)).mono ?_)
         rintro e w5 hp
         obtain ⟨B1, m1, e1, rfl, k1, ⟨b5, _⟩⟩ := hp.nat
         have lm1 : m1 ≤ 1000000 := by have := len_val d1; have := k1.len; have := g1.len; omega
         replace y1 := y1.below b5
         replace g2 := g2.below b5
         replace yu := bthen yu b5)
      | (go_at_call 108
         (with_reducible refine (trimmed_any A2 c2 ys _ n2 g2 d2 (by omega)).mono ?_)
         rintro e w5 hp
         obtain ⟨B2, m2, e2, rfl, k2, ⟨b5, _⟩⟩ := hp.nat
         have lm2 : m2 ≤ 1000000 := by have := len_val d2; have := k2.len; have := g2.len; omega
         replace y1 := y1.below b5
         replace k1 := k1.below b5
         replace yu := bthen yu b5))
  have q0 := y1.c0
  have q1 := y1.c1
  have q2 := y1.c2
  have L1 := h1.len
  have L2 := h2.len
  have hm : m1 = n1 := by rw [← k1.len]; exact HE.out
  subst hm
  have hm : m2 = n2 := by rw [← k2.len]; exact HE2.out
  subst hm
  have hd1 : m2 = 1 → ∃ ad y, B2 = some ad ∧ w5.cell? ad = some (.int .u32 ((y : Nat) : Int)) ∧ y ≠ 1 := fun e => by
    obtain ⟨ad, hA, hc⟩ := k2.at_ (k := 0) (by omega)
    refine ⟨ad, _, hA, hc, fun e2 => HB1.out ?_⟩
    have h5 := k2.len
    rw [e] at h5
    match hx : dig (val ys), h5 with
    | [x], _ =>
      rw [hx] at e2
      have h6 := val_dig (val ys)
      rw [hx] at h6
      simp [val] at h6 e2
      omega
  rw [HV.out, dig_zero] at k1
  have hm : m1 = 0 := by rw [← k1.len]; rfl
  subst hm
  have hmp : 0 < m2 := by rw [← k2.len]; exact len_dig_pos.2 HY.out
  have hmp' : ((m2 : Int) == 0) = false := beq_eq_false_iff_ne.2 (by omega)
  by_cases hm1 : m2 = 1
  · obtain ⟨ad, y, rfl, hc, hy⟩ := hd1 hm1
    subst hm1
    have hyf : ((y : Int) == 1) = false := beq_eq_false_iff_ne.2 (by omega)
    have hyg : (y == 1) = false := beq_eq_false_iff_ne.2 (by omega)
    clear hd1
    go_wp2_with fail
    go_ret
    exact ⟨rfl, yu⟩
  · have hmf : ((m2 : Int) == 1) = false := beq_eq_false_iff_ne.2 (by omega)
    have hmg : (m2 == 1) = false := beq_eq_false_iff_ne.2 (by omega)
    clear hd1
    go_wp2_with fail
    go_ret
    exact ⟨rfl, yu⟩

set_option maxHeartbeats 4000000 in
theorem Canonical_vi (s1 : Bool) (A1 A2 : Option Addr) (n1 n2 c1 c2 : Nat) (xs ys : List Nat) (w : World) (h1 : Sl w A1 n1 c1 xs) (h2 : Sl w A2 n2 c2 ys) (d1 : Ds xs) (d2 : Ds ys) (hl1 : n1 ≤ 1000000) (hl2 : n2 ≤ 1000000) (h0 : xs = dig (val xs)) (h3 : ys = dig (val ys)) (hb1 : val ys ≠ 1) (hv : val xs ≠ 0) (hy0 : val ys = 0) :
    Calls Tryd.prog 61 #[.agg #[.bool s1, .slice A1 n1 c1, .slice A2 n2 c2]] w (ValPost (.bool (cn s1 xs ys)) w) := by
  have HC : Hid (cn s1 xs ys = true) := Lib.hid (by
    rw [cn_pos hv]; exact decide_eq_true ⟨h0, h3, hb1, .inl hy0⟩)
  rw [HC.out]
  obtain ⟨u, HU, x1, xb⟩ := boxes1 w (.bool s1) (.slice A1 n1 c1) (.slice A2 n2 c2) 24
  replace h1 := h1.below xb
  replace h2 := h2.below xb
  have y1 := x1.drew
  have g1 := h1.drew
  have g2 := h2.drew
  have yu := below_drew xb
  have HE := Lib.hid (show (dig (val xs)).length = n1 by rw [← h0]; exact h1.len)
  have HE2 := Lib.hid (show (dig (val ys)).length = n2 by rw [← h3]; exact h2.len)
  have HV := Lib.hid hv
  have HY := Lib.hid hy0
  clear h0 h3 hb1 hv hy0
  go_enter Tryd.func61, Tryd.ntmps61
  go_wp2_with fail
  rw [← HU.out]
  go_region_held3 (fun w' => w'.cell? ⟨w.heap.size, 0, none⟩ = some (.bool s1) ∧ w'.cell? ⟨w.heap.size, 1, none⟩ = some (.slice A1 n1 c1) ∧ w'.cell? ⟨w.heap.size, 2, none⟩ = some (.slice A2 n2 c2))
    (first | (with_reducible exact ⟨x1.c0, x1.c1, x1.c2⟩) | (with_reducible exact ⟨y1.c0, y1.c1, y1.c2⟩) | go_keep)
    (first
      | (go_at_call 108
         (with_reducible refine (trimmed_any A1 c1 xs _ n1 g1 d1 (by omega)).mono ?_)
         rintro e w5 hp
         obtain ⟨B1, m1, e1, rfl, k1, ⟨b5, _⟩⟩ := hp.nat
         have lm1 : m1 ≤ 1000000 := by have := len_val d1; have := k1.len; have := g1.len; omega
         replace y1 := y1.below b5
         replace g2 := g2.below b5
         replace yu := bthen yu b5)
      | (go_at_call 108
         (with_reducible refine (trimmed_any A2 c2 ys _ n2 g2 d2 (by omega)).mono ?_)
         rintro e w5 hp
         obtain ⟨B2, m2, e2, rfl, k2, ⟨b5, _⟩⟩ := hp.nat
         have lm2 : m2 ≤ 1000000 := by have := len_val d2; have := k2.len; have := g2.len; omega
         replace y1 := y1.below b5
         replace k1 := k1.below b5
         replace yu := bthen yu b5))
  have q0 := y1.c0
  have q1 := y1.c1
  have q2 := y1.c2
  have L1 := h1.len
  have L2 := h2.len
  have hm : m1 = n1 := by rw [← k1.len]; exact HE.out
  subst hm
  have hm : m2 = n2 := by rw [← k2.len]; exact HE2.out
  subst hm
  rw [HY.out, dig_zero] at k2
  have hm2 : m2 = 0 := by rw [← k2.len]; rfl
  subst hm2
  have hmx : 0 < m1 := by rw [← k1.len]; exact len_dig_pos.2 HV.out
  have hmx' : ((m1 : Int) == 0) = false := beq_eq_false_iff_ne.2 (by omega)
  go_wp2_with fail
  go_ret
  exact ⟨rfl, yu⟩

set_option maxHeartbeats 4000000 in
theorem Canonical_vii (s1 : Bool) (A1 A2 : Option Addr) (n1 n2 c1 c2 : Nat) (xs ys : List Nat) (w : World) (h1 : Sl w A1 n1 c1 xs) (h2 : Sl w A2 n2 c2 ys) (d1 : Ds xs) (d2 : Ds ys) (hl1 : n1 ≤ 1000000) (hl2 : n2 ≤ 1000000) (h0 : xs = dig (val xs)) (h3 : ys = dig (val ys)) (hb1 : val ys ≠ 1) (hv : val xs ≠ 0) (hy0 : val ys ≠ 0) (hg : (val xs).gcd (val ys) = 1) :
    Calls Tryd.prog 61 #[.agg #[.bool s1, .slice A1 n1 c1, .slice A2 n2 c2]] w (ValPost (.bool (cn s1 xs ys)) w) := by
  have HC : Hid (cn s1 xs ys = true) := Lib.hid (by
    rw [cn_pos hv]; exact decide_eq_true ⟨h0, h3, hb1, .inr hg⟩)
  rw [HC.out]
  obtain ⟨u, HU, x1, xb⟩ := boxes1 w (.bool s1) (.slice A1 n1 c1) (.slice A2 n2 c2) 24
  replace h1 := h1.below xb
  replace h2 := h2.below xb
  have y1 := x1.drew
  have g1 := h1.drew
  have g2 := h2.drew
  have yu := below_drew xb
  have HE := Lib.hid (show (dig (val xs)).length = n1 by rw [← h0]; exact h1.len)
  have HE2 := Lib.hid (show (dig (val ys)).length = n2 by rw [← h3]; exact h2.len)
  have HB1 := Lib.hid hb1
  have HV := Lib.hid hv
  have HY := Lib.hid hy0
  have HG := Lib.hid hg
  clear h0 h3 hb1 hv hy0 hg
  go_enter Tryd.func61, Tryd.ntmps61
  go_wp2_with fail
  rw [← HU.out]
  go_region_held3 (fun w' => w'.cell? ⟨w.heap.size, 0, none⟩ = some (.bool s1) ∧ w'.cell? ⟨w.heap.size, 1, none⟩ = some (.slice A1 n1 c1) ∧ w'.cell? ⟨w.heap.size, 2, none⟩ = some (.slice A2 n2 c2))
    (first | (with_reducible exact ⟨x1.c0, x1.c1, x1.c2⟩) | (with_reducible exact ⟨y1.c0, y1.c1, y1.c2⟩) | go_keep)
    (first
      | (go_at_call 108
         (with_reducible refine (trimmed_any A1 c1 xs _ n1 g1 d1 (by omega)).mono ?_)
         rintro e w5 hp
         obtain ⟨B1, m1, e1, rfl, k1, ⟨b5, _⟩⟩ := hp.nat
         have lm1 : m1 ≤ 1000000 := by have := len_val d1; have := k1.len; have := g1.len; omega
         replace y1 := y1.below b5
         replace g2 := g2.below b5
         replace yu := bthen yu b5)
      | (go_at_call 108
         (with_reducible refine (trimmed_any A2 c2 ys _ n2 g2 d2 (by omega)).mono ?_)
         rintro e w5 hp
         obtain ⟨B2, m2, e2, rfl, k2, ⟨b5, _⟩⟩ := hp.nat
         have lm2 : m2 ≤ 1000000 := by have := len_val d2; have := k2.len; have := g2.len; omega
         replace y1 := y1.below b5
         replace k1 := k1.below b5
         replace yu := bthen yu b5))
  have q0 := y1.c0
  have q1 := y1.c1
  have q2 := y1.c2
  have L1 := h1.len
  have L2 := h2.len
  have hm : m1 = n1 := by rw [← k1.len]; exact HE.out
  subst hm
  have hm : m2 = n2 := by rw [← k2.len]; exact HE2.out
  subst hm
  have hd1 : m2 = 1 → ∃ ad y, B2 = some ad ∧ w5.cell? ad = some (.int .u32 ((y : Nat) : Int)) ∧ y ≠ 1 := fun e => by
    obtain ⟨ad, hA, hc⟩ := k2.at_ (k := 0) (by omega)
    refine ⟨ad, _, hA, hc, fun e2 => HB1.out ?_⟩
    have h5 := k2.len
    rw [e] at h5
    match hx : dig (val ys), h5 with
    | [x], _ =>
      rw [hx] at e2
      have h6 := val_dig (val ys)
      rw [hx] at h6
      simp [val] at h6 e2
      omega
  have hmx : 0 < m1 := by rw [← k1.len]; exact len_dig_pos.2 HV.out
  have hmx' : ((m1 : Int) == 0) = false := beq_eq_false_iff_ne.2 (by omega)
  have hmp : 0 < m2 := by rw [← k2.len]; exact len_dig_pos.2 HY.out
  have hmp' : ((m2 : Int) == 0) = false := beq_eq_false_iff_ne.2 (by omega)
  by_cases hm1 : m2 = 1
  · obtain ⟨ad, y, rfl, hc, hy⟩ := hd1 hm1
    subst hm1
    have hyf : ((y : Int) == 1) = false := beq_eq_false_iff_ne.2 (by omega)
    have hyg : (y == 1) = false := beq_eq_false_iff_ne.2 (by omega)
    clear hd1
    go_wp2_with fail
    refine (gcd_any _ _ _ _ _ _ (val xs) (val ys) _ k1 k2 (by omega) (by omega)).mono ?_
    rintro e w6 ⟨B3, m3, e3, rfl, k3, b6⟩
    have lm3 : m3 ≤ 1000000 := by
      have h5 := len_mono (Nat.le_of_dvd (show 0 < val xs by have := HV.out; omega) (Nat.gcd_dvd_left (val xs) (val ys)))
      have := k3.len; have := k1.len; omega
    replace yu := bthen yu b6
    go_wp2_with fail
    refine (small_any 1 _ (by omega) (by omega)).mono ?_
    rintro e w7 ⟨B4, m4, e4, rfl, k4, ⟨b7, _⟩⟩
    have k4 : Sl w7 B4 m4 e4 (dig 1) := k4
    have lm4 : m4 ≤ 1 := by rw [← k4.len]; exact len_small (by decide)
    replace k3 := k3.below b7
    replace yu := bthen yu b7
    go_wp2_with fail
    refine (compare_eq B3 B4 m3 m4 e3 e4 _ 1 _ k3 k4 (by omega) (by omega) HG.out).mono ?_
    rintro e w8 ⟨rfl, kk, rfl⟩
    go_wp2_with fail
    go_ret
    exact ⟨rfl, below_drewN yu kk⟩
  · have hmf : ((m2 : Int) == 1) = false := beq_eq_false_iff_ne.2 (by omega)
    have hmg : (m2 == 1) = false := beq_eq_false_iff_ne.2 (by omega)
    clear hd1
    go_wp2_with fail
    refine (gcd_any _ _ _ _ _ _ (val xs) (val ys) _ k1 k2 (by omega) (by omega)).mono ?_
    rintro e w6 ⟨B3, m3, e3, rfl, k3, b6⟩
    have lm3 : m3 ≤ 1000000 := by
      have h5 := len_mono (Nat.le_of_dvd (show 0 < val xs by have := HV.out; omega) (Nat.gcd_dvd_left (val xs) (val ys)))
      have := k3.len; have := k1.len; omega
    replace yu := bthen yu b6
    go_wp2_with fail
    refine (small_any 1 _ (by omega) (by omega)).mono ?_
    rintro e w7 ⟨B4, m4, e4, rfl, k4, ⟨b7, _⟩⟩
    have k4 : Sl w7 B4 m4 e4 (dig 1) := k4
    have lm4 : m4 ≤ 1 := by rw [← k4.len]; exact len_small (by decide)
    replace k3 := k3.below b7
    replace yu := bthen yu b7
    go_wp2_with fail
    refine (compare_eq B3 B4 m3 m4 e3 e4 _ 1 _ k3 k4 (by omega) (by omega) HG.out).mono ?_
    rintro e w8 ⟨rfl, kk, rfl⟩
    go_wp2_with fail
    go_ret
    exact ⟨rfl, below_drewN yu kk⟩

set_option maxHeartbeats 4000000 in
theorem Canonical_viii (s1 : Bool) (A1 A2 : Option Addr) (n1 n2 c1 c2 : Nat) (xs ys : List Nat) (w : World) (h1 : Sl w A1 n1 c1 xs) (h2 : Sl w A2 n2 c2 ys) (d1 : Ds xs) (d2 : Ds ys) (hl1 : n1 ≤ 1000000) (hl2 : n2 ≤ 1000000) (h0 : xs = dig (val xs)) (h3 : ys = dig (val ys)) (hb1 : val ys ≠ 1) (hv : val xs ≠ 0) (hy0 : val ys ≠ 0) (hg : (val xs).gcd (val ys) ≠ 1) :
    Calls Tryd.prog 61 #[.agg #[.bool s1, .slice A1 n1 c1, .slice A2 n2 c2]] w (ValPost (.bool (cn s1 xs ys)) w) := by
  have HC : Hid (cn s1 xs ys = false) := Lib.hid (by
    rw [cn_pos hv]; exact decide_eq_false (fun e => by rcases e.2.2.2 with h | h; exact hy0 h; exact hg h))
  rw [HC.out]
  obtain ⟨u, HU, x1, xb⟩ := boxes1 w (.bool s1) (.slice A1 n1 c1) (.slice A2 n2 c2) 24
  replace h1 := h1.below xb
  replace h2 := h2.below xb
  have y1 := x1.drew
  have g1 := h1.drew
  have g2 := h2.drew
  have yu := below_drew xb
  have HE := Lib.hid (show (dig (val xs)).length = n1 by rw [← h0]; exact h1.len)
  have HE2 := Lib.hid (show (dig (val ys)).length = n2 by rw [← h3]; exact h2.len)
  have HB1 := Lib.hid hb1
  have HV := Lib.hid hv
  have HY := Lib.hid hy0
  have HG : Hid (1 < (val xs).gcd (val ys)) := Lib.hid (by have := Nat.gcd_pos_of_pos_left (val ys) (show 0 < val xs by omega); omega)
  clear h0 h3 hb1 hv hy0 hg
  go_enter Tryd.func61, Tryd.ntmps61
  go_wp2_with fail
  rw [← HU.out]
  go_region_held3 (fun w' => w'.cell? ⟨w.heap.size, 0, none⟩ = some (.bool s1) ∧ w'.cell? ⟨w.heap.size, 1, none⟩ = some (.slice A1 n1 c1) ∧ w'.cell? ⟨w.heap.size, 2, none⟩ = some (.slice A2 n2 c2))
    (first | (with_reducible exact ⟨x1.c0, x1.c1, x1.c2⟩) | (with_reducible exact ⟨y1.c0, y1.c1, y1.c2⟩) | go_keep)
    (first
      | (go_at_call 108
         (with_reducible refine (trimmed_any A1 c1 xs _ n1 g1 d1 (by omega)).mono ?_)
         rintro e w5 hp
         obtain ⟨B1, m1, e1, rfl, k1, ⟨b5, _⟩⟩ := hp.nat
         have lm1 : m1 ≤ 1000000 := by have := len_val d1; have := k1.len; have := g1.len; omega
         replace y1 := y1.below b5
         replace g2 := g2.below b5
         replace yu := bthen yu b5)
      | (go_at_call 108
         (with_reducible refine (trimmed_any A2 c2 ys _ n2 g2 d2 (by omega)).mono ?_)
         rintro e w5 hp
         obtain ⟨B2, m2, e2, rfl, k2, ⟨b5, _⟩⟩ := hp.nat
         have lm2 : m2 ≤ 1000000 := by have := len_val d2; have := k2.len; have := g2.len; omega
         replace y1 := y1.below b5
         replace k1 := k1.below b5
         replace yu := bthen yu b5))
  have q0 := y1.c0
  have q1 := y1.c1
  have q2 := y1.c2
  have L1 := h1.len
  have L2 := h2.len
  have hm : m1 = n1 := by rw [← k1.len]; exact HE.out
  subst hm
  have hm : m2 = n2 := by rw [← k2.len]; exact HE2.out
  subst hm
  have hd1 : m2 = 1 → ∃ ad y, B2 = some ad ∧ w5.cell? ad = some (.int .u32 ((y : Nat) : Int)) ∧ y ≠ 1 := fun e => by
    obtain ⟨ad, hA, hc⟩ := k2.at_ (k := 0) (by omega)
    refine ⟨ad, _, hA, hc, fun e2 => HB1.out ?_⟩
    have h5 := k2.len
    rw [e] at h5
    match hx : dig (val ys), h5 with
    | [x], _ =>
      rw [hx] at e2
      have h6 := val_dig (val ys)
      rw [hx] at h6
      simp [val] at h6 e2
      omega
  have hmx : 0 < m1 := by rw [← k1.len]; exact len_dig_pos.2 HV.out
  have hmx' : ((m1 : Int) == 0) = false := beq_eq_false_iff_ne.2 (by omega)
  have hmp : 0 < m2 := by rw [← k2.len]; exact len_dig_pos.2 HY.out
  have hmp' : ((m2 : Int) == 0) = false := beq_eq_false_iff_ne.2 (by omega)
  by_cases hm1 : m2 = 1
  · obtain ⟨ad, y, rfl, hc, hy⟩ := hd1 hm1
    subst hm1
    have hyf : ((y : Int) == 1) = false := beq_eq_false_iff_ne.2 (by omega)
    have hyg : (y == 1) = false := beq_eq_false_iff_ne.2 (by omega)
    clear hd1
    go_wp2_with fail
    refine (gcd_any _ _ _ _ _ _ (val xs) (val ys) _ k1 k2 (by omega) (by omega)).mono ?_
    rintro e w6 ⟨B3, m3, e3, rfl, k3, b6⟩
    have lm3 : m3 ≤ 1000000 := by
      have h5 := len_mono (Nat.le_of_dvd (show 0 < val xs by have := HV.out; omega) (Nat.gcd_dvd_left (val xs) (val ys)))
      have := k3.len; have := k1.len; omega
    replace yu := bthen yu b6
    go_wp2_with fail
    refine (small_any 1 _ (by omega) (by omega)).mono ?_
    rintro e w7 ⟨B4, m4, e4, rfl, k4, ⟨b7, _⟩⟩
    have k4 : Sl w7 B4 m4 e4 (dig 1) := k4
    have lm4 : m4 ≤ 1 := by rw [← k4.len]; exact len_small (by decide)
    replace k3 := k3.below b7
    replace yu := bthen yu b7
    go_wp2_with fail
    refine (compare_gt B3 B4 m3 m4 e3 e4 _ 1 _ k3 k4 (by omega) (by omega) HG.out).mono ?_
    rintro e w8 ⟨rfl, kk, rfl⟩
    go_wp2_with fail
    go_ret
    exact ⟨rfl, below_drewN yu kk⟩
  · have hmf : ((m2 : Int) == 1) = false := beq_eq_false_iff_ne.2 (by omega)
    have hmg : (m2 == 1) = false := beq_eq_false_iff_ne.2 (by omega)
    clear hd1
    go_wp2_with fail
    refine (gcd_any _ _ _ _ _ _ (val xs) (val ys) _ k1 k2 (by omega) (by omega)).mono ?_
    rintro e w6 ⟨B3, m3, e3, rfl, k3, b6⟩
    have lm3 : m3 ≤ 1000000 := by
      have h5 := len_mono (Nat.le_of_dvd (show 0 < val xs by have := HV.out; omega) (Nat.gcd_dvd_left (val xs) (val ys)))
      have := k3.len; have := k1.len; omega
    replace yu := bthen yu b6
    go_wp2_with fail
    refine (small_any 1 _ (by omega) (by omega)).mono ?_
    rintro e w7 ⟨B4, m4, e4, rfl, k4, ⟨b7, _⟩⟩
    have k4 : Sl w7 B4 m4 e4 (dig 1) := k4
    have lm4 : m4 ≤ 1 := by rw [← k4.len]; exact len_small (by decide)
    replace k3 := k3.below b7
    replace yu := bthen yu b7
    go_wp2_with fail
    refine (compare_gt B3 B4 m3 m4 e3 e4 _ 1 _ k3 k4 (by omega) (by omega) HG.out).mono ?_
    rintro e w8 ⟨rfl, kk, rfl⟩
    go_wp2_with fail
    go_ret
    exact ⟨rfl, below_drewN yu kk⟩

set_option maxHeartbeats 4000000 in
theorem rSize_any (s1 : Bool) (A1 A2 : Option Addr) (n1 n2 c1 c2 : Nat) (q : Rat) (w : World) (h : Rf w s1 A1 n1 c1 A2 n2 c2 q) (hl1 : n1 ≤ 1000000) (hl2 : n2 ≤ 1000000) :
    Calls Tryd.prog 64 #[.agg #[.bool s1, .slice A1 n1 c1, .slice A2 n2 c2]] w (ValPost (.int .i64 ((blen (rn q) : Int) + (blen (rd q) : Int))) w) := by
  have hln := h.len
  have HL : Hid (ln q ≤ 1000000 ∧ ld q ≤ 1000001) := Lib.hid (by omega)
  have HLD : Hid (low (val (dig (rD q))) = rd q) := Lib.hid (by rw [val_dig, low_rD])
  obtain ⟨k1, hk1⟩ : ∃ k, Hid (k = blen (rn q)) := ⟨_, rfl⟩
  obtain ⟨k2, hk2⟩ : ∃ k, Hid (k = blen (rd q)) := ⟨_, rfl⟩
  have hk1b : k1 ≤ 100000000 := by rw [hk1.out]; have := blen_le (rn q); unfold ln at hln; omega
  have hk2b : k2 ≤ 100000000 := by rw [hk2.out]; have := blen_le (rd q); unfold ld at hln; omega
  rw [← hk1.out, ← hk2.out]
  obtain ⟨u, HU, x1, xb⟩ := boxes1 w (.bool s1) (.slice A1 n1 c1) (.slice A2 n2 c2) 24
  replace h := h.below xb
  have p0 := x1.c0
  have p1 := x1.c1
  have p2 := x1.c2
  rw [HU.out] at p0 p1 p2
  have v0 := x1.fz 0
  have v1 := x1.fz 1
  have v2 := x1.fz 2
  clear hln
  go_enter Tryd.func64, Tryd.ntmps64
  go_wp2_with fail
  rw [← HU.out]
  refine (rCanon_any s1 A1 A2 n1 n2 c1 c2 q _ h (by omega) (by omega)).mono ?_
  rintro e w1 ⟨s2, A3, n3, c3, A4, n4, c4, rfl, f2, _, _, b5⟩
  have hn3 : n3 ≤ 1000000 := by have := f2.lens; have := HL.out; omega
  have hn4 : n4 ≤ 1000001 := by have := f2.lens; have := HL.out; omega
  replace x1 := x1.below b5
  replace xb := bthen xb b5
  have t0 := x1.c0
  have t1 := x1.c1
  have t2 := x1.c2
  have z0 := x1.fz 0
  have z1 := x1.fz 1
  have z2 := x1.fz 2
  obtain ⟨V, HV⟩ : ∃ V, Hid (V = put3 w1 w.heap.size (.bool s2) (.slice A3 n3 c3) (.slice A4 n4 c4)) := ⟨_, rfl⟩
  have X1 : Bk V w.heap.size (.bool s2) (.slice A3 n3 c3) (.slice A4 n4 c4) := by rw [HV.out]; exact x1.self _ _ _
  have F2 : Fr V s2 A3 n3 c3 A4 n4 c4 q := by rw [HV.out]; exact f2.put3 x1 _ _ _
  have XB : Below w.heap.size w V := by rw [HV.out]; exact below_put3 xb (Nat.le_refl _) _ _ _
  have HV2 := HV.out
  unfold put3 at HV2
  have HV3 := Lib.hid HV2
  clear HV2 HV f2 h
  have y1 := X1.drew
  have g1 := F2.num.drew
  have g2 := F2.den.drew
  have yu := below_drew XB
  go_wp2_with fail
  rw [← HV3.out]
  clear p0 p1 p2 v0 v1 v2 t0 t1 t2 z0 z1 z2 x1
  go_region_held3 (fun w' => w'.cell? ⟨w.heap.size, 0, none⟩ = some (.bool s2) ∧ w'.cell? ⟨w.heap.size, 1, none⟩ = some (.slice A3 n3 c3) ∧ w'.cell? ⟨w.heap.size, 2, none⟩ = some (.slice A4 n4 c4))
    (first | (with_reducible exact ⟨X1.c0, X1.c1, X1.c2⟩) | (with_reducible exact ⟨y1.c0, y1.c1, y1.c2⟩) | go_keep)
    (first
      | (go_at_call 111
         (with_reducible refine (rbits_any A3 n3 c3 _ _ g1 (by omega)).mono ?_)
         rintro e w5 ⟨rfl, hw⟩
         replace hw := hw.symm
         subst hw
         rw [← hk1.out])
      | (go_at_call 94
         (with_reducible refine (rlow_any s2 A3 A4 n3 n4 c3 c4 _ _ g2 (ds_dig _) (by omega)).mono ?_)
         rintro e w5 ⟨B1, m1, e1, rfl, j1, b5⟩
         rw [HLD.out] at j1
         have lm1 : m1 ≤ 1000001 := by have := j1.len; have := HL.out; unfold ld at this; omega
         replace y1 := y1.below b5
         replace g1 := g1.below b5
         replace g2 := g2.below b5
         replace yu := bthen yu b5)
      | (go_at_call 111
         (with_reducible refine (rbits_any B1 m1 e1 _ _ j1 (by omega)).mono ?_)
         rintro e w5 ⟨rfl, hw⟩
         replace hw := hw.symm
         subst hw
         rw [← hk2.out]))
  go_wp2_with fail
  go_ret
  exact ⟨by show Ending.returned (.int .i64 (IntKind.i64.wrap ((k1 : Int) + (k2 : Int)))) = _; rw [IntWalk.i64_in _ (by omega)], yu⟩
end Go.Proofs.YtaahbabdbopphaaDoor
