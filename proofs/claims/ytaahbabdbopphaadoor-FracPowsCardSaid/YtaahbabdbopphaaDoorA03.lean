/- FracPows: the walk. -/
import Derived.Test.YtaahbabdbopphaaDoorPW
import Derived.Test.YtaahbabdbopphaaDoorA04
namespace Go.Proofs.YtaahbabdbopphaaDoor
open Go.RowKit Mx
set_option maxRecDepth 100000

set_option maxHeartbeats 4000000 in
theorem Pow_zero (s1 : Bool) (A1 A2 : Option Addr) (n1 n2 c1 c2 : Nat) (q : Rat) (N : Nat) (w : World) (h : Rf w s1 A1 n1 c1 A2 n2 c2 q) (l1 : n1 ≤ 100000) (l2 : n2 ≤ 100000) (hN : N ≤ 4096) (hN0 : 0 < N) (hz : rn q = 0) :
    Calls Tryd.prog 21 #[.agg #[.bool s1, .slice A1 n1 c1, .slice A2 n2 c2], .int .i64 (-(N : Int))] w (FrEPost 0 3 w) := by
  have g1 : ¬ (4096 < (-(N : Int))) := by omega
  have g2 : ¬ ((-(N : Int)) < -4096) := by omega
  have g3 : (-(N : Int)) < 0 := by omega
  obtain ⟨u, HU, x1, x2, xb⟩ := boxes2 w (.bool s1) (.slice A1 n1 c1) (.slice A2 n2 c2) (.bool false) (.slice none 0 0) (.slice none 0 0) 24 24
  have m1 := h.below xb
  have q0 := x1.c0
  have q1 := x1.c1
  have q2 := x1.c2
  rw [HU.out] at q0 q1 q2
  have HZ := Lib.hid hz
  clear h hz
  go_enter Tryd.func21, Tryd.ntmps21
  go_wp2_with fail
  rw [← HU.out]
  refine (takes_any s1 A1 A2 n1 n2 c1 c2 q _ m1 (by omega) (by omega)).mono ?_
  rintro e w1 ⟨s5, A5, n5, c5, A6, n6, c6, rfl, g5, b1⟩
  obtain ⟨v, HV, z4, zb⟩ := boxes1 w1 (.bool s5) (.slice A5 n5 c5) (.slice A6 n6 c6) 66
  have y2 := (x2.below b1).below zb
  have yb := bthen (bthen xb b1) zb
  have k5 := g5.below zb
  have p0 := z4.c0
  have p1 := z4.c1
  have p2 := z4.c2
  rw [HV.out] at p0 p1 p2
  go_wp2_with fail
  rw [← HV.out]
  refine (nzero_yes s5 A5 A6 n5 n6 c5 c6 q _ k5 HZ.out).mono ?_
  rintro e w2 ⟨rfl, b2⟩
  have y3 := y2.below b2
  have yc := bthen yb b2
  have t0 := y3.c0
  have t1 := y3.c1
  have t2 := y3.c2
  have v0 := y3.fz 0
  have v1 := y3.fz 1
  have v2 := y3.fz 2
  go_wp2_with fail
  exact bodyPost_ret (v := .tuple #[.agg #[.bool false, .slice none 0 0, .slice none 0 0], .int .i64 3]) (by simp [results, Tryd.results21, go_sem, t0, t1, t2]) rfl (FrEPost.zero 3 (below_put3 yc (Nat.le_succ _) _ _ _))
theorem pow12 {q : Rat} {N : Nat} (h1 : ln q ≤ 5) (h2 : ld q ≤ 5) (hN : N ≤ 12) : ln (q ^ N) ≤ 61 ∧ ld (q ^ N) ≤ 61 := by
  have e1 := len_pow (rn q) N
  have e2 := len_pow (rd q) N
  unfold ln ld at *
  rw [(pow_parts q N).2.1, (pow_parts q N).2.2]
  have a1 : N * (dig (rn q)).length ≤ 12 * 5 := Nat.mul_le_mul hN h1
  have a2 : N * (dig (rd q)).length ≤ 12 * 5 := Nat.mul_le_mul hN h2
  omega
set_option maxHeartbeats 4000000 in
theorem FracPows_no (s1 : Bool) (A1 A2 : Option Addr) (n1 n2 c1 c2 : Nat) (n : Int) (w : World) (ht : Tab w) (h : 4 < n1 ∨ 4 < n2 ∨ ((12 < n ∨ n < -12) ∧ n ≤ 4096 ∧ -4096 ≤ n)) :
    Calls Tryd.prog 3 #[.agg #[.bool s1, .slice A1 n1 c1, .slice A2 n2 c2], .int .i64 n] w (ValPost (.bool true) w) := by
  obtain ⟨u, HU, x1, xb⟩ := boxes1 w (.bool s1) (.slice A1 n1 c1) (.slice A2 n2 c2) 24
  have x1p0 := x1.c0
  have x1p1 := x1.c1
  have x1p2 := x1.c2
  rw [HU.out] at x1p0 x1p1 x1p2
  have ht2 := ht.on xb
  have hcase : 4 < n1 ∨ (n1 ≤ 4 ∧ 4 < n2) ∨ (n1 ≤ 4 ∧ n2 ≤ 4 ∧ 12 < n ∧ n ≤ 4096) ∨ (n1 ≤ 4 ∧ n2 ≤ 4 ∧ n < -12 ∧ -4096 ≤ n) := by omega
  clear h
  rcases hcase with h | ⟨h, h'⟩ | ⟨h, h', g, g'⟩ | ⟨h, h', g, g'⟩
  · go_enter Tryd.func3, Tryd.ntmps3
    go_wp2_with fail
    rw [← HU.out]
    refine (known_any _ ht2).mono ?_
    rintro e w9 ⟨rfl, b9⟩
    go_wp2_with fail
    go_ret
    exact ⟨rfl, bthen xb b9⟩
  · go_enter Tryd.func3, Tryd.ntmps3
    go_wp2_with fail
    rw [← HU.out]
    refine (known_any _ ht2).mono ?_
    rintro e w9 ⟨rfl, b9⟩
    go_wp2_with fail
    go_ret
    exact ⟨rfl, bthen xb b9⟩
  · have g2 : -4096 ≤ n := by omega
    go_enter Tryd.func3, Tryd.ntmps3
    go_wp2_with fail
    rw [← HU.out]
    refine (known_any _ ht2).mono ?_
    rintro e w9 ⟨rfl, b9⟩
    go_wp2_with fail
    go_ret
    exact ⟨rfl, bthen xb b9⟩
  · have g2 : ¬ (12 < n) := by omega
    have g3 : n ≤ 4096 := by omega
    go_enter Tryd.func3, Tryd.ntmps3
    go_wp2_with fail
    rw [← HU.out]
    refine (known_any _ ht2).mono ?_
    rintro e w9 ⟨rfl, b9⟩
    go_wp2_with fail
    go_ret
    exact ⟨rfl, bthen xb b9⟩

set_option maxHeartbeats 8000000 in
theorem FracPows_big (s1 : Bool) (A1 A2 : Option Addr) (n1 n2 c1 c2 : Nat) (q : Rat) (n : Int) (hn : 4096 < n) (w : World) (h1 : Rf w s1 A1 n1 c1 A2 n2 c2 q) (ht : Tab w) (l1 : n1 ≤ 4) (l2 : n2 ≤ 4) :
    Calls Tryd.prog 3 #[.agg #[.bool s1, .slice A1 n1 c1, .slice A2 n2 c2], .int .i64 n] w (ValPost (.bool true) w) := by
  have e1 := h1.len
  have Lz : Hid (ln (0 : Rat) ≤ 1000 ∧ ld (0 : Rat) ≤ 1000) := Lib.hid (by have := ln_zero; omega)
  obtain ⟨u, HU, x1, xb⟩ := boxes1 w (.bool s1) (.slice A1 n1 c1) (.slice A2 n2 c2) 24
  replace h1 := h1.below xb
  have PC := Lib.hid (Pow_long s1 A1 A2 n1 n2 c1 c2 n u (by omega))
  have hn12 : 12 < n := by omega
  have x1p0 := x1.c0
  have x1p1 := x1.c1
  have x1p2 := x1.c2
  rw [HU.out] at x1p0 x1p1 x1p2
  clear e1
  go_enter Tryd.func3, Tryd.ntmps3
  go_wp2_with fail
  rw [← HU.out]
  refine PC.out.mono ?_
  rintro e w3 ⟨s3, A5, n5, c5, A6, n6, c6, rfl, f3, _, _, b5⟩
  obtain ⟨u3, HU3, x3, xb3⟩ := boxes1 w3 (.bool s3) (.slice A5 n5 c5) (.slice A6 n6 c6) 24
  clear x1p0 x1p1 x1p2 PC
  replace x1 := x1.below b5
  replace h1 := h1.below b5
  replace xb := bthen xb b5
  replace x1 := x1.below xb3
  replace h1 := h1.below xb3
  replace f3 := f3.below xb3
  replace xb := bthen xb xb3
  have hn5 : n5 ≤ 1000 := by have := f3.lens; have := Lz.out; omega
  have hn6 : n6 ≤ 1000 := by have := f3.lens; have := Lz.out; omega
  have S0 := Lib.hid (fun (W : World) (F : Fr W s3 A5 n5 c5 A6 n6 c6 0) => SameFr_any s3 false A5 A6 none none n5 n6 0 0 c5 c6 0 0 0 0 W F (Fr.zero_ W) (by omega) (by omega) (by omega) (by omega) true (decide_eq_true rfl).symm)
  have x3p0 := x3.c0
  have x3p1 := x3.c1
  have x3p2 := x3.c2
  rw [HU3.out] at x3p0 x3p1 x3p2
  go_wp2_with fail
  rw [← HU3.out]
  refine (S0.out _ f3).mono ?_
  rintro e w5 ⟨rfl, b5⟩
  replace xb := bthen xb b5
  have htx := ht.on xb
  go_wp2_with fail
  refine (known_any _ htx).mono ?_
  rintro e w6 ⟨rfl, b6⟩
  go_wp2_with fail
  go_ret
  exact ⟨rfl, bthen xb b6⟩

set_option maxHeartbeats 8000000 in
theorem FracPows_small (s1 : Bool) (A1 A2 : Option Addr) (n1 n2 c1 c2 : Nat) (q : Rat) (n : Int) (hn : n < -4096) (w : World) (h1 : Rf w s1 A1 n1 c1 A2 n2 c2 q) (ht : Tab w) (l1 : n1 ≤ 4) (l2 : n2 ≤ 4) :
    Calls Tryd.prog 3 #[.agg #[.bool s1, .slice A1 n1 c1, .slice A2 n2 c2], .int .i64 n] w (ValPost (.bool true) w) := by
  have e1 := h1.len
  have Lz : Hid (ln (0 : Rat) ≤ 1000 ∧ ld (0 : Rat) ≤ 1000) := Lib.hid (by have := ln_zero; omega)
  obtain ⟨u, HU, x1, xb⟩ := boxes1 w (.bool s1) (.slice A1 n1 c1) (.slice A2 n2 c2) 24
  replace h1 := h1.below xb
  have PC := Lib.hid (Pow_long s1 A1 A2 n1 n2 c1 c2 n u (by omega))
  have hnn : ¬ (4096 < n) := by omega
  have hn12 : n < -12 := by omega
  have hnz : n ≤ 4096 := by omega
  have x1p0 := x1.c0
  have x1p1 := x1.c1
  have x1p2 := x1.c2
  rw [HU.out] at x1p0 x1p1 x1p2
  clear e1
  go_enter Tryd.func3, Tryd.ntmps3
  go_wp2_with fail
  rw [← HU.out]
  refine PC.out.mono ?_
  rintro e w3 ⟨s3, A5, n5, c5, A6, n6, c6, rfl, f3, _, _, b5⟩
  obtain ⟨u3, HU3, x3, xb3⟩ := boxes1 w3 (.bool s3) (.slice A5 n5 c5) (.slice A6 n6 c6) 24
  clear x1p0 x1p1 x1p2 PC
  replace x1 := x1.below b5
  replace h1 := h1.below b5
  replace xb := bthen xb b5
  replace x1 := x1.below xb3
  replace h1 := h1.below xb3
  replace f3 := f3.below xb3
  replace xb := bthen xb xb3
  have hn5 : n5 ≤ 1000 := by have := f3.lens; have := Lz.out; omega
  have hn6 : n6 ≤ 1000 := by have := f3.lens; have := Lz.out; omega
  have S0 := Lib.hid (fun (W : World) (F : Fr W s3 A5 n5 c5 A6 n6 c6 0) => SameFr_any s3 false A5 A6 none none n5 n6 0 0 c5 c6 0 0 0 0 W F (Fr.zero_ W) (by omega) (by omega) (by omega) (by omega) true (decide_eq_true rfl).symm)
  have x3p0 := x3.c0
  have x3p1 := x3.c1
  have x3p2 := x3.c2
  rw [HU3.out] at x3p0 x3p1 x3p2
  go_wp2_with fail
  rw [← HU3.out]
  refine (S0.out _ f3).mono ?_
  rintro e w5 ⟨rfl, b5⟩
  replace xb := bthen xb b5
  have htx := ht.on xb
  go_wp2_with fail
  refine (known_any _ htx).mono ?_
  rintro e w6 ⟨rfl, b6⟩
  go_wp2_with fail
  go_ret
  exact ⟨rfl, bthen xb b6⟩

set_option maxHeartbeats 8000000 in
theorem FracPows_zero (s1 : Bool) (A1 A2 : Option Addr) (n1 n2 c1 c2 : Nat) (q : Rat) (N : Nat) (hN : N ≤ 12) (hN0 : 0 < N) (hz : q = 0) (w : World) (h1 : Rf w s1 A1 n1 c1 A2 n2 c2 q) (ht : Tab w) (l1 : n1 ≤ 4) (l2 : n2 ≤ 4) :
    Calls Tryd.prog 3 #[.agg #[.bool s1, .slice A1 n1 c1, .slice A2 n2 c2], .int .i64 (-(N : Int))] w (ValPost (.bool true) w) := by
  have e1 := h1.len
  have Lz : Hid (ln (0 : Rat) ≤ 1000 ∧ ld (0 : Rat) ≤ 1000) := Lib.hid (by have := ln_zero; omega)
  obtain ⟨u, HU, x1, xb⟩ := boxes1 w (.bool s1) (.slice A1 n1 c1) (.slice A2 n2 c2) 24
  replace h1 := h1.below xb
  have PC := Lib.hid (Pow_zero s1 A1 A2 n1 n2 c1 c2 q N u h1 (by omega) (by omega) (by omega) hN0 (rn_zero.2 hz))
  have a1 : -12 ≤ (-(N : Int)) := by omega
  have a2 : (-(N : Int)) < 0 := by omega
  have HK : Hid (sgn q = 0) := Lib.hid ((sgn_zero_iff q).2 hz)
  have x1p0 := x1.c0
  have x1p1 := x1.c1
  have x1p2 := x1.c2
  rw [HU.out] at x1p0 x1p1 x1p2
  clear e1
  go_enter Tryd.func3, Tryd.ntmps3
  go_wp2_with fail
  rw [← HU.out]
  refine PC.out.mono ?_
  rintro e w3 ⟨s3, A5, n5, c5, A6, n6, c6, rfl, f3, _, _, b5⟩
  obtain ⟨u3, HU3, x3, xb3⟩ := boxes1 w3 (.bool s3) (.slice A5 n5 c5) (.slice A6 n6 c6) 24
  clear x1p0 x1p1 x1p2 PC
  replace x1 := x1.below b5
  replace h1 := h1.below b5
  replace xb := bthen xb b5
  replace x1 := x1.below xb3
  replace h1 := h1.below xb3
  replace f3 := f3.below xb3
  replace xb := bthen xb xb3
  have hn5 : n5 ≤ 1000 := by have := f3.lens; have := Lz.out; omega
  have hn6 : n6 ≤ 1000 := by have := f3.lens; have := Lz.out; omega
  have S0 := Lib.hid (fun (W : World) (F : Fr W s3 A5 n5 c5 A6 n6 c6 0) => SameFr_any s3 false A5 A6 none none n5 n6 0 0 c5 c6 0 0 0 0 W F (Fr.zero_ W) (by omega) (by omega) (by omega) (by omega) true (decide_eq_true rfl).symm)
  have x1p0 := x1.c0
  have x1p1 := x1.c1
  have x1p2 := x1.c2
  rw [HU3.out] at x1p0 x1p1 x1p2
  go_wp2_with fail
  rw [← HU3.out]
  refine (sgn_eq (rSign_any s1 A1 A2 n1 n2 c1 c2 q _ h1 (by omega) (by omega)) HK.out).mono ?_
  rintro e w4 ⟨rfl, b5⟩
  clear x1p0 x1p1 x1p2
  replace x3 := x3.below b5
  replace f3 := f3.below b5
  replace xb := bthen xb b5
  have x3p0 := x3.c0
  have x3p1 := x3.c1
  have x3p2 := x3.c2
  go_wp2_with fail
  refine (S0.out _ f3).mono ?_
  rintro e w5 ⟨rfl, b5⟩
  replace xb := bthen xb b5
  have htx := ht.on xb
  go_wp2_with fail
  refine (known_any _ htx).mono ?_
  rintro e w6 ⟨rfl, b6⟩
  go_wp2_with fail
  go_ret
  exact ⟨rfl, bthen xb b6⟩

set_option maxHeartbeats 8000000 in
theorem FracPows_pos (s1 : Bool) (A1 A2 : Option Addr) (n1 n2 c1 c2 : Nat) (q : Rat) (N : Nat) (hN : N ≤ 12) (kq : Int) (HK : Hid (sgn q = kq)) (hk0 : (kq == 0) = false) (w : World) (h1 : Rf w s1 A1 n1 c1 A2 n2 c2 q) (ht : Tab w) (l1 : n1 ≤ 4) (l2 : n2 ≤ 4) :
    Calls Tryd.prog 3 #[.agg #[.bool s1, .slice A1 n1 c1, .slice A2 n2 c2], .int .i64 (N : Int)] w (ValPost (.bool true) w) := by
  have e1 := h1.len
  have Lz : Hid (ln (q ^ N) ≤ 1000 ∧ ld (q ^ N) ≤ 1000) := Lib.hid (by have := pow12 (q := q) (N := N) (by omega) (by omega) (by omega); omega)
  obtain ⟨u, HU, x1, xb⟩ := boxes1 w (.bool s1) (.slice A1 n1 c1) (.slice A2 n2 c2) 24
  replace h1 := h1.below xb
  have PC := Lib.hid (Pow_nat s1 A1 A2 n1 n2 c1 c2 q N u h1 (by omega) (by omega) (by omega) (by have K1 : N * n1 ≤ 12 * 4 := Nat.mul_le_mul (by omega) l1; omega) (by have K2 : N * (n2 + 1) ≤ 12 * 5 := Nat.mul_le_mul (by omega) (by omega); omega))
  have a1 : (N : Int) ≤ 12 := by omega
  have a2 : (0 : Int) ≤ (N : Int) := by omega
  have LQ := Lib.hid e1
  have x1p0 := x1.c0
  have x1p1 := x1.c1
  have x1p2 := x1.c2
  rw [HU.out] at x1p0 x1p1 x1p2
  clear e1
  go_enter Tryd.func3, Tryd.ntmps3
  go_wp2_with fail
  rw [← HU.out]
  refine PC.out.mono ?_
  rintro e w3 ⟨s3, A5, n5, c5, A6, n6, c6, rfl, f3, _, _, b5⟩
  obtain ⟨u3, HU3, x3, xb3⟩ := boxes1 w3 (.bool s3) (.slice A5 n5 c5) (.slice A6 n6 c6) 24
  clear x1p0 x1p1 x1p2 PC
  replace x1 := x1.below b5
  replace h1 := h1.below b5
  replace xb := bthen xb b5
  replace x1 := x1.below xb3
  replace h1 := h1.below xb3
  replace f3 := f3.below xb3
  replace xb := bthen xb xb3
  have hn5 : n5 ≤ 1000 := by have := f3.lens; have := Lz.out; omega
  have hn6 : n6 ≤ 1000 := by have := f3.lens; have := Lz.out; omega
  have x1p0 := x1.c0
  have x1p1 := x1.c1
  have x1p2 := x1.c2
  rw [HU3.out] at x1p0 x1p1 x1p2
  go_wp2_with fail
  rw [← HU3.out]
  refine (sgn_eq (rSign_any s1 A1 A2 n1 n2 c1 c2 q _ h1 (by omega) (by omega)) HK.out).mono ?_
  rintro e w4 ⟨rfl, b5⟩
  clear x1p0 x1p1 x1p2
  replace x1 := x1.below b5
  replace h1 := h1.below b5
  replace x3 := x3.below b5
  replace f3 := f3.below b5
  replace xb := bthen xb b5
  have y1 := x1.drew
  have y3 := x3.drew
  have g1 := h1.drew
  have g3 := f3.below (below_drew (Below.refl _ w4))
  have yu := below_drew xb
  go_wp2_with fail
  go_region_held3 (fun w' => w'.cell? ⟨w.heap.size, 0, none⟩ = some (.bool s1) ∧ w'.cell? ⟨w.heap.size, 1, none⟩ = some (.slice A1 n1 c1) ∧ w'.cell? ⟨w.heap.size, 2, none⟩ = some (.slice A2 n2 c2) ∧ w'.cell? ⟨w3.heap.size, 0, none⟩ = some (.bool s3) ∧ w'.cell? ⟨w3.heap.size, 1, none⟩ = some (.slice A5 n5 c5) ∧ w'.cell? ⟨w3.heap.size, 2, none⟩ = some (.slice A6 n6 c6))
    (first | (with_reducible exact ⟨x1.c0, x1.c1, x1.c2, x3.c0, x3.c1, x3.c2⟩) | (with_reducible exact ⟨y1.c0, y1.c1, y1.c2, y3.c0, y3.c1, y3.c2⟩) | go_keep)
    (first
      | (go_at_call 24
         (with_reducible refine (rPow_nat s1 A1 A2 n1 n2 c1 c2 q N _ g1 (by omega) (by omega) (by have := LQ.out; omega) (by have := LQ.out; omega) (by omega)).mono ?_)
         rintro e w5 ⟨s4, A7, n7, c7, A8, n8, c8, rfl, f4, b5⟩
         replace y1 := y1.below b5
         replace y3 := y3.below b5
         replace g1 := g1.below b5
         replace g3 := g3.below b5
         replace yu := bthen yu b5
         have hn7 : n7 ≤ 1000 := by have := f4.lens; have := Lz.out; omega
         have hn8 : n8 ≤ 1000 := by have := f4.lens; have := Lz.out; omega)
      | (go_at_call 22
         (with_reducible refine (SameFr_any s3 s4 A5 A6 A7 A8 n5 n6 n7 n8 c5 c6 c7 c8 _ _ _ g3 f4 (by omega) (by omega) (by omega) (by omega) true (decide_eq_true rfl).symm).mono ?_)
         rintro e w5 ⟨rfl, b5⟩
         replace y1 := y1.below b5
         replace y3 := y3.below b5
         replace g1 := g1.below b5
         replace g3 := g3.below b5
         replace yu := bthen yu b5
         have htx := ht.on yu)
      | (go_at_call 20
         (with_reducible refine (known_any _ htx).mono ?_)
         rintro e w5 ⟨rfl, b5⟩
         replace y1 := y1.below b5
         replace y3 := y3.below b5
         replace g1 := g1.below b5
         replace g3 := g3.below b5
         replace yu := bthen yu b5))
  go_wp2_with fail
  go_ret
  exact ⟨rfl, yu⟩

set_option maxHeartbeats 8000000 in
theorem FracPows_nil (s1 : Bool) (A1 A2 : Option Addr) (n1 n2 c1 c2 : Nat) (q : Rat) (N : Nat) (hN : N ≤ 12) (HK : Hid (sgn q = 0)) (w : World) (h1 : Rf w s1 A1 n1 c1 A2 n2 c2 q) (ht : Tab w) (l1 : n1 ≤ 4) (l2 : n2 ≤ 4) :
    Calls Tryd.prog 3 #[.agg #[.bool s1, .slice A1 n1 c1, .slice A2 n2 c2], .int .i64 (N : Int)] w (ValPost (.bool true) w) := by
  have e1 := h1.len
  have Lz : Hid (ln (q ^ N) ≤ 1000 ∧ ld (q ^ N) ≤ 1000) := Lib.hid (by have := pow12 (q := q) (N := N) (by omega) (by omega) (by omega); omega)
  obtain ⟨u, HU, x1, xb⟩ := boxes1 w (.bool s1) (.slice A1 n1 c1) (.slice A2 n2 c2) 24
  replace h1 := h1.below xb
  have PC := Lib.hid (Pow_nat s1 A1 A2 n1 n2 c1 c2 q N u h1 (by omega) (by omega) (by omega) (by have K1 : N * n1 ≤ 12 * 4 := Nat.mul_le_mul (by omega) l1; omega) (by have K2 : N * (n2 + 1) ≤ 12 * 5 := Nat.mul_le_mul (by omega) (by omega); omega))
  have a1 : (N : Int) ≤ 12 := by omega
  have a2 : (0 : Int) ≤ (N : Int) := by omega
  have LQ := Lib.hid e1
  have x1p0 := x1.c0
  have x1p1 := x1.c1
  have x1p2 := x1.c2
  rw [HU.out] at x1p0 x1p1 x1p2
  clear e1
  go_enter Tryd.func3, Tryd.ntmps3
  go_wp2_with fail
  rw [← HU.out]
  refine PC.out.mono ?_
  rintro e w3 ⟨s3, A5, n5, c5, A6, n6, c6, rfl, f3, _, _, b5⟩
  obtain ⟨u3, HU3, x3, xb3⟩ := boxes1 w3 (.bool s3) (.slice A5 n5 c5) (.slice A6 n6 c6) 24
  clear x1p0 x1p1 x1p2 PC
  replace x1 := x1.below b5
  replace h1 := h1.below b5
  replace xb := bthen xb b5
  replace x1 := x1.below xb3
  replace h1 := h1.below xb3
  replace f3 := f3.below xb3
  replace xb := bthen xb xb3
  have hn5 : n5 ≤ 1000 := by have := f3.lens; have := Lz.out; omega
  have hn6 : n6 ≤ 1000 := by have := f3.lens; have := Lz.out; omega
  have x1p0 := x1.c0
  have x1p1 := x1.c1
  have x1p2 := x1.c2
  rw [HU3.out] at x1p0 x1p1 x1p2
  go_wp2_with fail
  rw [← HU3.out]
  refine (sgn_eq (rSign_any s1 A1 A2 n1 n2 c1 c2 q _ h1 (by omega) (by omega)) HK.out).mono ?_
  rintro e w4 ⟨rfl, b5⟩
  clear x1p0 x1p1 x1p2
  replace x1 := x1.below b5
  replace h1 := h1.below b5
  replace x3 := x3.below b5
  replace f3 := f3.below b5
  replace xb := bthen xb b5
  have y1 := x1.drew
  have y3 := x3.drew
  have g1 := h1.drew
  have g3 := f3.below (below_drew (Below.refl _ w4))
  have yu := below_drew xb
  go_wp2_with fail
  go_region_held3 (fun w' => w'.cell? ⟨w.heap.size, 0, none⟩ = some (.bool s1) ∧ w'.cell? ⟨w.heap.size, 1, none⟩ = some (.slice A1 n1 c1) ∧ w'.cell? ⟨w.heap.size, 2, none⟩ = some (.slice A2 n2 c2) ∧ w'.cell? ⟨w3.heap.size, 0, none⟩ = some (.bool s3) ∧ w'.cell? ⟨w3.heap.size, 1, none⟩ = some (.slice A5 n5 c5) ∧ w'.cell? ⟨w3.heap.size, 2, none⟩ = some (.slice A6 n6 c6))
    (first | (with_reducible exact ⟨x1.c0, x1.c1, x1.c2, x3.c0, x3.c1, x3.c2⟩) | (with_reducible exact ⟨y1.c0, y1.c1, y1.c2, y3.c0, y3.c1, y3.c2⟩) | go_keep)
    (first
      | (go_at_call 24
         (with_reducible refine (rPow_nat s1 A1 A2 n1 n2 c1 c2 q N _ g1 (by omega) (by omega) (by have := LQ.out; omega) (by have := LQ.out; omega) (by omega)).mono ?_)
         rintro e w5 ⟨s4, A7, n7, c7, A8, n8, c8, rfl, f4, b5⟩
         replace y1 := y1.below b5
         replace y3 := y3.below b5
         replace g1 := g1.below b5
         replace g3 := g3.below b5
         replace yu := bthen yu b5
         have hn7 : n7 ≤ 1000 := by have := f4.lens; have := Lz.out; omega
         have hn8 : n8 ≤ 1000 := by have := f4.lens; have := Lz.out; omega)
      | (go_at_call 22
         (with_reducible refine (SameFr_any s3 s4 A5 A6 A7 A8 n5 n6 n7 n8 c5 c6 c7 c8 _ _ _ g3 f4 (by omega) (by omega) (by omega) (by omega) true (decide_eq_true rfl).symm).mono ?_)
         rintro e w5 ⟨rfl, b5⟩
         replace y1 := y1.below b5
         replace y3 := y3.below b5
         replace g1 := g1.below b5
         replace g3 := g3.below b5
         replace yu := bthen yu b5
         have htx := ht.on yu)
      | (go_at_call 20
         (with_reducible refine (known_any _ htx).mono ?_)
         rintro e w5 ⟨rfl, b5⟩
         replace y1 := y1.below b5
         replace y3 := y3.below b5
         replace g1 := g1.below b5
         replace g3 := g3.below b5
         replace yu := bthen yu b5))
  go_wp2_with fail
  go_ret
  exact ⟨rfl, yu⟩

set_option maxHeartbeats 8000000 in
theorem FracPows_neg (s1 : Bool) (A1 A2 : Option Addr) (n1 n2 c1 c2 : Nat) (q : Rat) (N : Nat) (hN : N ≤ 12) (hN0 : 0 < N) (kq : Int) (HK : Hid (sgn q = kq)) (hk0 : (kq == 0) = false) (hz : q ≠ 0) (w : World) (h1 : Rf w s1 A1 n1 c1 A2 n2 c2 q) (ht : Tab w) (l1 : n1 ≤ 4) (l2 : n2 ≤ 4) :
    Calls Tryd.prog 3 #[.agg #[.bool s1, .slice A1 n1 c1, .slice A2 n2 c2], .int .i64 (-(N : Int))] w (ValPost (.bool true) w) := by
  have e1 := h1.len
  have Lz : Hid (ln (q⁻¹ ^ N) ≤ 1000 ∧ ld (q⁻¹ ^ N) ≤ 1000) := Lib.hid (by have a5 := ln_inv (fun e => hz (rn_zero.1 e)); have := pow12 (q := q⁻¹) (N := N) (by omega) (by omega) (by omega); omega)
  obtain ⟨u, HU, x1, xb⟩ := boxes1 w (.bool s1) (.slice A1 n1 c1) (.slice A2 n2 c2) 24
  replace h1 := h1.below xb
  have PC := Lib.hid (Pow_inv s1 A1 A2 n1 n2 c1 c2 q N u h1 (by omega) (by omega) (by omega) (by omega) (fun e => hz (rn_zero.1 e)) (by have K1 : N * n1 ≤ 12 * 4 := Nat.mul_le_mul (by omega) l1; omega) (by have K2 : N * (n2 + 1) ≤ 12 * 5 := Nat.mul_le_mul (by omega) (by omega); omega))
  have a1 : -12 ≤ (-(N : Int)) := by omega
  have a2 : (-(N : Int)) < 0 := by omega
  have LQ := Lib.hid e1
  have HZ := Lib.hid hz
  have x1p0 := x1.c0
  have x1p1 := x1.c1
  have x1p2 := x1.c2
  rw [HU.out] at x1p0 x1p1 x1p2
  clear e1
  go_enter Tryd.func3, Tryd.ntmps3
  go_wp2_with fail
  rw [← HU.out]
  refine PC.out.mono ?_
  rintro e w3 ⟨s3, A5, n5, c5, A6, n6, c6, rfl, f3, _, _, b5⟩
  obtain ⟨u3, HU3, x3, xb3⟩ := boxes1 w3 (.bool s3) (.slice A5 n5 c5) (.slice A6 n6 c6) 24
  clear x1p0 x1p1 x1p2 PC
  replace x1 := x1.below b5
  replace h1 := h1.below b5
  replace xb := bthen xb b5
  replace x1 := x1.below xb3
  replace h1 := h1.below xb3
  replace f3 := f3.below xb3
  replace xb := bthen xb xb3
  have hn5 : n5 ≤ 1000 := by have := f3.lens; have := Lz.out; omega
  have hn6 : n6 ≤ 1000 := by have := f3.lens; have := Lz.out; omega
  have x1p0 := x1.c0
  have x1p1 := x1.c1
  have x1p2 := x1.c2
  rw [HU3.out] at x1p0 x1p1 x1p2
  go_wp2_with fail
  rw [← HU3.out]
  refine (sgn_eq (rSign_any s1 A1 A2 n1 n2 c1 c2 q _ h1 (by omega) (by omega)) HK.out).mono ?_
  rintro e w4 ⟨rfl, b5⟩
  clear x1p0 x1p1 x1p2
  replace x1 := x1.below b5
  replace h1 := h1.below b5
  replace x3 := x3.below b5
  replace f3 := f3.below b5
  replace xb := bthen xb b5
  have y1 := x1.drew
  have y3 := x3.drew
  have g1 := h1.drew
  have g3 := f3.below (below_drew (Below.refl _ w4))
  have yu := below_drew xb
  go_wp2_with fail
  go_region_held3 (fun w' => w'.cell? ⟨w.heap.size, 0, none⟩ = some (.bool s1) ∧ w'.cell? ⟨w.heap.size, 1, none⟩ = some (.slice A1 n1 c1) ∧ w'.cell? ⟨w.heap.size, 2, none⟩ = some (.slice A2 n2 c2) ∧ w'.cell? ⟨w3.heap.size, 0, none⟩ = some (.bool s3) ∧ w'.cell? ⟨w3.heap.size, 1, none⟩ = some (.slice A5 n5 c5) ∧ w'.cell? ⟨w3.heap.size, 2, none⟩ = some (.slice A6 n6 c6))
    (first | (with_reducible exact ⟨x1.c0, x1.c1, x1.c2, x3.c0, x3.c1, x3.c2⟩) | (with_reducible exact ⟨y1.c0, y1.c1, y1.c2, y3.c0, y3.c1, y3.c2⟩) | go_keep)
    (first
      | (go_at_call 24
         (with_reducible refine (rPow_neg s1 A1 A2 n1 n2 c1 c2 q N _ g1 (by omega) (by omega) (by have := LQ.out; omega) (by have := LQ.out; omega) (by omega) HZ.out hN0).mono ?_)
         rintro e w5 ⟨s4, A7, n7, c7, A8, n8, c8, rfl, f4, b5⟩
         replace y1 := y1.below b5
         replace y3 := y3.below b5
         replace g1 := g1.below b5
         replace g3 := g3.below b5
         replace yu := bthen yu b5
         have hn7 : n7 ≤ 1000 := by have := f4.lens; have := Lz.out; omega
         have hn8 : n8 ≤ 1000 := by have := f4.lens; have := Lz.out; omega)
      | (go_at_call 22
         (with_reducible refine (SameFr_any s3 s4 A5 A6 A7 A8 n5 n6 n7 n8 c5 c6 c7 c8 _ _ _ g3 f4 (by omega) (by omega) (by omega) (by omega) true (decide_eq_true rfl).symm).mono ?_)
         rintro e w5 ⟨rfl, b5⟩
         replace y1 := y1.below b5
         replace y3 := y3.below b5
         replace g1 := g1.below b5
         replace g3 := g3.below b5
         replace yu := bthen yu b5
         have htx := ht.on yu)
      | (go_at_call 20
         (with_reducible refine (known_any _ htx).mono ?_)
         rintro e w5 ⟨rfl, b5⟩
         replace y1 := y1.below b5
         replace y3 := y3.below b5
         replace g1 := g1.below b5
         replace g3 := g3.below b5
         replace yu := bthen yu b5))
  go_wp2_with fail
  go_ret
  exact ⟨rfl, yu⟩
theorem FracPows_any (s1 : Bool) (A1 A2 : Option Addr) (n1 n2 c1 c2 : Nat) (q : Rat) (n : Int) (w : World) (h1 : Rf w s1 A1 n1 c1 A2 n2 c2 q) (ht : Tab w) :
    Calls Tryd.prog 3 #[.agg #[.bool s1, .slice A1 n1 c1, .slice A2 n2 c2], .int .i64 n] w (ValPost (.bool true) w) := by
  by_cases hc : 4 < n1 ∨ 4 < n2 ∨ ((12 < n ∨ n < -12) ∧ n ≤ 4096 ∧ -4096 ≤ n)
  · exact FracPows_no s1 A1 A2 n1 n2 c1 c2 n w ht hc
  by_cases hb : 4096 < n
  · exact FracPows_big s1 A1 A2 n1 n2 c1 c2 q n hb w h1 ht (by omega) (by omega)
  by_cases hs : n < -4096
  · exact FracPows_small s1 A1 A2 n1 n2 c1 c2 q n hs w h1 ht (by omega) (by omega)
  by_cases hz : q = 0
  · by_cases hn : n < 0
    · have := FracPows_zero s1 A1 A2 n1 n2 c1 c2 q n.natAbs (by omega) (by omega) hz w h1 ht (by omega) (by omega)
      rwa [show -((n.natAbs : Nat) : Int) = n from by omega] at this
    · have := FracPows_nil s1 A1 A2 n1 n2 c1 c2 q n.toNat (by omega) (Lib.hid ((sgn_zero_iff q).2 hz)) w h1 ht (by omega) (by omega)
      rwa [Int.toNat_of_nonneg (by omega)] at this
  · have hk : (sgn q == 0) = false := beq_eq_false_iff_ne.2 (fun e => hz ((sgn_zero_iff q).1 e))
    by_cases hn : n < 0
    · have := FracPows_neg s1 A1 A2 n1 n2 c1 c2 q n.natAbs (by omega) (by omega) _ rfl hk hz w h1 ht (by omega) (by omega)
      rwa [show -((n.natAbs : Nat) : Int) = n from by omega] at this
    · have := FracPows_pos s1 A1 A2 n1 n2 c1 c2 q n.toNat (by omega) _ rfl hk w h1 ht (by omega) (by omega)
      rwa [Int.toNat_of_nonneg (by omega)] at this
end Go.Proofs.YtaahbabdbopphaaDoor
