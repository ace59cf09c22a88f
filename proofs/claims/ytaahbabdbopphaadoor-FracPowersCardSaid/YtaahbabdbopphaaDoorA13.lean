/- FracPowers: the walk. -/
import Derived.Test.YtaahbabdbopphaaDoorKA
namespace Go.Proofs.YtaahbabdbopphaaDoor
open Go.RowKit Mx
set_option maxRecDepth 100000

theorem qpow_add (q : Rat) (N M : Nat) : q ^ N * q ^ M = q ^ (N + M) := by
  induction M with
  | zero => rw [Rat.pow_zero, Rat.mul_one, Nat.add_zero]
  | succ M ih => rw [Rat.pow_succ, ← Rat.mul_assoc, ih, ← Nat.add_assoc, Rat.pow_succ]
theorem powq {q : Rat} {N : Nat} (h1 : ln q ≤ 1) (h2 : ld q ≤ 2) (hN : N ≤ 200) : ln (q ^ N) ≤ 201 ∧ ld (q ^ N) ≤ 401 := by
  have e1 := len_pow (rn q) N
  have e2 := len_pow (rd q) N
  unfold ln ld at *
  rw [(pow_parts q N).2.1, (pow_parts q N).2.2]
  have a1 : N * (dig (rn q)).length ≤ 200 * 1 := Nat.mul_le_mul hN h1
  have a2 : N * (dig (rd q)).length ≤ 200 * 2 := Nat.mul_le_mul hN h2
  omega
set_option maxHeartbeats 4000000 in
theorem FracPowers_no (s1 : Bool) (A1 A2 : Option Addr) (n1 n2 c1 c2 : Nat) (n m : Int) (w : World) (ht : Tab w) (h : 1 < n1 ∨ 1 < n2 ∨ n < 0 ∨ 100 < n ∨ m < 0 ∨ 100 < m) :
    Calls Tryd.prog 13 #[.agg #[.bool s1, .slice A1 n1 c1, .slice A2 n2 c2], .int .i64 n, .int .i64 m] w (ValPost (.bool true) w) := by
  obtain ⟨u, HU, x1, xb⟩ := boxes1 w (.bool s1) (.slice A1 n1 c1) (.slice A2 n2 c2) 24
  have q1 := x1.c1
  have q2 := x1.c2
  rw [HU.out] at q1 q2
  have ht2 := ht.on xb
  have HH := Lib.hid h
  clear h
  go_enter Tryd.func13, Tryd.ntmps13
  go_wp2_with fail
  all_goals first
    | (exfalso; have := HH.out; omega)
    | skip
  all_goals
    rw [← HU.out]
    refine (known_any _ ht2).mono ?_
    rintro e w9 ⟨rfl, b9⟩
    go_wp2_with fail
    go_ret
    exact ⟨rfl, bthen xb b9⟩

set_option maxHeartbeats 4000000 in
theorem FracPowers_yes (s1 : Bool) (A1 A2 : Option Addr) (n1 n2 c1 c2 : Nat) (q : Rat) (N M : Nat) (w : World) (h : Rf w s1 A1 n1 c1 A2 n2 c2 q) (ht : Tab w) (l1 : n1 ≤ 1) (l2 : n2 ≤ 1) (lN : N ≤ 100) (lM : M ≤ 100) :
    Calls Tryd.prog 13 #[.agg #[.bool s1, .slice A1 n1 c1, .slice A2 n2 c2], .int .i64 (N : Int), .int .i64 (M : Int)] w (ValPost (.bool true) w) := by
  have hlen := h.len
  have HPN := Lib.hid (powq (q := q) (N := N) (by omega) (by omega) (by omega))
  have HPM := Lib.hid (powq (q := q) (N := M) (by omega) (by omega) (by omega))
  have HPS := Lib.hid (powq (q := q) (N := N + M) (by omega) (by omega) (by omega))
  have HMM := Lib.hid (ln_mul (q ^ N) (q ^ M))
  have K1 : N * n1 ≤ 100 * 1 := Nat.mul_le_mul lN l1
  have K2 : N * (n2 + 1) ≤ 100 * 2 := Nat.mul_le_mul lN (by omega)
  have K3 : M * n1 ≤ 100 * 1 := Nat.mul_le_mul lM l1
  have K4 : M * (n2 + 1) ≤ 100 * 2 := Nat.mul_le_mul lM (by omega)
  have K5 : (N + M) * n1 ≤ 200 * 1 := Nat.mul_le_mul (by omega) l1
  have K6 : (N + M) * (n2 + 1) ≤ 200 * 2 := Nat.mul_le_mul (by omega) (by omega)
  obtain ⟨u, HU, x1, xb⟩ := boxes1 w (.bool s1) (.slice A1 n1 c1) (.slice A2 n2 c2) 24
  replace h := h.below xb
  have P1 := Lib.hid (Pow_nat s1 A1 A2 n1 n2 c1 c2 q N u h (by omega) (by omega) (by omega) (by omega) (by omega))
  have P2 : Hid (∀ w', Below u.heap.size u w' → Calls Tryd.prog 21 #[.agg #[.bool s1, .slice A1 n1 c1, .slice A2 n2 c2], .int .i64 (M : Int)] w' (FrEPost (q ^ M) 0 w')) := Lib.hid (fun w' hb => Pow_nat s1 A1 A2 n1 n2 c1 c2 q M w' (h.below hb) (by omega) (by omega) (by omega) (by omega) (by omega))
  have P3 : Hid (∀ w', Below u.heap.size u w' → Calls Tryd.prog 21 #[.agg #[.bool s1, .slice A1 n1 c1, .slice A2 n2 c2], .int .i64 ((N : Int) + (M : Int))] w' (FrEPost (q ^ (N + M)) 0 w')) := Lib.hid (fun w' hb => by
    rw [show (N : Int) + (M : Int) = ((N + M : Nat) : Int) from by omega]
    exact Pow_nat s1 A1 A2 n1 n2 c1 c2 q (N + M) w' (h.below hb) (by omega) (by omega) (by omega) (by omega) (by omega))
  have p0 := x1.c0
  have p1 := x1.c1
  have p2 := x1.c2
  rw [HU.out] at p0 p1 p2
  have g0 : (0 : Int) ≤ (N : Int) := by omega
  have g1 : (N : Int) ≤ 100 := by omega
  have g2 : (0 : Int) ≤ (M : Int) := by omega
  have g3 : (M : Int) ≤ 100 := by omega
  clear K1 K2 K3 K4 K5 K6 h
  go_enter Tryd.func13, Tryd.ntmps13
  go_wp2_with fail
  rw [← HU.out]
  refine P1.out.mono ?_
  rintro e w1 ⟨s2, A3, n3, c3, A4, n4, c4, rfl, f2, _, _, b1⟩
  obtain ⟨u2, HU2, x2, xb2⟩ := boxes1 w1 (.bool s2) (.slice A3 n3 c3) (.slice A4 n4 c4) 24
  replace f2 := f2.below xb2
  have ub := bthen b1 xb2
  have k1 := x1.below ub
  have p0 := k1.c0
  have p1 := k1.c1
  have p2 := k1.c2
  rw [HU2.out] at p0 p1 p2
  clear b1 xb2
  go_wp2_with fail
  rw [← HU2.out]
  refine (P2.out _ ub).mono ?_
  rintro e w2 ⟨s3, A5, n5, c5, A6, n6, c6, rfl, f3, _, _, b1⟩
  obtain ⟨u3, HU3, x3, xb2⟩ := boxes1 w2 (.bool s3) (.slice A5 n5 c5) (.slice A6 n6 c6) 24
  replace f2 := (f2.below b1).below xb2
  replace x2 := (x2.below b1).below xb2
  replace f3 := f3.below xb2
  replace ub := bthen (bthen ub b1) xb2
  have k1 := x1.below ub
  have p0 := k1.c0
  have p1 := k1.c1
  have p2 := k1.c2
  rw [HU3.out] at p0 p1 p2
  clear b1 xb2
  go_wp2_with fail
  rw [← HU3.out]
  refine (P3.out _ ub).mono ?_
  rintro e w3 ⟨s4, A7, n7, c7, A8, n8, c8, rfl, f4, _, _, b1⟩
  obtain ⟨u4, HU4, x4, xb2⟩ := boxes1 w3 (.bool s4) (.slice A7 n7 c7) (.slice A8 n8 c8) 24
  replace f2 := (f2.below b1).below xb2
  replace x2 := (x2.below b1).below xb2
  replace f3 := (f3.below b1).below xb2
  replace x3 := (x3.below b1).below xb2
  replace f4 := f4.below xb2
  replace ub := bthen (bthen (bthen xb ub) b1) xb2
  have ln2 := f2.lens
  have ln3 := f3.lens
  have ln4 := f4.lens
  have hn3 : n3 ≤ 201 := by have := HPN.out; omega
  have hn4 : n4 ≤ 401 := by have := HPN.out; omega
  have hn5 : n5 ≤ 201 := by have := HPM.out; omega
  have hn6 : n6 ≤ 401 := by have := HPM.out; omega
  have hn7 : n7 ≤ 201 := by have := HPS.out; omega
  have hn8 : n8 ≤ 401 := by have := HPS.out; omega
  have HEQ : Hid (true = decide (q ^ N * q ^ M = q ^ (N + M))) := Lib.hid (decide_eq_true (qpow_add q N M)).symm
  replace HMM : Hid (ln (q ^ N * q ^ M) ≤ 1000 ∧ ld (q ^ N * q ^ M) ≤ 1000) := Lib.hid (by have := HMM.out; have := HPN.out; have := HPM.out; omega)
  obtain ⟨z, hz⟩ : ∃ z, z = q ^ N * q ^ M := ⟨_, rfl⟩
  rw [← hz] at HEQ HMM
  have HZ := Lib.hid hz
  have y2 := x2.drew
  have y3 := x3.drew
  have y4 := x4.drew
  have d2 := f2.rf.drew
  have d3 := f3.rf.drew
  have d4 := f4.below (below_drew (Below.refl _ u4))
  have db := below_drew ub
  clear hz b1 xb2 P1 P2 P3 p0 p1 p2 ln2 ln3 ln4 f2 f3 f4 ub k1 x1
  go_wp2_with fail
  rw [← HU4.out]
  go_region_held3 (fun w' => w'.cell? ⟨w1.heap.size, 0, none⟩ = some (.bool s2) ∧ w'.cell? ⟨w1.heap.size, 1, none⟩ = some (.slice A3 n3 c3) ∧ w'.cell? ⟨w1.heap.size, 2, none⟩ = some (.slice A4 n4 c4) ∧
      w'.cell? ⟨w2.heap.size, 0, none⟩ = some (.bool s3) ∧ w'.cell? ⟨w2.heap.size, 1, none⟩ = some (.slice A5 n5 c5) ∧ w'.cell? ⟨w2.heap.size, 2, none⟩ = some (.slice A6 n6 c6) ∧
      w'.cell? ⟨w3.heap.size, 0, none⟩ = some (.bool s4) ∧ w'.cell? ⟨w3.heap.size, 1, none⟩ = some (.slice A7 n7 c7) ∧ w'.cell? ⟨w3.heap.size, 2, none⟩ = some (.slice A8 n8 c8))
    (first | (with_reducible exact ⟨x2.c0, x2.c1, x2.c2, x3.c0, x3.c1, x3.c2, x4.c0, x4.c1, x4.c2⟩) | (with_reducible exact ⟨y2.c0, y2.c1, y2.c2, y3.c0, y3.c1, y3.c2, y4.c0, y4.c1, y4.c2⟩) | (with_reducible exact ⟨i2.c0, i2.c1, i2.c2, i3.c0, i3.c1, i3.c2, i4.c0, i4.c1, i4.c2⟩) | (with_reducible exact ⟨j2.c0, j2.c1, j2.c2, j3.c0, j3.c1, j3.c2, j4.c0, j4.c1, j4.c2⟩) | (with_reducible exact ⟨k2.c0, k2.c1, k2.c2, k3.c0, k3.c1, k3.c2, k4.c0, k4.c1, k4.c2⟩) | go_keep)
    (first
      | (go_at_call 58
         (with_reducible refine (Mul_any s2 s3 A3 A4 A5 A6 n3 n4 n5 n6 c3 c4 c5 c6 _ _ _ d2 d3 (by omega) (by omega) (by omega) (by omega)).mono ?_)
         rintro e w5 ⟨s5, A9, n9, c9, A10, n10, c10, rfl, g5, _, _, b5⟩
         rw [← HZ.out] at g5
         have hn9 : n9 ≤ 1000 := by have := g5.lens; have := HMM.out; omega
         have hn10 : n10 ≤ 1000 := by have := g5.lens; have := HMM.out; omega
         have i2 := y2.below b5
         have i3 := y3.below b5
         have i4 := y4.below b5
         have e4 := d4.below b5
         have eb := bthen db b5)
      | (go_at_call 22
         (with_reducible refine (SameFr_any s5 s4 A9 A10 A7 A8 n9 n10 n7 n8 c9 c10 c7 c8 _ _ _ g5 e4 (by omega) (by omega) (by omega) (by omega) true HEQ.out).mono ?_)
         rintro e w6 ⟨rfl, b6⟩
         have j2 := i2.below b6
         have j3 := i3.below b6
         have j4 := i4.below b6
         have jb := bthen eb b6
         have ht6 := ht.on jb)
      | (go_at_call 20
         (with_reducible refine (known_any _ ht6).mono ?_)
         rintro e w7 ⟨rfl, b7⟩
         have k2 := j2.below b7
         have k3 := j3.below b7
         have k4 := j4.below b7
         have kb := bthen jb b7))
  go_wp2_with fail
  go_ret
  exact ⟨rfl, kb⟩
theorem FracPowers_any (s1 : Bool) (A1 A2 : Option Addr) (n1 n2 c1 c2 : Nat) (q : Rat) (n m : Int) (w : World) (h : Rf w s1 A1 n1 c1 A2 n2 c2 q) (ht : Tab w) :
    Calls Tryd.prog 13 #[.agg #[.bool s1, .slice A1 n1 c1, .slice A2 n2 c2], .int .i64 n, .int .i64 m] w (ValPost (.bool true) w) := by
  by_cases hc : 1 < n1 ∨ 1 < n2 ∨ n < 0 ∨ 100 < n ∨ m < 0 ∨ 100 < m
  · exact FracPowers_no s1 A1 A2 n1 n2 c1 c2 n m w ht hc
  · have := FracPowers_yes s1 A1 A2 n1 n2 c1 c2 q n.toNat m.toNat w h ht (by omega) (by omega) (by omega) (by omega)
    rwa [Int.toNat_of_nonneg (by omega), Int.toNat_of_nonneg (by omega)] at this
end Go.Proofs.YtaahbabdbopphaaDoor
