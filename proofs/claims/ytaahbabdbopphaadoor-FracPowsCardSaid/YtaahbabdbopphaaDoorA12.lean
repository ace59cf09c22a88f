/- FracMuls: the walk. -/
import Derived.Test.YtaahbabdbopphaaDoorB0
import Derived.Test.YtaahbabdbopphaaDoorRB
import Derived.Test.YtaahbabdbopphaaDoorSM
namespace Go.Proofs.YtaahbabdbopphaaDoor
open Go.RowKit Mx
set_option maxRecDepth 100000

set_option maxHeartbeats 4000000 in
theorem FracMuls_no (s1 : Bool) (A1 A2 : Option Addr) (n1 n2 c1 c2 : Nat) (s2 : Bool) (A3 A4 : Option Addr) (n3 n4 c3 c4 : Nat) (w : World) (ht : Tab w) (h : 12 < n1 ∨ 12 < n2 ∨ 12 < n3 ∨ 12 < n4) :
    Calls Tryd.prog 12 #[.agg #[.bool s1, .slice A1 n1 c1, .slice A2 n2 c2], .agg #[.bool s2, .slice A3 n3 c3, .slice A4 n4 c4]] w (ValPost (.bool true) w) := by
  obtain ⟨u, HU, x1, x2, xb⟩ := boxes2 w (.bool s1) (.slice A1 n1 c1) (.slice A2 n2 c2) (.bool s2) (.slice A3 n3 c3) (.slice A4 n4 c4) 24 24
  obtain ⟨v, HV⟩ : ∃ v, Hid (v = u.alloc (.cells #[.bool s1, .slice A1 n1 c1, .slice A2 n2 c2, .bool s2, .slice A3 n3 c3, .slice A4 n4 c4] 24)) := ⟨_, rfl⟩
  have SM := Lib.hid (small_two (T := 24) (s1 := s1) (A1 := A1) (A2 := A2) (n1 := n1) (n2 := n2) (c1 := c1) (c2 := c2) (s2 := s2) (A3 := A3) (A4 := A4) (n3 := n3) (n4 := n4) (c3 := c3) (c4 := c4) u false (by rw [decide_eq_false]; omega))
  rw [← HV.out, show u.heap.size = w.heap.size + 1 + 1 from by rw [HU.out]; simp] at SM
  have xb := bthen xb (show Below u.heap.size u v by rw [HV.out]; exact below_alloc (Below.refl _ _) _)
  have x1p0 := x1.c0
  have x1p1 := x1.c1
  have x1p2 := x1.c2
  have x2p0 := x2.c0
  have x2p1 := x2.c1
  have x2p2 := x2.c2
  rw [HU.out] at x1p0 x1p1 x1p2 x2p0 x2p1 x2p2
  have ht2 := ht.on xb
  clear h
  go_enter Tryd.func12, Tryd.ntmps12
  go_wp2_with fail
  rw [← HU.out, ← HV.out]
  refine SM.out.mono ?_
  rintro e w1 ⟨rfl, hw⟩
  replace hw := hw.symm
  subst hw
  clear x1p0 x1p1 x1p2 x2p0 x2p1 x2p2
  go_wp2_with fail
  refine (known_any _ ht2).mono ?_
  rintro e w9 ⟨rfl, b9⟩
  go_wp2_with fail
  go_ret
  exact ⟨rfl, bthen xb b9⟩
theorem Fr.zero_ (w : World) : Fr w false none 0 0 none 0 0 0 :=
  ⟨by decide, by rw [show rn 0 = 0 from rfl, dig_zero]; exact ⟨rfl, Nat.le_refl _, Rd.nil_ _ _⟩, by rw [show rD 0 = 0 from rfl, dig_zero]; exact ⟨rfl, Nat.le_refl _, Rd.nil_ _ _⟩⟩

set_option maxHeartbeats 8000000 in
theorem FracMuls_zero (s1 : Bool) (A1 A2 : Option Addr) (n1 n2 c1 c2 : Nat) (s2 : Bool) (A3 A4 : Option Addr) (n3 n4 c3 c4 : Nat) (p q : Rat) (w : World) (h1 : Rf w s1 A1 n1 c1 A2 n2 c2 p) (h2 : Rf w s2 A3 n3 c3 A4 n4 c4 q) (ht : Tab w) (l1 : n1 ≤ 12) (l2 : n2 ≤ 12) (l3 : n3 ≤ 12) (l4 : n4 ≤ 12) (hz : q = 0) :
    Calls Tryd.prog 12 #[.agg #[.bool s1, .slice A1 n1 c1, .slice A2 n2 c2], .agg #[.bool s2, .slice A3 n3 c3, .slice A4 n4 c4]] w (ValPost (.bool true) w) := by
  have e1 := h1.len
  have e2 := h2.len
  have Lm : Hid (ln (p * q) ≤ 1000 ∧ ld (p * q) ≤ 1000) := Lib.hid (by have := ln_mul p q; omega)
  have Lz : Hid (ln ((0 : Rat)) ≤ 1000 ∧ ld ((0 : Rat)) ≤ 1000) := Lib.hid (by have := ln_zero; omega)
  have hrq : rn q = 0 := rn_zero.2 hz
  obtain ⟨kq, hkq, hk0⟩ : ∃ k, sgn q = k ∧ k = 0 := ⟨_, rfl, (sgn_zero_iff q).2 hz⟩
  subst hk0
  have HK := Lib.hid hkq
  have HRQ := Lib.hid hrq
  have HZ := Lib.hid hz
  clear e1 e2 hkq hrq hz
  obtain ⟨u, HU, x1, x2, xb⟩ := boxes2 w (.bool s1) (.slice A1 n1 c1) (.slice A2 n2 c2) (.bool s2) (.slice A3 n3 c3) (.slice A4 n4 c4) 24 24
  obtain ⟨v, HV⟩ : ∃ v, Hid (v = u.alloc (.cells #[.bool s1, .slice A1 n1 c1, .slice A2 n2 c2, .bool s2, .slice A3 n3 c3, .slice A4 n4 c4] 24)) := ⟨_, rfl⟩
  have SM := Lib.hid (small_two (T := 24) (s1 := s1) (A1 := A1) (A2 := A2) (n1 := n1) (n2 := n2) (c1 := c1) (c2 := c2) (s2 := s2) (A3 := A3) (A4 := A4) (n3 := n3) (n4 := n4) (c3 := c3) (c4 := c4) u true (by rw [decide_eq_true]; omega))
  rw [← HV.out, show u.heap.size = w.heap.size + 1 + 1 from by rw [HU.out]; simp] at SM
  have vb : Below u.heap.size u v := by rw [HV.out]; exact below_alloc (Below.refl _ _) _
  have x1p0 := x1.c0
  have x1p1 := x1.c1
  have x1p2 := x1.c2
  have x2p0 := x2.c0
  have x2p1 := x2.c1
  have x2p2 := x2.c2
  rw [HU.out] at x1p0 x1p1 x1p2 x2p0 x2p1 x2p2
  replace h1 := (h1.below xb).below vb
  replace h2 := (h2.below xb).below vb
  replace x1 := x1.below vb
  replace x2 := x2.below vb
  replace xb := bthen xb vb
  have uu := Below.refl v.heap.size v
  go_enter Tryd.func12, Tryd.ntmps12
  go_wp2_with fail
  rw [← HU.out, ← HV.out]
  refine SM.out.mono ?_
  rintro e w1 ⟨rfl, hw⟩
  replace hw := hw.symm
  subst hw
  clear x1p0 x1p1 x1p2 x2p0 x2p1 x2p2 SM vb
  have x1p0 := x1.c0
  have x1p1 := x1.c1
  have x1p2 := x1.c2
  have x2p0 := x2.c0
  have x2p1 := x2.c1
  have x2p2 := x2.c2
  go_wp2_with fail
  refine (Div_zero s1 s2 A1 A2 A3 A4 n1 n2 n3 n4 c1 c2 c3 c4 p q _ h1 h2 (by omega) (by omega) (by omega) (by omega) HRQ.out).mono ?_
  rintro e w3 ⟨s3, A5, n5, c5, A6, n6, c6, rfl, f3, _, _, b5⟩
  obtain ⟨u3, HU3, x3, xb3⟩ := boxes1 w3 (.bool s3) (.slice A5 n5 c5) (.slice A6 n6 c6) 24
  clear x1p0 x1p1 x1p2 x2p0 x2p1 x2p2
  replace x1 := x1.below b5
  replace x2 := x2.below b5
  replace h1 := h1.below b5
  replace h2 := h2.below b5
  replace xb := bthen xb b5
  replace x1 := x1.below xb3
  replace x2 := x2.below xb3
  replace h1 := h1.below xb3
  replace h2 := h2.below xb3
  replace f3 := f3.below xb3
  replace xb := bthen xb xb3
  have hn5 : n5 ≤ 1000 := by have := f3.lens; have := Lz.out; omega
  have hn6 : n6 ≤ 1000 := by have := f3.lens; have := Lz.out; omega
  have y1 := x1.drew
  have y2 := x2.drew
  have y3 := x3.drew
  have g1 := h1.drew
  have g2 := h2.drew
  have g3 := f3.below (below_drew (Below.refl _ u3))
  have yu := below_drew xb
  go_wp2_with fail
  rw [← HU3.out]
  go_region_held3 (fun w' => w'.cell? ⟨w.heap.size, 0, none⟩ = some (.bool s1) ∧ w'.cell? ⟨w.heap.size, 1, none⟩ = some (.slice A1 n1 c1) ∧ w'.cell? ⟨w.heap.size, 2, none⟩ = some (.slice A2 n2 c2) ∧ w'.cell? ⟨w.heap.size + 1, 0, none⟩ = some (.bool s2) ∧ w'.cell? ⟨w.heap.size + 1, 1, none⟩ = some (.slice A3 n3 c3) ∧ w'.cell? ⟨w.heap.size + 1, 2, none⟩ = some (.slice A4 n4 c4))
    (first | (with_reducible exact ⟨x1.c0, x1.c1, x1.c2, x2.c0, x2.c1, x2.c2⟩) | (with_reducible exact ⟨y1.c0, y1.c1, y1.c2, y2.c0, y2.c1, y2.c2⟩) | go_keep)
    (first
      | (go_at_call 58
         (with_reducible refine (Mul_any s1 s2 A1 A2 A3 A4 n1 n2 n3 n4 c1 c2 c3 c4 p q _ g1 g2 (by omega) (by omega) (by omega) (by omega)).mono ?_)
         rintro e w5 ⟨s4, A7, n7, c7, A8, n8, c8, rfl, f4, _, _, b5⟩
         replace y1 := y1.below b5
         replace y2 := y2.below b5
         replace y3 := y3.below b5
         replace g1 := g1.below b5
         replace g2 := g2.below b5
         replace g3 := g3.below b5
         replace yu := bthen yu b5
         have hn7 : n7 ≤ 1000 := by have := f4.lens; have := Lm.out; omega
         have hn8 : n8 ≤ 1000 := by have := f4.lens; have := Lm.out; omega)
      | (go_at_call 37
         (with_reducible refine (rMul_any s1 A1 A2 n1 n2 c1 c2 s2 A3 A4 n3 n4 c3 c4 p q _ g1 g2 (by omega) (by omega) (by omega) (by omega)).mono ?_)
         rintro e w5 ⟨s5, A9, n9, c9, A10, n10, c10, rfl, f5, _, _, b5⟩
         replace y1 := y1.below b5
         replace y2 := y2.below b5
         replace y3 := y3.below b5
         replace g1 := g1.below b5
         replace g2 := g2.below b5
         replace g3 := g3.below b5
         replace f4 := f4.below b5
         replace yu := bthen yu b5
         have hn9 : n9 ≤ 1000 := by have := f5.lens; have := Lm.out; omega
         have hn10 : n10 ≤ 1000 := by have := f5.lens; have := Lm.out; omega)
      | (go_at_call 22
         (with_reducible refine (SameFr_any s4 s5 A7 A8 A9 A10 n7 n8 n9 n10 c7 c8 c9 c10 _ _ _ f4 f5 (by omega) (by omega) (by omega) (by omega) true (decide_eq_true rfl).symm).mono ?_)
         rintro e w5 ⟨rfl, b5⟩
         replace y1 := y1.below b5
         replace y2 := y2.below b5
         replace y3 := y3.below b5
         replace g1 := g1.below b5
         replace g2 := g2.below b5
         replace g3 := g3.below b5
         replace yu := bthen yu b5
         have htx := ht.on yu))
  have x1 := y1
  have x2 := y2
  have x3 := y3
  have h1 := g1
  have h2 := g2
  have f3 := g3
  have xb := yu
  clear y1 y2 y3 g1 g2 g3 yu
  have x1p0 := x1.c0
  have x1p1 := x1.c1
  have x1p2 := x1.c2
  have x2p0 := x2.c0
  have x2p1 := x2.c1
  have x2p2 := x2.c2
  go_wp2_with fail
  refine (sgn_eq (rSign_any s2 A3 A4 n3 n4 c3 c4 q _ h2 (by omega) (by omega)) HK.out).mono ?_
  rintro e w4 ⟨rfl, b5⟩
  clear x1p0 x1p1 x1p2 x2p0 x2p1 x2p2
  replace x3 := x3.below b5
  replace f3 := f3.below b5
  replace xb := bthen xb b5
  have x3p0 := x3.c0
  have x3p1 := x3.c1
  have x3p2 := x3.c2
  have S0 := Lib.hid (SameFr_any s3 false A5 A6 none none n5 n6 0 0 c5 c6 0 0 0 0 w4 f3 (Fr.zero_ w4) (by omega) (by omega) (by omega) (by omega) true (decide_eq_true rfl).symm)
  go_wp2_with fail
  refine S0.out.mono ?_
  rintro e w5 ⟨rfl, b5⟩
  replace xb := bthen xb b5
  have htx := ht.on xb
  go_wp2_with fail
  refine (known_any _ htx).mono ?_
  rintro e w6 ⟨rfl, b6⟩
  go_wp2_with fail
  go_ret
  exact ⟨rfl, bthen xb b6⟩

set_option maxHeartbeats 8000000 in
theorem FracMuls_yes (s1 : Bool) (A1 A2 : Option Addr) (n1 n2 c1 c2 : Nat) (s2 : Bool) (A3 A4 : Option Addr) (n3 n4 c3 c4 : Nat) (p q : Rat) (w : World) (h1 : Rf w s1 A1 n1 c1 A2 n2 c2 p) (h2 : Rf w s2 A3 n3 c3 A4 n4 c4 q) (ht : Tab w) (l1 : n1 ≤ 12) (l2 : n2 ≤ 12) (l3 : n3 ≤ 12) (l4 : n4 ≤ 12) (hz : q ≠ 0) :
    Calls Tryd.prog 12 #[.agg #[.bool s1, .slice A1 n1 c1, .slice A2 n2 c2], .agg #[.bool s2, .slice A3 n3 c3, .slice A4 n4 c4]] w (ValPost (.bool true) w) := by
  have e1 := h1.len
  have e2 := h2.len
  have Lm : Hid (ln (p * q) ≤ 1000 ∧ ld (p * q) ≤ 1000) := Lib.hid (by have := ln_mul p q; omega)
  have Lz : Hid (ln ((0 : Rat)) ≤ 1000 ∧ ld ((0 : Rat)) ≤ 1000) := Lib.hid (by have := ln_zero; omega)
  have hrq : rn q ≠ 0 := fun e => hz (rn_zero.1 e)
  have Ld : Hid (ln (p / q) ≤ 1000 ∧ ld (p / q) ≤ 1000) := Lib.hid (by rw [Rat.div_def]; have := ln_mul p q⁻¹; have := ln_inv hrq; omega)
  obtain ⟨kq, hkq, hk0⟩ : ∃ k, sgn q = k ∧ (k == 0) = false := ⟨_, rfl, beq_eq_false_iff_ne.2 (fun e => hz ((sgn_zero_iff q).1 e))⟩
  have HK := Lib.hid hkq
  have HRQ := Lib.hid hrq
  have HZ := Lib.hid hz
  clear e1 e2 hkq hrq hz
  obtain ⟨u, HU, x1, x2, xb⟩ := boxes2 w (.bool s1) (.slice A1 n1 c1) (.slice A2 n2 c2) (.bool s2) (.slice A3 n3 c3) (.slice A4 n4 c4) 24 24
  obtain ⟨v, HV⟩ : ∃ v, Hid (v = u.alloc (.cells #[.bool s1, .slice A1 n1 c1, .slice A2 n2 c2, .bool s2, .slice A3 n3 c3, .slice A4 n4 c4] 24)) := ⟨_, rfl⟩
  have SM := Lib.hid (small_two (T := 24) (s1 := s1) (A1 := A1) (A2 := A2) (n1 := n1) (n2 := n2) (c1 := c1) (c2 := c2) (s2 := s2) (A3 := A3) (A4 := A4) (n3 := n3) (n4 := n4) (c3 := c3) (c4 := c4) u true (by rw [decide_eq_true]; omega))
  rw [← HV.out, show u.heap.size = w.heap.size + 1 + 1 from by rw [HU.out]; simp] at SM
  have vb : Below u.heap.size u v := by rw [HV.out]; exact below_alloc (Below.refl _ _) _
  have x1p0 := x1.c0
  have x1p1 := x1.c1
  have x1p2 := x1.c2
  have x2p0 := x2.c0
  have x2p1 := x2.c1
  have x2p2 := x2.c2
  rw [HU.out] at x1p0 x1p1 x1p2 x2p0 x2p1 x2p2
  replace h1 := (h1.below xb).below vb
  replace h2 := (h2.below xb).below vb
  replace x1 := x1.below vb
  replace x2 := x2.below vb
  replace xb := bthen xb vb
  have uu := Below.refl v.heap.size v
  go_enter Tryd.func12, Tryd.ntmps12
  go_wp2_with fail
  rw [← HU.out, ← HV.out]
  refine SM.out.mono ?_
  rintro e w1 ⟨rfl, hw⟩
  replace hw := hw.symm
  subst hw
  clear x1p0 x1p1 x1p2 x2p0 x2p1 x2p2 SM vb
  have x1p0 := x1.c0
  have x1p1 := x1.c1
  have x1p2 := x1.c2
  have x2p0 := x2.c0
  have x2p1 := x2.c1
  have x2p2 := x2.c2
  go_wp2_with fail
  refine (Div_yes s1 s2 A1 A2 A3 A4 n1 n2 n3 n4 c1 c2 c3 c4 p q _ h1 h2 (by omega) (by omega) (by omega) (by omega) HRQ.out).mono ?_
  rintro e w3 ⟨s3, A5, n5, c5, A6, n6, c6, rfl, f3, _, _, b5⟩
  obtain ⟨u3, HU3, x3, xb3⟩ := boxes1 w3 (.bool s3) (.slice A5 n5 c5) (.slice A6 n6 c6) 24
  clear x1p0 x1p1 x1p2 x2p0 x2p1 x2p2
  replace x1 := x1.below b5
  replace x2 := x2.below b5
  replace h1 := h1.below b5
  replace h2 := h2.below b5
  replace xb := bthen xb b5
  replace x1 := x1.below xb3
  replace x2 := x2.below xb3
  replace h1 := h1.below xb3
  replace h2 := h2.below xb3
  replace f3 := f3.below xb3
  replace xb := bthen xb xb3
  have hn5 : n5 ≤ 1000 := by have := f3.lens; have := Ld.out; omega
  have hn6 : n6 ≤ 1000 := by have := f3.lens; have := Ld.out; omega
  have y1 := x1.drew
  have y2 := x2.drew
  have y3 := x3.drew
  have g1 := h1.drew
  have g2 := h2.drew
  have g3 := f3.below (below_drew (Below.refl _ u3))
  have yu := below_drew xb
  go_wp2_with fail
  rw [← HU3.out]
  go_region_held3 (fun w' => w'.cell? ⟨w.heap.size, 0, none⟩ = some (.bool s1) ∧ w'.cell? ⟨w.heap.size, 1, none⟩ = some (.slice A1 n1 c1) ∧ w'.cell? ⟨w.heap.size, 2, none⟩ = some (.slice A2 n2 c2) ∧ w'.cell? ⟨w.heap.size + 1, 0, none⟩ = some (.bool s2) ∧ w'.cell? ⟨w.heap.size + 1, 1, none⟩ = some (.slice A3 n3 c3) ∧ w'.cell? ⟨w.heap.size + 1, 2, none⟩ = some (.slice A4 n4 c4))
    (first | (with_reducible exact ⟨x1.c0, x1.c1, x1.c2, x2.c0, x2.c1, x2.c2⟩) | (with_reducible exact ⟨y1.c0, y1.c1, y1.c2, y2.c0, y2.c1, y2.c2⟩) | go_keep)
    (first
      | (go_at_call 58
         (with_reducible refine (Mul_any s1 s2 A1 A2 A3 A4 n1 n2 n3 n4 c1 c2 c3 c4 p q _ g1 g2 (by omega) (by omega) (by omega) (by omega)).mono ?_)
         rintro e w5 ⟨s4, A7, n7, c7, A8, n8, c8, rfl, f4, _, _, b5⟩
         replace y1 := y1.below b5
         replace y2 := y2.below b5
         replace y3 := y3.below b5
         replace g1 := g1.below b5
         replace g2 := g2.below b5
         replace g3 := g3.below b5
         replace yu := bthen yu b5
         have hn7 : n7 ≤ 1000 := by have := f4.lens; have := Lm.out; omega
         have hn8 : n8 ≤ 1000 := by have := f4.lens; have := Lm.out; omega)
      | (go_at_call 37
         (with_reducible refine (rMul_any s1 A1 A2 n1 n2 c1 c2 s2 A3 A4 n3 n4 c3 c4 p q _ g1 g2 (by omega) (by omega) (by omega) (by omega)).mono ?_)
         rintro e w5 ⟨s5, A9, n9, c9, A10, n10, c10, rfl, f5, _, _, b5⟩
         replace y1 := y1.below b5
         replace y2 := y2.below b5
         replace y3 := y3.below b5
         replace g1 := g1.below b5
         replace g2 := g2.below b5
         replace g3 := g3.below b5
         replace f4 := f4.below b5
         replace yu := bthen yu b5
         have hn9 : n9 ≤ 1000 := by have := f5.lens; have := Lm.out; omega
         have hn10 : n10 ≤ 1000 := by have := f5.lens; have := Lm.out; omega)
      | (go_at_call 22
         (with_reducible refine (SameFr_any s4 s5 A7 A8 A9 A10 n7 n8 n9 n10 c7 c8 c9 c10 _ _ _ f4 f5 (by omega) (by omega) (by omega) (by omega) true (decide_eq_true rfl).symm).mono ?_)
         rintro e w5 ⟨rfl, b5⟩
         replace y1 := y1.below b5
         replace y2 := y2.below b5
         replace y3 := y3.below b5
         replace g1 := g1.below b5
         replace g2 := g2.below b5
         replace g3 := g3.below b5
         replace yu := bthen yu b5
         have htx := ht.on yu))
  have x1 := y1
  have x2 := y2
  have x3 := y3
  have h1 := g1
  have h2 := g2
  have f3 := g3
  have xb := yu
  clear y1 y2 y3 g1 g2 g3 yu
  have x1p0 := x1.c0
  have x1p1 := x1.c1
  have x1p2 := x1.c2
  have x2p0 := x2.c0
  have x2p1 := x2.c1
  have x2p2 := x2.c2
  go_wp2_with fail
  refine (sgn_eq (rSign_any s2 A3 A4 n3 n4 c3 c4 q _ h2 (by omega) (by omega)) HK.out).mono ?_
  rintro e w4 ⟨rfl, b5⟩
  clear x1p0 x1p1 x1p2 x2p0 x2p1 x2p2
  replace x1 := x1.below b5
  replace x2 := x2.below b5
  replace x3 := x3.below b5
  replace h1 := h1.below b5
  replace h2 := h2.below b5
  replace f3 := f3.below b5
  replace xb := bthen xb b5
  have y1 := x1.drew
  have y2 := x2.drew
  have y3 := x3.drew
  have g1 := h1.drew
  have g2 := h2.drew
  have g3 := f3.below (below_drew (Below.refl _ w4))
  have yu := below_drew xb
  go_wp2_with fail
  go_region_held3 (fun w' => w'.cell? ⟨w.heap.size, 0, none⟩ = some (.bool s1) ∧ w'.cell? ⟨w.heap.size, 1, none⟩ = some (.slice A1 n1 c1) ∧ w'.cell? ⟨w.heap.size, 2, none⟩ = some (.slice A2 n2 c2) ∧ w'.cell? ⟨w.heap.size + 1, 0, none⟩ = some (.bool s2) ∧ w'.cell? ⟨w.heap.size + 1, 1, none⟩ = some (.slice A3 n3 c3) ∧ w'.cell? ⟨w.heap.size + 1, 2, none⟩ = some (.slice A4 n4 c4) ∧ w'.cell? ⟨w3.heap.size, 0, none⟩ = some (.bool s3) ∧ w'.cell? ⟨w3.heap.size, 1, none⟩ = some (.slice A5 n5 c5) ∧ w'.cell? ⟨w3.heap.size, 2, none⟩ = some (.slice A6 n6 c6))
    (first | (with_reducible exact ⟨x1.c0, x1.c1, x1.c2, x2.c0, x2.c1, x2.c2, x3.c0, x3.c1, x3.c2⟩) | (with_reducible exact ⟨y1.c0, y1.c1, y1.c2, y2.c0, y2.c1, y2.c2, y3.c0, y3.c1, y3.c2⟩) | go_keep)
    (first
      | (go_at_call 49
         (with_reducible refine (rDiv_any s1 A1 A2 n1 n2 c1 c2 s2 A3 A4 n3 n4 c3 c4 p q _ g1 g2 (by omega) (by omega) (by omega) (by omega) HZ.out).mono ?_)
         rintro e w5 ⟨s4, A7, n7, c7, A8, n8, c8, rfl, f4, _, _, b5⟩
         replace y1 := y1.below b5
         replace y2 := y2.below b5
         replace y3 := y3.below b5
         replace g1 := g1.below b5
         replace g2 := g2.below b5
         replace g3 := g3.below b5
         replace yu := bthen yu b5
         have hn7 : n7 ≤ 1000 := by have := f4.lens; have := Ld.out; omega
         have hn8 : n8 ≤ 1000 := by have := f4.lens; have := Ld.out; omega)
      | (go_at_call 22
         (with_reducible refine (SameFr_any s3 s4 A5 A6 A7 A8 n5 n6 n7 n8 c5 c6 c7 c8 _ _ _ g3 f4 (by omega) (by omega) (by omega) (by omega) true (decide_eq_true rfl).symm).mono ?_)
         rintro e w5 ⟨rfl, b5⟩
         replace y1 := y1.below b5
         replace y2 := y2.below b5
         replace y3 := y3.below b5
         replace g1 := g1.below b5
         replace g2 := g2.below b5
         replace g3 := g3.below b5
         replace yu := bthen yu b5
         have htx := ht.on yu)
      | (go_at_call 20
         (with_reducible refine (known_any _ htx).mono ?_)
         rintro e w5 ⟨rfl, b5⟩
         replace y1 := y1.below b5
         replace y2 := y2.below b5
         replace y3 := y3.below b5
         replace yu := bthen yu b5))
  go_wp2_with fail
  go_ret
  exact ⟨rfl, yu⟩
theorem FracMuls_any (s1 : Bool) (A1 A2 : Option Addr) (n1 n2 c1 c2 : Nat) (s2 : Bool) (A3 A4 : Option Addr) (n3 n4 c3 c4 : Nat) (p q : Rat) (w : World) (h1 : Rf w s1 A1 n1 c1 A2 n2 c2 p) (h2 : Rf w s2 A3 n3 c3 A4 n4 c4 q) (ht : Tab w) :
    Calls Tryd.prog 12 #[.agg #[.bool s1, .slice A1 n1 c1, .slice A2 n2 c2], .agg #[.bool s2, .slice A3 n3 c3, .slice A4 n4 c4]] w (ValPost (.bool true) w) := by
  by_cases hc : 12 < n1 ∨ 12 < n2 ∨ 12 < n3 ∨ 12 < n4
  · exact FracMuls_no s1 A1 A2 n1 n2 c1 c2 s2 A3 A4 n3 n4 c3 c4 w ht hc
  by_cases hz : q = 0
  · exact FracMuls_zero s1 A1 A2 n1 n2 c1 c2 s2 A3 A4 n3 n4 c3 c4 p q w h1 h2 ht (by omega) (by omega) (by omega) (by omega) hz
  · exact FracMuls_yes s1 A1 A2 n1 n2 c1 c2 s2 A3 A4 n3 n4 c3 c4 p q w h1 h2 ht (by omega) (by omega) (by omega) (by omega) hz
end Go.Proofs.YtaahbabdbopphaaDoor
