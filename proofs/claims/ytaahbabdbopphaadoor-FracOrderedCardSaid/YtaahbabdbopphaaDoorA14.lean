/- FracOrdered: the walk. -/
import Derived.Test.YtaahbabdbopphaaDoorB0
namespace Go.Proofs.YtaahbabdbopphaaDoor
open Go.RowKit Mx
set_option maxRecDepth 100000


set_option maxHeartbeats 4000000 in
theorem FracOrdered_no (s1 : Bool) (A1 A2 : Option Addr) (n1 n2 c1 c2 : Nat) (s2 : Bool) (A3 A4 : Option Addr) (n3 n4 c3 c4 : Nat) (s3 : Bool) (A5 A6 : Option Addr) (n5 n6 c5 c6 : Nat) (w : World) (ht : Tab w) (h : 6 < n1 ∨ 6 < n2 ∨ 6 < n3 ∨ 6 < n4 ∨ 6 < n5 ∨ 6 < n6) :
    Calls Tryd.prog 14 #[.agg #[.bool s1, .slice A1 n1 c1, .slice A2 n2 c2], .agg #[.bool s2, .slice A3 n3 c3, .slice A4 n4 c4], .agg #[.bool s3, .slice A5 n5 c5, .slice A6 n6 c6]] w (ValPost (.bool true) w) := by
  obtain ⟨u, HU, x1, x2, x3, xb⟩ := boxes3 w (.bool s1) (.slice A1 n1 c1) (.slice A2 n2 c2) (.bool s2) (.slice A3 n3 c3) (.slice A4 n4 c4) (.bool s3) (.slice A5 n5 c5) (.slice A6 n6 c6) 24 24 24
  have x1p0 := x1.c0
  have x1p1 := x1.c1
  have x1p2 := x1.c2
  have x2p0 := x2.c0
  have x2p1 := x2.c1
  have x2p2 := x2.c2
  have x3p0 := x3.c0
  have x3p1 := x3.c1
  have x3p2 := x3.c2
  rw [HU.out] at x1p0 x1p1 x1p2 x2p0 x2p1 x2p2 x3p0 x3p1 x3p2
  have ht2 := ht.on xb
  have HH := Lib.hid h
  clear h
  go_enter Tryd.func14, Tryd.ntmps14
  go_wp2_with fail
  all_goals first
    | (exfalso; have := HH.out; omega)
    | skip
  all_goals
    rw [← HU.out]
    refine (known_any _ ht2).mono ?_
    rintro e w9 ⟨rfl, b9⟩
    go_wp2_with fail
    go_ret
    exact ⟨rfl, bthen xb b9⟩

set_option maxHeartbeats 8000000 in
theorem FracOrdered_a (s1 : Bool) (A1 A2 : Option Addr) (n1 n2 c1 c2 : Nat) (s2 : Bool) (A3 A4 : Option Addr) (n3 n4 c3 c4 : Nat) (s3 : Bool) (A5 A6 : Option Addr) (n5 n6 c5 c6 : Nat) (p q r : Rat) (k2 k3 kc : Int) (j2 : k2 ≤ 0) (j3 : k3 ≤ 0) (w : World) (h1 : Rf w s1 A1 n1 c1 A2 n2 c2 p) (h2 : Rf w s2 A3 n3 c3 A4 n4 c4 q) (h3 : Rf w s3 A5 n5 c5 A6 n6 c6 r) (ht : Tab w)
    (l1 : n1 ≤ 6) (l2 : n2 ≤ 6) (l3 : n3 ≤ 6) (l4 : n4 ≤ 6) (l5 : n5 ≤ 6) (l6 : n6 ≤ 6)
    (EC12 : Hid (sgn (p - q) = 0)) (EC23 : Hid (sgn (q - r) = k2)) (EC13 : Hid (sgn (p - r) = k3)) (EC : Hid (sgn r = kc)) (EB : Hid (true = decide (p = q))) (hkc : -1 ≤ kc ∧ kc ≤ 1) :
    Calls Tryd.prog 14 #[.agg #[.bool s1, .slice A1 n1 c1, .slice A2 n2 c2], .agg #[.bool s2, .slice A3 n3 c3, .slice A4 n4 c4], .agg #[.bool s3, .slice A5 n5 c5, .slice A6 n6 c6]] w (ValPost (.bool true) w) := by
  have EC11 : Hid (sgn (p - p) = 0) := Lib.hid (sgn_self p)
  have hp := h1.len
  have hq := h2.len
  have hr := h3.len
  have HLs1 : Hid (ln (p + r) ≤ 1000 ∧ ld (p + r) ≤ 1000) := Lib.hid (by have := ln_add p r; omega)
  have HLs2 : Hid (ln (q + r) ≤ 1000 ∧ ld (q + r) ≤ 1000) := Lib.hid (by have := ln_add q r; omega)
  have HLm1 : Hid (ln (p * r) ≤ 1000 ∧ ld (p * r) ≤ 1000) := Lib.hid (by have := ln_mul p r; omega)
  have HLm2 : Hid (ln (q * r) ≤ 1000 ∧ ld (q * r) ≤ 1000) := Lib.hid (by have := ln_mul q r; omega)
  have HLp : Hid (ln p ≤ 1000 ∧ ld p ≤ 1000) := Lib.hid (by omega)
  have HLq : Hid (ln q ≤ 1000 ∧ ld q ≤ 1000) := Lib.hid (by omega)
  have ES : Hid (sgn ((p + r) - (q + r)) = 0) := Lib.hid (by rw [sgn_add_right, EC12.out])
  obtain ⟨k8, hk8⟩ : ∃ k8, Hid (k8 = 0 * kc) := ⟨_, rfl⟩
  have EM : Hid (sgn (p * r - q * r) = k8) := Lib.hid (by rw [sgn_mul_right, EC12.out, EC.out, hk8.out])
  have hk80 : Hid (k8 = 0) := Lib.hid (by rw [hk8.out, Int.zero_mul])
  rw [hk80.out] at EM
  obtain ⟨u, HU, x1, x2, x3, xb⟩ := boxes3 w (.bool s1) (.slice A1 n1 c1) (.slice A2 n2 c2) (.bool s2) (.slice A3 n3 c3) (.slice A4 n4 c4) (.bool s3) (.slice A5 n5 c5) (.slice A6 n6 c6) 24 24 24
  replace h1 := h1.below xb
  replace h2 := h2.below xb
  replace h3 := h3.below xb
  have C12 : Hid (∀ w', Below u.heap.size u w' → Calls Tryd.prog 51 #[.agg #[.bool s1, .slice A1 n1 c1, .slice A2 n2 c2], .agg #[.bool s2, .slice A3 n3 c3, .slice A4 n4 c4]] w' (ValPost (.int .i64 0) w')) := Lib.hid (fun w' hb => by
    have := Cmp_any s1 s2 A1 A2 A3 A4 n1 n2 n3 n4 c1 c2 c3 c4 p q w' (h1.below hb) (h2.below hb) (by omega) (by omega) (by omega) (by omega)
    rwa [EC12.out] at this)
  have C23 : Hid (∀ w', Below u.heap.size u w' → Calls Tryd.prog 51 #[.agg #[.bool s2, .slice A3 n3 c3, .slice A4 n4 c4], .agg #[.bool s3, .slice A5 n5 c5, .slice A6 n6 c6]] w' (ValPost (.int .i64 k2) w')) := Lib.hid (fun w' hb => by
    have := Cmp_any s2 s3 A3 A4 A5 A6 n3 n4 n5 n6 c3 c4 c5 c6 q r w' (h2.below hb) (h3.below hb) (by omega) (by omega) (by omega) (by omega)
    rwa [EC23.out] at this)
  have C13 : Hid (∀ w', Below u.heap.size u w' → Calls Tryd.prog 51 #[.agg #[.bool s1, .slice A1 n1 c1, .slice A2 n2 c2], .agg #[.bool s3, .slice A5 n5 c5, .slice A6 n6 c6]] w' (ValPost (.int .i64 k3) w')) := Lib.hid (fun w' hb => by
    have := Cmp_any s1 s3 A1 A2 A5 A6 n1 n2 n5 n6 c1 c2 c5 c6 p r w' (h1.below hb) (h3.below hb) (by omega) (by omega) (by omega) (by omega)
    rwa [EC13.out] at this)
  have C11 : Hid (∀ w', Below u.heap.size u w' → Calls Tryd.prog 51 #[.agg #[.bool s1, .slice A1 n1 c1, .slice A2 n2 c2], .agg #[.bool s1, .slice A1 n1 c1, .slice A2 n2 c2]] w' (ValPost (.int .i64 0) w')) := Lib.hid (fun w' hb => by
    have := Cmp_any s1 s1 A1 A2 A1 A2 n1 n2 n1 n2 c1 c2 c1 c2 p p w' (h1.below hb) (h1.below hb) (by omega) (by omega) (by omega) (by omega)
    rwa [EC11.out] at this)
  have CS : Hid (∀ w', Below u.heap.size u w' → Calls Tryd.prog 50 #[.agg #[.bool s3, .slice A5 n5 c5, .slice A6 n6 c6]] w' (ValPost (.int .i64 kc) w')) := Lib.hid (fun w' hb => by
    have := Sign_any s3 A5 A6 n5 n6 c5 c6 r w' (h3.below hb) (by omega) (by omega)
    rwa [EC.out] at this)
  have uu := Below.refl u.heap.size u
  have x1p0 := x1.c0
  have x1p1 := x1.c1
  have x1p2 := x1.c2
  have x2p0 := x2.c0
  have x2p1 := x2.c1
  have x2p2 := x2.c2
  have x3p0 := x3.c0
  have x3p1 := x3.c1
  have x3p2 := x3.c2
  rw [HU.out] at x1p0 x1p1 x1p2 x2p0 x2p1 x2p2 x3p0 x3p1 x3p2
  clear hp hq hr
  go_enter Tryd.func14, Tryd.ntmps14
  go_wp2_with fail
  rw [← HU.out]
  refine (C12.out _ uu).mono ?_
  rintro e w1 ⟨rfl, b1⟩
  clear x1p0 x1p1 x1p2 x2p0 x2p1 x2p2 x3p0 x3p1 x3p2
  replace x1 := x1.below b1
  replace x2 := x2.below b1
  replace x3 := x3.below b1
  replace h1 := h1.below b1
  replace h2 := h2.below b1
  replace h3 := h3.below b1
  replace uu := bthen uu b1
  have x1p0 := x1.c0
  have x1p1 := x1.c1
  have x1p2 := x1.c2
  have x2p0 := x2.c0
  have x2p1 := x2.c1
  have x2p2 := x2.c2
  have x3p0 := x3.c0
  have x3p1 := x3.c1
  have x3p2 := x3.c2
  go_wp2_with fail
  refine (C23.out _ uu).mono ?_
  rintro e w1 ⟨rfl, b1⟩
  clear x1p0 x1p1 x1p2 x2p0 x2p1 x2p2 x3p0 x3p1 x3p2
  replace x1 := x1.below b1
  replace x2 := x2.below b1
  replace x3 := x3.below b1
  replace h1 := h1.below b1
  replace h2 := h2.below b1
  replace h3 := h3.below b1
  replace uu := bthen uu b1
  have x1p0 := x1.c0
  have x1p1 := x1.c1
  have x1p2 := x1.c2
  have x2p0 := x2.c0
  have x2p1 := x2.c1
  have x2p2 := x2.c2
  have x3p0 := x3.c0
  have x3p1 := x3.c1
  have x3p2 := x3.c2
  go_wp2_with fail
  refine (C13.out _ uu).mono ?_
  rintro e w1 ⟨rfl, b1⟩
  clear x1p0 x1p1 x1p2 x2p0 x2p1 x2p2 x3p0 x3p1 x3p2
  replace x1 := x1.below b1
  replace x2 := x2.below b1
  replace x3 := x3.below b1
  replace h1 := h1.below b1
  replace h2 := h2.below b1
  replace h3 := h3.below b1
  replace uu := bthen uu b1
  have x1p0 := x1.c0
  have x1p1 := x1.c1
  have x1p2 := x1.c2
  have x2p0 := x2.c0
  have x2p1 := x2.c1
  have x2p2 := x2.c2
  have x3p0 := x3.c0
  have x3p1 := x3.c1
  have x3p2 := x3.c2
  clear x1p0 x1p1 x1p2 x2p0 x2p1 x2p2 x3p0 x3p1 x3p2
  have y1 := x1.drew
  have g1 := h1.drew
  have y2 := x2.drew
  have g2 := h2.drew
  have y3 := x3.drew
  have g3 := h3.drew
  have yu := below_drew uu
  go_wp2_with fail
  go_region_held3 (fun w' => w'.cell? ⟨w.heap.size, 0, none⟩ = some (.bool s1) ∧ w'.cell? ⟨w.heap.size, 1, none⟩ = some (.slice A1 n1 c1) ∧ w'.cell? ⟨w.heap.size, 2, none⟩ = some (.slice A2 n2 c2) ∧ w'.cell? ⟨w.heap.size + 1, 0, none⟩ = some (.bool s2) ∧ w'.cell? ⟨w.heap.size + 1, 1, none⟩ = some (.slice A3 n3 c3) ∧ w'.cell? ⟨w.heap.size + 1, 2, none⟩ = some (.slice A4 n4 c4) ∧ w'.cell? ⟨w.heap.size + 1 + 1, 0, none⟩ = some (.bool s3) ∧ w'.cell? ⟨w.heap.size + 1 + 1, 1, none⟩ = some (.slice A5 n5 c5) ∧ w'.cell? ⟨w.heap.size + 1 + 1, 2, none⟩ = some (.slice A6 n6 c6))
    (first | (with_reducible exact ⟨x1.c0, x1.c1, x1.c2, x2.c0, x2.c1, x2.c2, x3.c0, x3.c1, x3.c2⟩) | (with_reducible exact ⟨y1.c0, y1.c1, y1.c2, y2.c0, y2.c1, y2.c2, y3.c0, y3.c1, y3.c2⟩) | go_keep)
    (first
      | (go_at_call 52
         (with_reducible refine (Add_any s1 s3 A1 A2 A5 A6 n1 n2 n5 n6 c1 c2 c5 c6 p r _ g1 g3 (by omega) (by omega) (by omega) (by omega)).mono ?_)
         rintro e w5 ⟨s4, A7, n7, c7, A8, n8, c8, rfl, f4, _, _, b5⟩
         replace y1 := y1.below b5
         replace y2 := y2.below b5
         replace y3 := y3.below b5
         replace g1 := g1.below b5
         replace g2 := g2.below b5
         replace g3 := g3.below b5
         replace yu := bthen yu b5
         have hn7 : n7 ≤ 1000 := by have := f4.lens; have := HLs1.out; omega
         have hn8 : n8 ≤ 1000 := by have := f4.lens; have := HLs1.out; omega
         have zf4 := f4.rf)
      | (go_at_call 52
         (with_reducible refine (Add_any s2 s3 A3 A4 A5 A6 n3 n4 n5 n6 c3 c4 c5 c6 q r _ g2 g3 (by omega) (by omega) (by omega) (by omega)).mono ?_)
         rintro e w5 ⟨s5, A9, n9, c9, A10, n10, c10, rfl, f5, _, _, b5⟩
         replace y1 := y1.below b5
         replace y2 := y2.below b5
         replace y3 := y3.below b5
         replace g1 := g1.below b5
         replace g2 := g2.below b5
         replace g3 := g3.below b5
         replace f4 := f4.below b5
         replace yu := bthen yu b5
         have hn9 : n9 ≤ 1000 := by have := f5.lens; have := HLs2.out; omega
         have hn10 : n10 ≤ 1000 := by have := f5.lens; have := HLs2.out; omega
         have zf5 := f5.rf)
      | (go_at_call 51
         (with_reducible refine (sgn_eq (Cmp_any s4 s5 A7 A8 A9 A10 n7 n8 n9 n10 c7 c8 c9 c10 (p + r) (q + r) _ f4.rf f5.rf (by omega) (by omega) (by omega) (by omega)) ES.out).mono ?_)
         rintro e w5 ⟨rfl, b5⟩
         replace y1 := y1.below b5
         replace y2 := y2.below b5
         replace y3 := y3.below b5
         replace g1 := g1.below b5
         replace g2 := g2.below b5
         replace g3 := g3.below b5
         replace yu := bthen yu b5)
      | (go_at_call 51
         (with_reducible refine (C11.out _ yu).mono ?_)
         rintro e w5 ⟨rfl, b5⟩
         replace y1 := y1.below b5
         replace y2 := y2.below b5
         replace y3 := y3.below b5
         replace g1 := g1.below b5
         replace g2 := g2.below b5
         replace g3 := g3.below b5
         replace yu := bthen yu b5))
  have x1 := y1
  have h1 := g1
  have x2 := y2
  have h2 := g2
  have x3 := y3
  have h3 := g3
  have uu := yu
  clear y1 y2 y3 g1 g2 g3 yu
  have x1p0 := x1.c0
  have x1p1 := x1.c1
  have x1p2 := x1.c2
  have x2p0 := x2.c0
  have x2p1 := x2.c1
  have x2p2 := x2.c2
  have x3p0 := x3.c0
  have x3p1 := x3.c1
  have x3p2 := x3.c2
  clear x1p0 x1p1 x1p2 x2p0 x2p1 x2p2 x3p0 x3p1 x3p2
  have y1 := x1.drew
  have g1 := h1.drew
  have y2 := x2.drew
  have g2 := h2.drew
  have y3 := x3.drew
  have g3 := h3.drew
  have yu := below_drew uu
  go_wp2_with fail
  go_region_held3 (fun w' => w'.cell? ⟨w.heap.size, 0, none⟩ = some (.bool s1) ∧ w'.cell? ⟨w.heap.size, 1, none⟩ = some (.slice A1 n1 c1) ∧ w'.cell? ⟨w.heap.size, 2, none⟩ = some (.slice A2 n2 c2) ∧ w'.cell? ⟨w.heap.size + 1, 0, none⟩ = some (.bool s2) ∧ w'.cell? ⟨w.heap.size + 1, 1, none⟩ = some (.slice A3 n3 c3) ∧ w'.cell? ⟨w.heap.size + 1, 2, none⟩ = some (.slice A4 n4 c4) ∧ w'.cell? ⟨w.heap.size + 1 + 1, 0, none⟩ = some (.bool s3) ∧ w'.cell? ⟨w.heap.size + 1 + 1, 1, none⟩ = some (.slice A5 n5 c5) ∧ w'.cell? ⟨w.heap.size + 1 + 1, 2, none⟩ = some (.slice A6 n6 c6))
    (first | (with_reducible exact ⟨x1.c0, x1.c1, x1.c2, x2.c0, x2.c1, x2.c2, x3.c0, x3.c1, x3.c2⟩) | (with_reducible exact ⟨y1.c0, y1.c1, y1.c2, y2.c0, y2.c1, y2.c2, y3.c0, y3.c1, y3.c2⟩) | go_keep)
    (first
      | (go_at_call 58
         (with_reducible refine (Mul_any s1 s3 A1 A2 A5 A6 n1 n2 n5 n6 c1 c2 c5 c6 p r _ g1 g3 (by omega) (by omega) (by omega) (by omega)).mono ?_)
         rintro e w5 ⟨s4, A7, n7, c7, A8, n8, c8, rfl, f4, _, _, b5⟩
         replace y1 := y1.below b5
         replace y2 := y2.below b5
         replace y3 := y3.below b5
         replace g1 := g1.below b5
         replace g2 := g2.below b5
         replace g3 := g3.below b5
         replace yu := bthen yu b5
         have hn7 : n7 ≤ 1000 := by have := f4.lens; have := HLm1.out; omega
         have hn8 : n8 ≤ 1000 := by have := f4.lens; have := HLm1.out; omega
         have zf4 := f4.rf)
      | (go_at_call 58
         (with_reducible refine (Mul_any s2 s3 A3 A4 A5 A6 n3 n4 n5 n6 c3 c4 c5 c6 q r _ g2 g3 (by omega) (by omega) (by omega) (by omega)).mono ?_)
         rintro e w5 ⟨s5, A9, n9, c9, A10, n10, c10, rfl, f5, _, _, b5⟩
         replace y1 := y1.below b5
         replace y2 := y2.below b5
         replace y3 := y3.below b5
         replace g1 := g1.below b5
         replace g2 := g2.below b5
         replace g3 := g3.below b5
         replace f4 := f4.below b5
         replace yu := bthen yu b5
         have hn9 : n9 ≤ 1000 := by have := f5.lens; have := HLm2.out; omega
         have hn10 : n10 ≤ 1000 := by have := f5.lens; have := HLm2.out; omega
         have zf5 := f5.rf)
      | (go_at_call 51
         (with_reducible refine (sgn_eq (Cmp_any s4 s5 A7 A8 A9 A10 n7 n8 n9 n10 c7 c8 c9 c10 (p * r) (q * r) _ f4.rf f5.rf (by omega) (by omega) (by omega) (by omega)) EM.out).mono ?_)
         rintro e w5 ⟨rfl, b5⟩
         replace y1 := y1.below b5
         replace y2 := y2.below b5
         replace y3 := y3.below b5
         replace g1 := g1.below b5
         replace g2 := g2.below b5
         replace g3 := g3.below b5
         replace yu := bthen yu b5)
      | (go_at_call 50
         (with_reducible refine (CS.out _ yu).mono ?_)
         rintro e w5 ⟨rfl, b5⟩
         replace y1 := y1.below b5
         replace y2 := y2.below b5
         replace y3 := y3.below b5
         replace g1 := g1.below b5
         replace g2 := g2.below b5
         replace g3 := g3.below b5
         replace yu := bthen yu b5))
  have x1 := y1
  have h1 := g1
  have x2 := y2
  have h2 := g2
  have x3 := y3
  have h3 := g3
  have uu := yu
  clear y1 y2 y3 g1 g2 g3 yu
  have x1p0 := x1.c0
  have x1p1 := x1.c1
  have x1p2 := x1.c2
  have x2p0 := x2.c0
  have x2p1 := x2.c1
  have x2p2 := x2.c2
  have x3p0 := x3.c0
  have x3p1 := x3.c1
  have x3p2 := x3.c2
  clear x1p0 x1p1 x1p2 x2p0 x2p1 x2p2 x3p0 x3p1 x3p2
  have y1 := x1.drew
  have g1 := h1.drew
  have y2 := x2.drew
  have g2 := h2.drew
  have y3 := x3.drew
  have g3 := h3.drew
  have yu := below_drew uu
  go_wp2_with fail
  go_region_held3 (fun w' => w'.cell? ⟨w.heap.size, 0, none⟩ = some (.bool s1) ∧ w'.cell? ⟨w.heap.size, 1, none⟩ = some (.slice A1 n1 c1) ∧ w'.cell? ⟨w.heap.size, 2, none⟩ = some (.slice A2 n2 c2) ∧ w'.cell? ⟨w.heap.size + 1, 0, none⟩ = some (.bool s2) ∧ w'.cell? ⟨w.heap.size + 1, 1, none⟩ = some (.slice A3 n3 c3) ∧ w'.cell? ⟨w.heap.size + 1, 2, none⟩ = some (.slice A4 n4 c4) ∧ w'.cell? ⟨w.heap.size + 1 + 1, 0, none⟩ = some (.bool s3) ∧ w'.cell? ⟨w.heap.size + 1 + 1, 1, none⟩ = some (.slice A5 n5 c5) ∧ w'.cell? ⟨w.heap.size + 1 + 1, 2, none⟩ = some (.slice A6 n6 c6))
    (first | (with_reducible exact ⟨x1.c0, x1.c1, x1.c2, x2.c0, x2.c1, x2.c2, x3.c0, x3.c1, x3.c2⟩) | (with_reducible exact ⟨y1.c0, y1.c1, y1.c2, y2.c0, y2.c1, y2.c2, y3.c0, y3.c1, y3.c2⟩) | go_keep)
    (first
      | (go_at_call 59
         (with_reducible refine (Canon_any s1 A1 A2 n1 n2 c1 c2 p _ g1 (by omega) (by omega)).mono ?_)
         rintro e w5 ⟨s4, A7, n7, c7, A8, n8, c8, rfl, f4, _, _, b5⟩
         replace y1 := y1.below b5
         replace y2 := y2.below b5
         replace y3 := y3.below b5
         replace g1 := g1.below b5
         replace g2 := g2.below b5
         replace g3 := g3.below b5
         replace yu := bthen yu b5
         have hn7 : n7 ≤ 1000 := by have := f4.lens; have := HLp.out; omega
         have hn8 : n8 ≤ 1000 := by have := f4.lens; have := HLp.out; omega
         have zf4 := f4.rf)
      | (go_at_call 59
         (with_reducible refine (Canon_any s2 A3 A4 n3 n4 c3 c4 q _ g2 (by omega) (by omega)).mono ?_)
         rintro e w5 ⟨s5, A9, n9, c9, A10, n10, c10, rfl, f5, _, _, b5⟩
         replace y1 := y1.below b5
         replace y2 := y2.below b5
         replace y3 := y3.below b5
         replace g1 := g1.below b5
         replace g2 := g2.below b5
         replace g3 := g3.below b5
         replace f4 := f4.below b5
         replace yu := bthen yu b5
         have hn9 : n9 ≤ 1000 := by have := f5.lens; have := HLq.out; omega
         have hn10 : n10 ≤ 1000 := by have := f5.lens; have := HLq.out; omega
         have zf5 := f5.rf)
      | (go_at_call 22
         (with_reducible refine (SameFr_any s4 s5 A7 A8 A9 A10 n7 n8 n9 n10 c7 c8 c9 c10 p q _ f4 f5 (by omega) (by omega) (by omega) (by omega) _ EB.out).mono ?_)
         rintro e w5 ⟨rfl, b5⟩
         replace y1 := y1.below b5
         replace y2 := y2.below b5
         replace y3 := y3.below b5
         replace g1 := g1.below b5
         replace g2 := g2.below b5
         replace g3 := g3.below b5
         replace yu := bthen yu b5
         have htx := ht.on (bthen xb yu))
      | (go_at_call 20
         (with_reducible refine (known_any _ htx).mono ?_)
         rintro e w5 ⟨rfl, b5⟩
         replace y1 := y1.below b5
         replace y2 := y2.below b5
         replace y3 := y3.below b5
         replace g1 := g1.below b5
         replace g2 := g2.below b5
         replace g3 := g3.below b5
         replace yu := bthen yu b5))
  go_wp2_with fail
  go_ret
  exact ⟨rfl, bthen xb yu⟩

set_option maxHeartbeats 8000000 in
theorem FracOrdered_b (s1 : Bool) (A1 A2 : Option Addr) (n1 n2 c1 c2 : Nat) (s2 : Bool) (A3 A4 : Option Addr) (n3 n4 c3 c4 : Nat) (s3 : Bool) (A5 A6 : Option Addr) (n5 n6 c5 c6 : Nat) (p q r : Rat) (k2 k3 kc : Int) (j2 : 0 < k2) (w : World) (h1 : Rf w s1 A1 n1 c1 A2 n2 c2 p) (h2 : Rf w s2 A3 n3 c3 A4 n4 c4 q) (h3 : Rf w s3 A5 n5 c5 A6 n6 c6 r) (ht : Tab w)
    (l1 : n1 ≤ 6) (l2 : n2 ≤ 6) (l3 : n3 ≤ 6) (l4 : n4 ≤ 6) (l5 : n5 ≤ 6) (l6 : n6 ≤ 6)
    (EC12 : Hid (sgn (p - q) = 0)) (EC23 : Hid (sgn (q - r) = k2)) (EC13 : Hid (sgn (p - r) = k3)) (EC : Hid (sgn r = kc)) (EB : Hid (true = decide (p = q))) (hkc : -1 ≤ kc ∧ kc ≤ 1) :
    Calls Tryd.prog 14 #[.agg #[.bool s1, .slice A1 n1 c1, .slice A2 n2 c2], .agg #[.bool s2, .slice A3 n3 c3, .slice A4 n4 c4], .agg #[.bool s3, .slice A5 n5 c5, .slice A6 n6 c6]] w (ValPost (.bool true) w) := by
  have EC11 : Hid (sgn (p - p) = 0) := Lib.hid (sgn_self p)
  have hp := h1.len
  have hq := h2.len
  have hr := h3.len
  have HLs1 : Hid (ln (p + r) ≤ 1000 ∧ ld (p + r) ≤ 1000) := Lib.hid (by have := ln_add p r; omega)
  have HLs2 : Hid (ln (q + r) ≤ 1000 ∧ ld (q + r) ≤ 1000) := Lib.hid (by have := ln_add q r; omega)
  have HLm1 : Hid (ln (p * r) ≤ 1000 ∧ ld (p * r) ≤ 1000) := Lib.hid (by have := ln_mul p r; omega)
  have HLm2 : Hid (ln (q * r) ≤ 1000 ∧ ld (q * r) ≤ 1000) := Lib.hid (by have := ln_mul q r; omega)
  have HLp : Hid (ln p ≤ 1000 ∧ ld p ≤ 1000) := Lib.hid (by omega)
  have HLq : Hid (ln q ≤ 1000 ∧ ld q ≤ 1000) := Lib.hid (by omega)
  have ES : Hid (sgn ((p + r) - (q + r)) = 0) := Lib.hid (by rw [sgn_add_right, EC12.out])
  obtain ⟨k8, hk8⟩ : ∃ k8, Hid (k8 = 0 * kc) := ⟨_, rfl⟩
  have EM : Hid (sgn (p * r - q * r) = k8) := Lib.hid (by rw [sgn_mul_right, EC12.out, EC.out, hk8.out])
  have hk80 : Hid (k8 = 0) := Lib.hid (by rw [hk8.out, Int.zero_mul])
  rw [hk80.out] at EM
  obtain ⟨u, HU, x1, x2, x3, xb⟩ := boxes3 w (.bool s1) (.slice A1 n1 c1) (.slice A2 n2 c2) (.bool s2) (.slice A3 n3 c3) (.slice A4 n4 c4) (.bool s3) (.slice A5 n5 c5) (.slice A6 n6 c6) 24 24 24
  replace h1 := h1.below xb
  replace h2 := h2.below xb
  replace h3 := h3.below xb
  have C12 : Hid (∀ w', Below u.heap.size u w' → Calls Tryd.prog 51 #[.agg #[.bool s1, .slice A1 n1 c1, .slice A2 n2 c2], .agg #[.bool s2, .slice A3 n3 c3, .slice A4 n4 c4]] w' (ValPost (.int .i64 0) w')) := Lib.hid (fun w' hb => by
    have := Cmp_any s1 s2 A1 A2 A3 A4 n1 n2 n3 n4 c1 c2 c3 c4 p q w' (h1.below hb) (h2.below hb) (by omega) (by omega) (by omega) (by omega)
    rwa [EC12.out] at this)
  have C23 : Hid (∀ w', Below u.heap.size u w' → Calls Tryd.prog 51 #[.agg #[.bool s2, .slice A3 n3 c3, .slice A4 n4 c4], .agg #[.bool s3, .slice A5 n5 c5, .slice A6 n6 c6]] w' (ValPost (.int .i64 k2) w')) := Lib.hid (fun w' hb => by
    have := Cmp_any s2 s3 A3 A4 A5 A6 n3 n4 n5 n6 c3 c4 c5 c6 q r w' (h2.below hb) (h3.below hb) (by omega) (by omega) (by omega) (by omega)
    rwa [EC23.out] at this)
  have C13 : Hid (∀ w', Below u.heap.size u w' → Calls Tryd.prog 51 #[.agg #[.bool s1, .slice A1 n1 c1, .slice A2 n2 c2], .agg #[.bool s3, .slice A5 n5 c5, .slice A6 n6 c6]] w' (ValPost (.int .i64 k3) w')) := Lib.hid (fun w' hb => by
    have := Cmp_any s1 s3 A1 A2 A5 A6 n1 n2 n5 n6 c1 c2 c5 c6 p r w' (h1.below hb) (h3.below hb) (by omega) (by omega) (by omega) (by omega)
    rwa [EC13.out] at this)
  have C11 : Hid (∀ w', Below u.heap.size u w' → Calls Tryd.prog 51 #[.agg #[.bool s1, .slice A1 n1 c1, .slice A2 n2 c2], .agg #[.bool s1, .slice A1 n1 c1, .slice A2 n2 c2]] w' (ValPost (.int .i64 0) w')) := Lib.hid (fun w' hb => by
    have := Cmp_any s1 s1 A1 A2 A1 A2 n1 n2 n1 n2 c1 c2 c1 c2 p p w' (h1.below hb) (h1.below hb) (by omega) (by omega) (by omega) (by omega)
    rwa [EC11.out] at this)
  have CS : Hid (∀ w', Below u.heap.size u w' → Calls Tryd.prog 50 #[.agg #[.bool s3, .slice A5 n5 c5, .slice A6 n6 c6]] w' (ValPost (.int .i64 kc) w')) := Lib.hid (fun w' hb => by
    have := Sign_any s3 A5 A6 n5 n6 c5 c6 r w' (h3.below hb) (by omega) (by omega)
    rwa [EC.out] at this)
  have uu := Below.refl u.heap.size u
  have x1p0 := x1.c0
  have x1p1 := x1.c1
  have x1p2 := x1.c2
  have x2p0 := x2.c0
  have x2p1 := x2.c1
  have x2p2 := x2.c2
  have x3p0 := x3.c0
  have x3p1 := x3.c1
  have x3p2 := x3.c2
  rw [HU.out] at x1p0 x1p1 x1p2 x2p0 x2p1 x2p2 x3p0 x3p1 x3p2
  clear hp hq hr
  go_enter Tryd.func14, Tryd.ntmps14
  go_wp2_with fail
  rw [← HU.out]
  refine (C12.out _ uu).mono ?_
  rintro e w1 ⟨rfl, b1⟩
  clear x1p0 x1p1 x1p2 x2p0 x2p1 x2p2 x3p0 x3p1 x3p2
  replace x1 := x1.below b1
  replace x2 := x2.below b1
  replace x3 := x3.below b1
  replace h1 := h1.below b1
  replace h2 := h2.below b1
  replace h3 := h3.below b1
  replace uu := bthen uu b1
  have x1p0 := x1.c0
  have x1p1 := x1.c1
  have x1p2 := x1.c2
  have x2p0 := x2.c0
  have x2p1 := x2.c1
  have x2p2 := x2.c2
  have x3p0 := x3.c0
  have x3p1 := x3.c1
  have x3p2 := x3.c2
  go_wp2_with fail
  refine (C23.out _ uu).mono ?_
  rintro e w1 ⟨rfl, b1⟩
  clear x1p0 x1p1 x1p2 x2p0 x2p1 x2p2 x3p0 x3p1 x3p2
  replace x1 := x1.below b1
  replace x2 := x2.below b1
  replace x3 := x3.below b1
  replace h1 := h1.below b1
  replace h2 := h2.below b1
  replace h3 := h3.below b1
  replace uu := bthen uu b1
  have x1p0 := x1.c0
  have x1p1 := x1.c1
  have x1p2 := x1.c2
  have x2p0 := x2.c0
  have x2p1 := x2.c1
  have x2p2 := x2.c2
  have x3p0 := x3.c0
  have x3p1 := x3.c1
  have x3p2 := x3.c2
  clear x1p0 x1p1 x1p2 x2p0 x2p1 x2p2 x3p0 x3p1 x3p2
  have y1 := x1.drew
  have g1 := h1.drew
  have y2 := x2.drew
  have g2 := h2.drew
  have y3 := x3.drew
  have g3 := h3.drew
  have yu := below_drew uu
  go_wp2_with fail
  go_region_held3 (fun w' => w'.cell? ⟨w.heap.size, 0, none⟩ = some (.bool s1) ∧ w'.cell? ⟨w.heap.size, 1, none⟩ = some (.slice A1 n1 c1) ∧ w'.cell? ⟨w.heap.size, 2, none⟩ = some (.slice A2 n2 c2) ∧ w'.cell? ⟨w.heap.size + 1, 0, none⟩ = some (.bool s2) ∧ w'.cell? ⟨w.heap.size + 1, 1, none⟩ = some (.slice A3 n3 c3) ∧ w'.cell? ⟨w.heap.size + 1, 2, none⟩ = some (.slice A4 n4 c4) ∧ w'.cell? ⟨w.heap.size + 1 + 1, 0, none⟩ = some (.bool s3) ∧ w'.cell? ⟨w.heap.size + 1 + 1, 1, none⟩ = some (.slice A5 n5 c5) ∧ w'.cell? ⟨w.heap.size + 1 + 1, 2, none⟩ = some (.slice A6 n6 c6))
    (first | (with_reducible exact ⟨x1.c0, x1.c1, x1.c2, x2.c0, x2.c1, x2.c2, x3.c0, x3.c1, x3.c2⟩) | (with_reducible exact ⟨y1.c0, y1.c1, y1.c2, y2.c0, y2.c1, y2.c2, y3.c0, y3.c1, y3.c2⟩) | go_keep)
    (first
      | (go_at_call 52
         (with_reducible refine (Add_any s1 s3 A1 A2 A5 A6 n1 n2 n5 n6 c1 c2 c5 c6 p r _ g1 g3 (by omega) (by omega) (by omega) (by omega)).mono ?_)
         rintro e w5 ⟨s4, A7, n7, c7, A8, n8, c8, rfl, f4, _, _, b5⟩
         replace y1 := y1.below b5
         replace y2 := y2.below b5
         replace y3 := y3.below b5
         replace g1 := g1.below b5
         replace g2 := g2.below b5
         replace g3 := g3.below b5
         replace yu := bthen yu b5
         have hn7 : n7 ≤ 1000 := by have := f4.lens; have := HLs1.out; omega
         have hn8 : n8 ≤ 1000 := by have := f4.lens; have := HLs1.out; omega
         have zf4 := f4.rf)
      | (go_at_call 52
         (with_reducible refine (Add_any s2 s3 A3 A4 A5 A6 n3 n4 n5 n6 c3 c4 c5 c6 q r _ g2 g3 (by omega) (by omega) (by omega) (by omega)).mono ?_)
         rintro e w5 ⟨s5, A9, n9, c9, A10, n10, c10, rfl, f5, _, _, b5⟩
         replace y1 := y1.below b5
         replace y2 := y2.below b5
         replace y3 := y3.below b5
         replace g1 := g1.below b5
         replace g2 := g2.below b5
         replace g3 := g3.below b5
         replace f4 := f4.below b5
         replace yu := bthen yu b5
         have hn9 : n9 ≤ 1000 := by have := f5.lens; have := HLs2.out; omega
         have hn10 : n10 ≤ 1000 := by have := f5.lens; have := HLs2.out; omega
         have zf5 := f5.rf)
      | (go_at_call 51
         (with_reducible refine (sgn_eq (Cmp_any s4 s5 A7 A8 A9 A10 n7 n8 n9 n10 c7 c8 c9 c10 (p + r) (q + r) _ f4.rf f5.rf (by omega) (by omega) (by omega) (by omega)) ES.out).mono ?_)
         rintro e w5 ⟨rfl, b5⟩
         replace y1 := y1.below b5
         replace y2 := y2.below b5
         replace y3 := y3.below b5
         replace g1 := g1.below b5
         replace g2 := g2.below b5
         replace g3 := g3.below b5
         replace yu := bthen yu b5)
      | (go_at_call 51
         (with_reducible refine (C11.out _ yu).mono ?_)
         rintro e w5 ⟨rfl, b5⟩
         replace y1 := y1.below b5
         replace y2 := y2.below b5
         replace y3 := y3.below b5
         replace g1 := g1.below b5
         replace g2 := g2.below b5
         replace g3 := g3.below b5
         replace yu := bthen yu b5))
  have x1 := y1
  have h1 := g1
  have x2 := y2
  have h2 := g2
  have x3 := y3
  have h3 := g3
  have uu := yu
  clear y1 y2 y3 g1 g2 g3 yu
  have x1p0 := x1.c0
  have x1p1 := x1.c1
  have x1p2 := x1.c2
  have x2p0 := x2.c0
  have x2p1 := x2.c1
  have x2p2 := x2.c2
  have x3p0 := x3.c0
  have x3p1 := x3.c1
  have x3p2 := x3.c2
  clear x1p0 x1p1 x1p2 x2p0 x2p1 x2p2 x3p0 x3p1 x3p2
  have y1 := x1.drew
  have g1 := h1.drew
  have y2 := x2.drew
  have g2 := h2.drew
  have y3 := x3.drew
  have g3 := h3.drew
  have yu := below_drew uu
  go_wp2_with fail
  go_region_held3 (fun w' => w'.cell? ⟨w.heap.size, 0, none⟩ = some (.bool s1) ∧ w'.cell? ⟨w.heap.size, 1, none⟩ = some (.slice A1 n1 c1) ∧ w'.cell? ⟨w.heap.size, 2, none⟩ = some (.slice A2 n2 c2) ∧ w'.cell? ⟨w.heap.size + 1, 0, none⟩ = some (.bool s2) ∧ w'.cell? ⟨w.heap.size + 1, 1, none⟩ = some (.slice A3 n3 c3) ∧ w'.cell? ⟨w.heap.size + 1, 2, none⟩ = some (.slice A4 n4 c4) ∧ w'.cell? ⟨w.heap.size + 1 + 1, 0, none⟩ = some (.bool s3) ∧ w'.cell? ⟨w.heap.size + 1 + 1, 1, none⟩ = some (.slice A5 n5 c5) ∧ w'.cell? ⟨w.heap.size + 1 + 1, 2, none⟩ = some (.slice A6 n6 c6))
    (first | (with_reducible exact ⟨x1.c0, x1.c1, x1.c2, x2.c0, x2.c1, x2.c2, x3.c0, x3.c1, x3.c2⟩) | (with_reducible exact ⟨y1.c0, y1.c1, y1.c2, y2.c0, y2.c1, y2.c2, y3.c0, y3.c1, y3.c2⟩) | go_keep)
    (first
      | (go_at_call 58
         (with_reducible refine (Mul_any s1 s3 A1 A2 A5 A6 n1 n2 n5 n6 c1 c2 c5 c6 p r _ g1 g3 (by omega) (by omega) (by omega) (by omega)).mono ?_)
         rintro e w5 ⟨s4, A7, n7, c7, A8, n8, c8, rfl, f4, _, _, b5⟩
         replace y1 := y1.below b5
         replace y2 := y2.below b5
         replace y3 := y3.below b5
         replace g1 := g1.below b5
         replace g2 := g2.below b5
         replace g3 := g3.below b5
         replace yu := bthen yu b5
         have hn7 : n7 ≤ 1000 := by have := f4.lens; have := HLm1.out; omega
         have hn8 : n8 ≤ 1000 := by have := f4.lens; have := HLm1.out; omega
         have zf4 := f4.rf)
      | (go_at_call 58
         (with_reducible refine (Mul_any s2 s3 A3 A4 A5 A6 n3 n4 n5 n6 c3 c4 c5 c6 q r _ g2 g3 (by omega) (by omega) (by omega) (by omega)).mono ?_)
         rintro e w5 ⟨s5, A9, n9, c9, A10, n10, c10, rfl, f5, _, _, b5⟩
         replace y1 := y1.below b5
         replace y2 := y2.below b5
         replace y3 := y3.below b5
         replace g1 := g1.below b5
         replace g2 := g2.below b5
         replace g3 := g3.below b5
         replace f4 := f4.below b5
         replace yu := bthen yu b5
         have hn9 : n9 ≤ 1000 := by have := f5.lens; have := HLm2.out; omega
         have hn10 : n10 ≤ 1000 := by have := f5.lens; have := HLm2.out; omega
         have zf5 := f5.rf)
      | (go_at_call 51
         (with_reducible refine (sgn_eq (Cmp_any s4 s5 A7 A8 A9 A10 n7 n8 n9 n10 c7 c8 c9 c10 (p * r) (q * r) _ f4.rf f5.rf (by omega) (by omega) (by omega) (by omega)) EM.out).mono ?_)
         rintro e w5 ⟨rfl, b5⟩
         replace y1 := y1.below b5
         replace y2 := y2.below b5
         replace y3 := y3.below b5
         replace g1 := g1.below b5
         replace g2 := g2.below b5
         replace g3 := g3.below b5
         replace yu := bthen yu b5)
      | (go_at_call 50
         (with_reducible refine (CS.out _ yu).mono ?_)
         rintro e w5 ⟨rfl, b5⟩
         replace y1 := y1.below b5
         replace y2 := y2.below b5
         replace y3 := y3.below b5
         replace g1 := g1.below b5
         replace g2 := g2.below b5
         replace g3 := g3.below b5
         replace yu := bthen yu b5))
  have x1 := y1
  have h1 := g1
  have x2 := y2
  have h2 := g2
  have x3 := y3
  have h3 := g3
  have uu := yu
  clear y1 y2 y3 g1 g2 g3 yu
  have x1p0 := x1.c0
  have x1p1 := x1.c1
  have x1p2 := x1.c2
  have x2p0 := x2.c0
  have x2p1 := x2.c1
  have x2p2 := x2.c2
  have x3p0 := x3.c0
  have x3p1 := x3.c1
  have x3p2 := x3.c2
  clear x1p0 x1p1 x1p2 x2p0 x2p1 x2p2 x3p0 x3p1 x3p2
  have y1 := x1.drew
  have g1 := h1.drew
  have y2 := x2.drew
  have g2 := h2.drew
  have y3 := x3.drew
  have g3 := h3.drew
  have yu := below_drew uu
  go_wp2_with fail
  go_region_held3 (fun w' => w'.cell? ⟨w.heap.size, 0, none⟩ = some (.bool s1) ∧ w'.cell? ⟨w.heap.size, 1, none⟩ = some (.slice A1 n1 c1) ∧ w'.cell? ⟨w.heap.size, 2, none⟩ = some (.slice A2 n2 c2) ∧ w'.cell? ⟨w.heap.size + 1, 0, none⟩ = some (.bool s2) ∧ w'.cell? ⟨w.heap.size + 1, 1, none⟩ = some (.slice A3 n3 c3) ∧ w'.cell? ⟨w.heap.size + 1, 2, none⟩ = some (.slice A4 n4 c4) ∧ w'.cell? ⟨w.heap.size + 1 + 1, 0, none⟩ = some (.bool s3) ∧ w'.cell? ⟨w.heap.size + 1 + 1, 1, none⟩ = some (.slice A5 n5 c5) ∧ w'.cell? ⟨w.heap.size + 1 + 1, 2, none⟩ = some (.slice A6 n6 c6))
    (first | (with_reducible exact ⟨x1.c0, x1.c1, x1.c2, x2.c0, x2.c1, x2.c2, x3.c0, x3.c1, x3.c2⟩) | (with_reducible exact ⟨y1.c0, y1.c1, y1.c2, y2.c0, y2.c1, y2.c2, y3.c0, y3.c1, y3.c2⟩) | go_keep)
    (first
      | (go_at_call 59
         (with_reducible refine (Canon_any s1 A1 A2 n1 n2 c1 c2 p _ g1 (by omega) (by omega)).mono ?_)
         rintro e w5 ⟨s4, A7, n7, c7, A8, n8, c8, rfl, f4, _, _, b5⟩
         replace y1 := y1.below b5
         replace y2 := y2.below b5
         replace y3 := y3.below b5
         replace g1 := g1.below b5
         replace g2 := g2.below b5
         replace g3 := g3.below b5
         replace yu := bthen yu b5
         have hn7 : n7 ≤ 1000 := by have := f4.lens; have := HLp.out; omega
         have hn8 : n8 ≤ 1000 := by have := f4.lens; have := HLp.out; omega
         have zf4 := f4.rf)
      | (go_at_call 59
         (with_reducible refine (Canon_any s2 A3 A4 n3 n4 c3 c4 q _ g2 (by omega) (by omega)).mono ?_)
         rintro e w5 ⟨s5, A9, n9, c9, A10, n10, c10, rfl, f5, _, _, b5⟩
         replace y1 := y1.below b5
         replace y2 := y2.below b5
         replace y3 := y3.below b5
         replace g1 := g1.below b5
         replace g2 := g2.below b5
         replace g3 := g3.below b5
         replace f4 := f4.below b5
         replace yu := bthen yu b5
         have hn9 : n9 ≤ 1000 := by have := f5.lens; have := HLq.out; omega
         have hn10 : n10 ≤ 1000 := by have := f5.lens; have := HLq.out; omega
         have zf5 := f5.rf)
      | (go_at_call 22
         (with_reducible refine (SameFr_any s4 s5 A7 A8 A9 A10 n7 n8 n9 n10 c7 c8 c9 c10 p q _ f4 f5 (by omega) (by omega) (by omega) (by omega) _ EB.out).mono ?_)
         rintro e w5 ⟨rfl, b5⟩
         replace y1 := y1.below b5
         replace y2 := y2.below b5
         replace y3 := y3.below b5
         replace g1 := g1.below b5
         replace g2 := g2.below b5
         replace g3 := g3.below b5
         replace yu := bthen yu b5
         have htx := ht.on (bthen xb yu))
      | (go_at_call 20
         (with_reducible refine (known_any _ htx).mono ?_)
         rintro e w5 ⟨rfl, b5⟩
         replace y1 := y1.below b5
         replace y2 := y2.below b5
         replace y3 := y3.below b5
         replace g1 := g1.below b5
         replace g2 := g2.below b5
         replace g3 := g3.below b5
         replace yu := bthen yu b5))
  go_wp2_with fail
  go_ret
  exact ⟨rfl, bthen xb yu⟩

set_option maxHeartbeats 8000000 in
theorem FracOrdered_c (s1 : Bool) (A1 A2 : Option Addr) (n1 n2 c1 c2 : Nat) (s2 : Bool) (A3 A4 : Option Addr) (n3 n4 c3 c4 : Nat) (s3 : Bool) (A5 A6 : Option Addr) (n5 n6 c5 c6 : Nat) (p q r : Rat) (k2 k3 kc : Int) (k1 : Int) (j1 : 0 < k1) (hk : (k1 == 0) = false) (w : World) (h1 : Rf w s1 A1 n1 c1 A2 n2 c2 p) (h2 : Rf w s2 A3 n3 c3 A4 n4 c4 q) (h3 : Rf w s3 A5 n5 c5 A6 n6 c6 r) (ht : Tab w)
    (l1 : n1 ≤ 6) (l2 : n2 ≤ 6) (l3 : n3 ≤ 6) (l4 : n4 ≤ 6) (l5 : n5 ≤ 6) (l6 : n6 ≤ 6)
    (EC12 : Hid (sgn (p - q) = k1)) (EC23 : Hid (sgn (q - r) = k2)) (EC13 : Hid (sgn (p - r) = k3)) (EC : Hid (sgn r = kc)) (EB : Hid (false = decide (p = q))) (hkc : -1 ≤ kc ∧ kc ≤ 1) :
    Calls Tryd.prog 14 #[.agg #[.bool s1, .slice A1 n1 c1, .slice A2 n2 c2], .agg #[.bool s2, .slice A3 n3 c3, .slice A4 n4 c4], .agg #[.bool s3, .slice A5 n5 c5, .slice A6 n6 c6]] w (ValPost (.bool true) w) := by
  have EC11 : Hid (sgn (p - p) = 0) := Lib.hid (sgn_self p)
  have hp := h1.len
  have hq := h2.len
  have hr := h3.len
  have HLs1 : Hid (ln (p + r) ≤ 1000 ∧ ld (p + r) ≤ 1000) := Lib.hid (by have := ln_add p r; omega)
  have HLs2 : Hid (ln (q + r) ≤ 1000 ∧ ld (q + r) ≤ 1000) := Lib.hid (by have := ln_add q r; omega)
  have HLm1 : Hid (ln (p * r) ≤ 1000 ∧ ld (p * r) ≤ 1000) := Lib.hid (by have := ln_mul p r; omega)
  have HLm2 : Hid (ln (q * r) ≤ 1000 ∧ ld (q * r) ≤ 1000) := Lib.hid (by have := ln_mul q r; omega)
  have HLp : Hid (ln p ≤ 1000 ∧ ld p ≤ 1000) := Lib.hid (by omega)
  have HLq : Hid (ln q ≤ 1000 ∧ ld q ≤ 1000) := Lib.hid (by omega)
  have ES : Hid (sgn ((p + r) - (q + r)) = k1) := Lib.hid (by rw [sgn_add_right, EC12.out])
  obtain ⟨k8, hk8⟩ : ∃ k8, Hid (k8 = k1 * kc) := ⟨_, rfl⟩
  have EM : Hid (sgn (p * r - q * r) = k8) := Lib.hid (by rw [sgn_mul_right, EC12.out, EC.out, hk8.out])
  have hb1 := sgn_bound (p - q)
  rw [EC12.out] at hb1
  have hw : IntKind.i64.wrap (k1 * kc) = k8 := by
    have hb8 := sgn_bound (p * r - q * r)
    rw [EM.out] at hb8
    rw [← hk8.out]
    exact IntWalk.i64_in (by omega) (by omega)
  obtain ⟨u, HU, x1, x2, x3, xb⟩ := boxes3 w (.bool s1) (.slice A1 n1 c1) (.slice A2 n2 c2) (.bool s2) (.slice A3 n3 c3) (.slice A4 n4 c4) (.bool s3) (.slice A5 n5 c5) (.slice A6 n6 c6) 24 24 24
  replace h1 := h1.below xb
  replace h2 := h2.below xb
  replace h3 := h3.below xb
  have C12 : Hid (∀ w', Below u.heap.size u w' → Calls Tryd.prog 51 #[.agg #[.bool s1, .slice A1 n1 c1, .slice A2 n2 c2], .agg #[.bool s2, .slice A3 n3 c3, .slice A4 n4 c4]] w' (ValPost (.int .i64 k1) w')) := Lib.hid (fun w' hb => by
    have := Cmp_any s1 s2 A1 A2 A3 A4 n1 n2 n3 n4 c1 c2 c3 c4 p q w' (h1.below hb) (h2.below hb) (by omega) (by omega) (by omega) (by omega)
    rwa [EC12.out] at this)
  have C23 : Hid (∀ w', Below u.heap.size u w' → Calls Tryd.prog 51 #[.agg #[.bool s2, .slice A3 n3 c3, .slice A4 n4 c4], .agg #[.bool s3, .slice A5 n5 c5, .slice A6 n6 c6]] w' (ValPost (.int .i64 k2) w')) := Lib.hid (fun w' hb => by
    have := Cmp_any s2 s3 A3 A4 A5 A6 n3 n4 n5 n6 c3 c4 c5 c6 q r w' (h2.below hb) (h3.below hb) (by omega) (by omega) (by omega) (by omega)
    rwa [EC23.out] at this)
  have C13 : Hid (∀ w', Below u.heap.size u w' → Calls Tryd.prog 51 #[.agg #[.bool s1, .slice A1 n1 c1, .slice A2 n2 c2], .agg #[.bool s3, .slice A5 n5 c5, .slice A6 n6 c6]] w' (ValPost (.int .i64 k3) w')) := Lib.hid (fun w' hb => by
    have := Cmp_any s1 s3 A1 A2 A5 A6 n1 n2 n5 n6 c1 c2 c5 c6 p r w' (h1.below hb) (h3.below hb) (by omega) (by omega) (by omega) (by omega)
    rwa [EC13.out] at this)
  have C11 : Hid (∀ w', Below u.heap.size u w' → Calls Tryd.prog 51 #[.agg #[.bool s1, .slice A1 n1 c1, .slice A2 n2 c2], .agg #[.bool s1, .slice A1 n1 c1, .slice A2 n2 c2]] w' (ValPost (.int .i64 0) w')) := Lib.hid (fun w' hb => by
    have := Cmp_any s1 s1 A1 A2 A1 A2 n1 n2 n1 n2 c1 c2 c1 c2 p p w' (h1.below hb) (h1.below hb) (by omega) (by omega) (by omega) (by omega)
    rwa [EC11.out] at this)
  have CS : Hid (∀ w', Below u.heap.size u w' → Calls Tryd.prog 50 #[.agg #[.bool s3, .slice A5 n5 c5, .slice A6 n6 c6]] w' (ValPost (.int .i64 kc) w')) := Lib.hid (fun w' hb => by
    have := Sign_any s3 A5 A6 n5 n6 c5 c6 r w' (h3.below hb) (by omega) (by omega)
    rwa [EC.out] at this)
  have uu := Below.refl u.heap.size u
  have x1p0 := x1.c0
  have x1p1 := x1.c1
  have x1p2 := x1.c2
  have x2p0 := x2.c0
  have x2p1 := x2.c1
  have x2p2 := x2.c2
  have x3p0 := x3.c0
  have x3p1 := x3.c1
  have x3p2 := x3.c2
  rw [HU.out] at x1p0 x1p1 x1p2 x2p0 x2p1 x2p2 x3p0 x3p1 x3p2
  clear hp hq hr
  go_enter Tryd.func14, Tryd.ntmps14
  go_wp2_with fail
  rw [← HU.out]
  refine (C12.out _ uu).mono ?_
  rintro e w1 ⟨rfl, b1⟩
  clear x1p0 x1p1 x1p2 x2p0 x2p1 x2p2 x3p0 x3p1 x3p2
  replace x1 := x1.below b1
  replace x2 := x2.below b1
  replace x3 := x3.below b1
  replace h1 := h1.below b1
  replace h2 := h2.below b1
  replace h3 := h3.below b1
  replace uu := bthen uu b1
  have x1p0 := x1.c0
  have x1p1 := x1.c1
  have x1p2 := x1.c2
  have x2p0 := x2.c0
  have x2p1 := x2.c1
  have x2p2 := x2.c2
  have x3p0 := x3.c0
  have x3p1 := x3.c1
  have x3p2 := x3.c2
  clear x1p0 x1p1 x1p2 x2p0 x2p1 x2p2 x3p0 x3p1 x3p2
  have y1 := x1.drew
  have g1 := h1.drew
  have y2 := x2.drew
  have g2 := h2.drew
  have y3 := x3.drew
  have g3 := h3.drew
  have yu := below_drew uu
  go_wp2_with fail
  go_region_held3 (fun w' => w'.cell? ⟨w.heap.size, 0, none⟩ = some (.bool s1) ∧ w'.cell? ⟨w.heap.size, 1, none⟩ = some (.slice A1 n1 c1) ∧ w'.cell? ⟨w.heap.size, 2, none⟩ = some (.slice A2 n2 c2) ∧ w'.cell? ⟨w.heap.size + 1, 0, none⟩ = some (.bool s2) ∧ w'.cell? ⟨w.heap.size + 1, 1, none⟩ = some (.slice A3 n3 c3) ∧ w'.cell? ⟨w.heap.size + 1, 2, none⟩ = some (.slice A4 n4 c4) ∧ w'.cell? ⟨w.heap.size + 1 + 1, 0, none⟩ = some (.bool s3) ∧ w'.cell? ⟨w.heap.size + 1 + 1, 1, none⟩ = some (.slice A5 n5 c5) ∧ w'.cell? ⟨w.heap.size + 1 + 1, 2, none⟩ = some (.slice A6 n6 c6))
    (first | (with_reducible exact ⟨x1.c0, x1.c1, x1.c2, x2.c0, x2.c1, x2.c2, x3.c0, x3.c1, x3.c2⟩) | (with_reducible exact ⟨y1.c0, y1.c1, y1.c2, y2.c0, y2.c1, y2.c2, y3.c0, y3.c1, y3.c2⟩) | go_keep)
    (first
      | (go_at_call 52
         (with_reducible refine (Add_any s1 s3 A1 A2 A5 A6 n1 n2 n5 n6 c1 c2 c5 c6 p r _ g1 g3 (by omega) (by omega) (by omega) (by omega)).mono ?_)
         rintro e w5 ⟨s4, A7, n7, c7, A8, n8, c8, rfl, f4, _, _, b5⟩
         replace y1 := y1.below b5
         replace y2 := y2.below b5
         replace y3 := y3.below b5
         replace g1 := g1.below b5
         replace g2 := g2.below b5
         replace g3 := g3.below b5
         replace yu := bthen yu b5
         have hn7 : n7 ≤ 1000 := by have := f4.lens; have := HLs1.out; omega
         have hn8 : n8 ≤ 1000 := by have := f4.lens; have := HLs1.out; omega
         have zf4 := f4.rf)
      | (go_at_call 52
         (with_reducible refine (Add_any s2 s3 A3 A4 A5 A6 n3 n4 n5 n6 c3 c4 c5 c6 q r _ g2 g3 (by omega) (by omega) (by omega) (by omega)).mono ?_)
         rintro e w5 ⟨s5, A9, n9, c9, A10, n10, c10, rfl, f5, _, _, b5⟩
         replace y1 := y1.below b5
         replace y2 := y2.below b5
         replace y3 := y3.below b5
         replace g1 := g1.below b5
         replace g2 := g2.below b5
         replace g3 := g3.below b5
         replace f4 := f4.below b5
         replace yu := bthen yu b5
         have hn9 : n9 ≤ 1000 := by have := f5.lens; have := HLs2.out; omega
         have hn10 : n10 ≤ 1000 := by have := f5.lens; have := HLs2.out; omega
         have zf5 := f5.rf)
      | (go_at_call 51
         (with_reducible refine (sgn_eq (Cmp_any s4 s5 A7 A8 A9 A10 n7 n8 n9 n10 c7 c8 c9 c10 (p + r) (q + r) _ f4.rf f5.rf (by omega) (by omega) (by omega) (by omega)) ES.out).mono ?_)
         rintro e w5 ⟨rfl, b5⟩
         replace y1 := y1.below b5
         replace y2 := y2.below b5
         replace y3 := y3.below b5
         replace g1 := g1.below b5
         replace g2 := g2.below b5
         replace g3 := g3.below b5
         replace yu := bthen yu b5)
      | (go_at_call 51
         (with_reducible refine (C11.out _ yu).mono ?_)
         rintro e w5 ⟨rfl, b5⟩
         replace y1 := y1.below b5
         replace y2 := y2.below b5
         replace y3 := y3.below b5
         replace g1 := g1.below b5
         replace g2 := g2.below b5
         replace g3 := g3.below b5
         replace yu := bthen yu b5))
  have x1 := y1
  have h1 := g1
  have x2 := y2
  have h2 := g2
  have x3 := y3
  have h3 := g3
  have uu := yu
  clear y1 y2 y3 g1 g2 g3 yu
  have x1p0 := x1.c0
  have x1p1 := x1.c1
  have x1p2 := x1.c2
  have x2p0 := x2.c0
  have x2p1 := x2.c1
  have x2p2 := x2.c2
  have x3p0 := x3.c0
  have x3p1 := x3.c1
  have x3p2 := x3.c2
  clear x1p0 x1p1 x1p2 x2p0 x2p1 x2p2 x3p0 x3p1 x3p2
  have y1 := x1.drew
  have g1 := h1.drew
  have y2 := x2.drew
  have g2 := h2.drew
  have y3 := x3.drew
  have g3 := h3.drew
  have yu := below_drew uu
  go_wp2_with fail
  go_region_held3 (fun w' => w'.cell? ⟨w.heap.size, 0, none⟩ = some (.bool s1) ∧ w'.cell? ⟨w.heap.size, 1, none⟩ = some (.slice A1 n1 c1) ∧ w'.cell? ⟨w.heap.size, 2, none⟩ = some (.slice A2 n2 c2) ∧ w'.cell? ⟨w.heap.size + 1, 0, none⟩ = some (.bool s2) ∧ w'.cell? ⟨w.heap.size + 1, 1, none⟩ = some (.slice A3 n3 c3) ∧ w'.cell? ⟨w.heap.size + 1, 2, none⟩ = some (.slice A4 n4 c4) ∧ w'.cell? ⟨w.heap.size + 1 + 1, 0, none⟩ = some (.bool s3) ∧ w'.cell? ⟨w.heap.size + 1 + 1, 1, none⟩ = some (.slice A5 n5 c5) ∧ w'.cell? ⟨w.heap.size + 1 + 1, 2, none⟩ = some (.slice A6 n6 c6))
    (first | (with_reducible exact ⟨x1.c0, x1.c1, x1.c2, x2.c0, x2.c1, x2.c2, x3.c0, x3.c1, x3.c2⟩) | (with_reducible exact ⟨y1.c0, y1.c1, y1.c2, y2.c0, y2.c1, y2.c2, y3.c0, y3.c1, y3.c2⟩) | go_keep)
    (first
      | (go_at_call 58
         (with_reducible refine (Mul_any s1 s3 A1 A2 A5 A6 n1 n2 n5 n6 c1 c2 c5 c6 p r _ g1 g3 (by omega) (by omega) (by omega) (by omega)).mono ?_)
         rintro e w5 ⟨s4, A7, n7, c7, A8, n8, c8, rfl, f4, _, _, b5⟩
         replace y1 := y1.below b5
         replace y2 := y2.below b5
         replace y3 := y3.below b5
         replace g1 := g1.below b5
         replace g2 := g2.below b5
         replace g3 := g3.below b5
         replace yu := bthen yu b5
         have hn7 : n7 ≤ 1000 := by have := f4.lens; have := HLm1.out; omega
         have hn8 : n8 ≤ 1000 := by have := f4.lens; have := HLm1.out; omega
         have zf4 := f4.rf)
      | (go_at_call 58
         (with_reducible refine (Mul_any s2 s3 A3 A4 A5 A6 n3 n4 n5 n6 c3 c4 c5 c6 q r _ g2 g3 (by omega) (by omega) (by omega) (by omega)).mono ?_)
         rintro e w5 ⟨s5, A9, n9, c9, A10, n10, c10, rfl, f5, _, _, b5⟩
         replace y1 := y1.below b5
         replace y2 := y2.below b5
         replace y3 := y3.below b5
         replace g1 := g1.below b5
         replace g2 := g2.below b5
         replace g3 := g3.below b5
         replace f4 := f4.below b5
         replace yu := bthen yu b5
         have hn9 : n9 ≤ 1000 := by have := f5.lens; have := HLm2.out; omega
         have hn10 : n10 ≤ 1000 := by have := f5.lens; have := HLm2.out; omega
         have zf5 := f5.rf)
      | (go_at_call 51
         (with_reducible refine (sgn_eq (Cmp_any s4 s5 A7 A8 A9 A10 n7 n8 n9 n10 c7 c8 c9 c10 (p * r) (q * r) _ f4.rf f5.rf (by omega) (by omega) (by omega) (by omega)) EM.out).mono ?_)
         rintro e w5 ⟨rfl, b5⟩
         replace y1 := y1.below b5
         replace y2 := y2.below b5
         replace y3 := y3.below b5
         replace g1 := g1.below b5
         replace g2 := g2.below b5
         replace g3 := g3.below b5
         replace yu := bthen yu b5)
      | (go_at_call 50
         (with_reducible refine (CS.out _ yu).mono ?_)
         rintro e w5 ⟨rfl, b5⟩
         replace y1 := y1.below b5
         replace y2 := y2.below b5
         replace y3 := y3.below b5
         replace g1 := g1.below b5
         replace g2 := g2.below b5
         replace g3 := g3.below b5
         replace yu := bthen yu b5))
  have x1 := y1
  have h1 := g1
  have x2 := y2
  have h2 := g2
  have x3 := y3
  have h3 := g3
  have uu := yu
  clear y1 y2 y3 g1 g2 g3 yu
  have x1p0 := x1.c0
  have x1p1 := x1.c1
  have x1p2 := x1.c2
  have x2p0 := x2.c0
  have x2p1 := x2.c1
  have x2p2 := x2.c2
  have x3p0 := x3.c0
  have x3p1 := x3.c1
  have x3p2 := x3.c2
  clear x1p0 x1p1 x1p2 x2p0 x2p1 x2p2 x3p0 x3p1 x3p2
  have y1 := x1.drew
  have g1 := h1.drew
  have y2 := x2.drew
  have g2 := h2.drew
  have y3 := x3.drew
  have g3 := h3.drew
  have yu := below_drew uu
  go_wp2_with fail
  go_region_held3 (fun w' => w'.cell? ⟨w.heap.size, 0, none⟩ = some (.bool s1) ∧ w'.cell? ⟨w.heap.size, 1, none⟩ = some (.slice A1 n1 c1) ∧ w'.cell? ⟨w.heap.size, 2, none⟩ = some (.slice A2 n2 c2) ∧ w'.cell? ⟨w.heap.size + 1, 0, none⟩ = some (.bool s2) ∧ w'.cell? ⟨w.heap.size + 1, 1, none⟩ = some (.slice A3 n3 c3) ∧ w'.cell? ⟨w.heap.size + 1, 2, none⟩ = some (.slice A4 n4 c4) ∧ w'.cell? ⟨w.heap.size + 1 + 1, 0, none⟩ = some (.bool s3) ∧ w'.cell? ⟨w.heap.size + 1 + 1, 1, none⟩ = some (.slice A5 n5 c5) ∧ w'.cell? ⟨w.heap.size + 1 + 1, 2, none⟩ = some (.slice A6 n6 c6))
    (first | (with_reducible exact ⟨x1.c0, x1.c1, x1.c2, x2.c0, x2.c1, x2.c2, x3.c0, x3.c1, x3.c2⟩) | (with_reducible exact ⟨y1.c0, y1.c1, y1.c2, y2.c0, y2.c1, y2.c2, y3.c0, y3.c1, y3.c2⟩) | go_keep)
    (first
      | (go_at_call 59
         (with_reducible refine (Canon_any s1 A1 A2 n1 n2 c1 c2 p _ g1 (by omega) (by omega)).mono ?_)
         rintro e w5 ⟨s4, A7, n7, c7, A8, n8, c8, rfl, f4, _, _, b5⟩
         replace y1 := y1.below b5
         replace y2 := y2.below b5
         replace y3 := y3.below b5
         replace g1 := g1.below b5
         replace g2 := g2.below b5
         replace g3 := g3.below b5
         replace yu := bthen yu b5
         have hn7 : n7 ≤ 1000 := by have := f4.lens; have := HLp.out; omega
         have hn8 : n8 ≤ 1000 := by have := f4.lens; have := HLp.out; omega
         have zf4 := f4.rf)
      | (go_at_call 59
         (with_reducible refine (Canon_any s2 A3 A4 n3 n4 c3 c4 q _ g2 (by omega) (by omega)).mono ?_)
         rintro e w5 ⟨s5, A9, n9, c9, A10, n10, c10, rfl, f5, _, _, b5⟩
         replace y1 := y1.below b5
         replace y2 := y2.below b5
         replace y3 := y3.below b5
         replace g1 := g1.below b5
         replace g2 := g2.below b5
         replace g3 := g3.below b5
         replace f4 := f4.below b5
         replace yu := bthen yu b5
         have hn9 : n9 ≤ 1000 := by have := f5.lens; have := HLq.out; omega
         have hn10 : n10 ≤ 1000 := by have := f5.lens; have := HLq.out; omega
         have zf5 := f5.rf)
      | (go_at_call 22
         (with_reducible refine (SameFr_any s4 s5 A7 A8 A9 A10 n7 n8 n9 n10 c7 c8 c9 c10 p q _ f4 f5 (by omega) (by omega) (by omega) (by omega) _ EB.out).mono ?_)
         rintro e w5 ⟨rfl, b5⟩
         replace y1 := y1.below b5
         replace y2 := y2.below b5
         replace y3 := y3.below b5
         replace g1 := g1.below b5
         replace g2 := g2.below b5
         replace g3 := g3.below b5
         replace yu := bthen yu b5
         have htx := ht.on (bthen xb yu))
      | (go_at_call 20
         (with_reducible refine (known_any _ htx).mono ?_)
         rintro e w5 ⟨rfl, b5⟩
         replace y1 := y1.below b5
         replace y2 := y2.below b5
         replace y3 := y3.below b5
         replace g1 := g1.below b5
         replace g2 := g2.below b5
         replace g3 := g3.below b5
         replace yu := bthen yu b5))
  go_wp2_with fail
  go_ret
  exact ⟨rfl, bthen xb yu⟩

set_option maxHeartbeats 8000000 in
theorem FracOrdered_d (s1 : Bool) (A1 A2 : Option Addr) (n1 n2 c1 c2 : Nat) (s2 : Bool) (A3 A4 : Option Addr) (n3 n4 c3 c4 : Nat) (s3 : Bool) (A5 A6 : Option Addr) (n5 n6 c5 c6 : Nat) (p q r : Rat) (k2 k3 kc : Int) (k1 : Int) (j1 : k1 < 0) (hk : (k1 == 0) = false) (j2 : k2 ≤ 0) (j3 : k3 ≤ 0) (w : World) (h1 : Rf w s1 A1 n1 c1 A2 n2 c2 p) (h2 : Rf w s2 A3 n3 c3 A4 n4 c4 q) (h3 : Rf w s3 A5 n5 c5 A6 n6 c6 r) (ht : Tab w)
    (l1 : n1 ≤ 6) (l2 : n2 ≤ 6) (l3 : n3 ≤ 6) (l4 : n4 ≤ 6) (l5 : n5 ≤ 6) (l6 : n6 ≤ 6)
    (EC12 : Hid (sgn (p - q) = k1)) (EC23 : Hid (sgn (q - r) = k2)) (EC13 : Hid (sgn (p - r) = k3)) (EC : Hid (sgn r = kc)) (EB : Hid (false = decide (p = q))) (hkc : -1 ≤ kc ∧ kc ≤ 1) :
    Calls Tryd.prog 14 #[.agg #[.bool s1, .slice A1 n1 c1, .slice A2 n2 c2], .agg #[.bool s2, .slice A3 n3 c3, .slice A4 n4 c4], .agg #[.bool s3, .slice A5 n5 c5, .slice A6 n6 c6]] w (ValPost (.bool true) w) := by
  have EC11 : Hid (sgn (p - p) = 0) := Lib.hid (sgn_self p)
  have hp := h1.len
  have hq := h2.len
  have hr := h3.len
  have HLs1 : Hid (ln (p + r) ≤ 1000 ∧ ld (p + r) ≤ 1000) := Lib.hid (by have := ln_add p r; omega)
  have HLs2 : Hid (ln (q + r) ≤ 1000 ∧ ld (q + r) ≤ 1000) := Lib.hid (by have := ln_add q r; omega)
  have HLm1 : Hid (ln (p * r) ≤ 1000 ∧ ld (p * r) ≤ 1000) := Lib.hid (by have := ln_mul p r; omega)
  have HLm2 : Hid (ln (q * r) ≤ 1000 ∧ ld (q * r) ≤ 1000) := Lib.hid (by have := ln_mul q r; omega)
  have HLp : Hid (ln p ≤ 1000 ∧ ld p ≤ 1000) := Lib.hid (by omega)
  have HLq : Hid (ln q ≤ 1000 ∧ ld q ≤ 1000) := Lib.hid (by omega)
  have ES : Hid (sgn ((p + r) - (q + r)) = k1) := Lib.hid (by rw [sgn_add_right, EC12.out])
  obtain ⟨k8, hk8⟩ : ∃ k8, Hid (k8 = k1 * kc) := ⟨_, rfl⟩
  have EM : Hid (sgn (p * r - q * r) = k8) := Lib.hid (by rw [sgn_mul_right, EC12.out, EC.out, hk8.out])
  have hb1 := sgn_bound (p - q)
  rw [EC12.out] at hb1
  have hw : IntKind.i64.wrap (k1 * kc) = k8 := by
    have hb8 := sgn_bound (p * r - q * r)
    rw [EM.out] at hb8
    rw [← hk8.out]
    exact IntWalk.i64_in (by omega) (by omega)
  obtain ⟨u, HU, x1, x2, x3, xb⟩ := boxes3 w (.bool s1) (.slice A1 n1 c1) (.slice A2 n2 c2) (.bool s2) (.slice A3 n3 c3) (.slice A4 n4 c4) (.bool s3) (.slice A5 n5 c5) (.slice A6 n6 c6) 24 24 24
  replace h1 := h1.below xb
  replace h2 := h2.below xb
  replace h3 := h3.below xb
  have C12 : Hid (∀ w', Below u.heap.size u w' → Calls Tryd.prog 51 #[.agg #[.bool s1, .slice A1 n1 c1, .slice A2 n2 c2], .agg #[.bool s2, .slice A3 n3 c3, .slice A4 n4 c4]] w' (ValPost (.int .i64 k1) w')) := Lib.hid (fun w' hb => by
    have := Cmp_any s1 s2 A1 A2 A3 A4 n1 n2 n3 n4 c1 c2 c3 c4 p q w' (h1.below hb) (h2.below hb) (by omega) (by omega) (by omega) (by omega)
    rwa [EC12.out] at this)
  have C23 : Hid (∀ w', Below u.heap.size u w' → Calls Tryd.prog 51 #[.agg #[.bool s2, .slice A3 n3 c3, .slice A4 n4 c4], .agg #[.bool s3, .slice A5 n5 c5, .slice A6 n6 c6]] w' (ValPost (.int .i64 k2) w')) := Lib.hid (fun w' hb => by
    have := Cmp_any s2 s3 A3 A4 A5 A6 n3 n4 n5 n6 c3 c4 c5 c6 q r w' (h2.below hb) (h3.below hb) (by omega) (by omega) (by omega) (by omega)
    rwa [EC23.out] at this)
  have C13 : Hid (∀ w', Below u.heap.size u w' → Calls Tryd.prog 51 #[.agg #[.bool s1, .slice A1 n1 c1, .slice A2 n2 c2], .agg #[.bool s3, .slice A5 n5 c5, .slice A6 n6 c6]] w' (ValPost (.int .i64 k3) w')) := Lib.hid (fun w' hb => by
    have := Cmp_any s1 s3 A1 A2 A5 A6 n1 n2 n5 n6 c1 c2 c5 c6 p r w' (h1.below hb) (h3.below hb) (by omega) (by omega) (by omega) (by omega)
    rwa [EC13.out] at this)
  have C11 : Hid (∀ w', Below u.heap.size u w' → Calls Tryd.prog 51 #[.agg #[.bool s1, .slice A1 n1 c1, .slice A2 n2 c2], .agg #[.bool s1, .slice A1 n1 c1, .slice A2 n2 c2]] w' (ValPost (.int .i64 0) w')) := Lib.hid (fun w' hb => by
    have := Cmp_any s1 s1 A1 A2 A1 A2 n1 n2 n1 n2 c1 c2 c1 c2 p p w' (h1.below hb) (h1.below hb) (by omega) (by omega) (by omega) (by omega)
    rwa [EC11.out] at this)
  have CS : Hid (∀ w', Below u.heap.size u w' → Calls Tryd.prog 50 #[.agg #[.bool s3, .slice A5 n5 c5, .slice A6 n6 c6]] w' (ValPost (.int .i64 kc) w')) := Lib.hid (fun w' hb => by
    have := Sign_any s3 A5 A6 n5 n6 c5 c6 r w' (h3.below hb) (by omega) (by omega)
    rwa [EC.out] at this)
  have uu := Below.refl u.heap.size u
  have x1p0 := x1.c0
  have x1p1 := x1.c1
  have x1p2 := x1.c2
  have x2p0 := x2.c0
  have x2p1 := x2.c1
  have x2p2 := x2.c2
  have x3p0 := x3.c0
  have x3p1 := x3.c1
  have x3p2 := x3.c2
  rw [HU.out] at x1p0 x1p1 x1p2 x2p0 x2p1 x2p2 x3p0 x3p1 x3p2
  clear hp hq hr
  go_enter Tryd.func14, Tryd.ntmps14
  go_wp2_with fail
  rw [← HU.out]
  refine (C12.out _ uu).mono ?_
  rintro e w1 ⟨rfl, b1⟩
  clear x1p0 x1p1 x1p2 x2p0 x2p1 x2p2 x3p0 x3p1 x3p2
  replace x1 := x1.below b1
  replace x2 := x2.below b1
  replace x3 := x3.below b1
  replace h1 := h1.below b1
  replace h2 := h2.below b1
  replace h3 := h3.below b1
  replace uu := bthen uu b1
  have x1p0 := x1.c0
  have x1p1 := x1.c1
  have x1p2 := x1.c2
  have x2p0 := x2.c0
  have x2p1 := x2.c1
  have x2p2 := x2.c2
  have x3p0 := x3.c0
  have x3p1 := x3.c1
  have x3p2 := x3.c2
  go_wp2_with fail
  refine (C23.out _ uu).mono ?_
  rintro e w1 ⟨rfl, b1⟩
  clear x1p0 x1p1 x1p2 x2p0 x2p1 x2p2 x3p0 x3p1 x3p2
  replace x1 := x1.below b1
  replace x2 := x2.below b1
  replace x3 := x3.below b1
  replace h1 := h1.below b1
  replace h2 := h2.below b1
  replace h3 := h3.below b1
  replace uu := bthen uu b1
  have x1p0 := x1.c0
  have x1p1 := x1.c1
  have x1p2 := x1.c2
  have x2p0 := x2.c0
  have x2p1 := x2.c1
  have x2p2 := x2.c2
  have x3p0 := x3.c0
  have x3p1 := x3.c1
  have x3p2 := x3.c2
  go_wp2_with fail
  refine (C13.out _ uu).mono ?_
  rintro e w1 ⟨rfl, b1⟩
  clear x1p0 x1p1 x1p2 x2p0 x2p1 x2p2 x3p0 x3p1 x3p2
  replace x1 := x1.below b1
  replace x2 := x2.below b1
  replace x3 := x3.below b1
  replace h1 := h1.below b1
  replace h2 := h2.below b1
  replace h3 := h3.below b1
  replace uu := bthen uu b1
  have x1p0 := x1.c0
  have x1p1 := x1.c1
  have x1p2 := x1.c2
  have x2p0 := x2.c0
  have x2p1 := x2.c1
  have x2p2 := x2.c2
  have x3p0 := x3.c0
  have x3p1 := x3.c1
  have x3p2 := x3.c2
  clear x1p0 x1p1 x1p2 x2p0 x2p1 x2p2 x3p0 x3p1 x3p2
  have y1 := x1.drew
  have g1 := h1.drew
  have y2 := x2.drew
  have g2 := h2.drew
  have y3 := x3.drew
  have g3 := h3.drew
  have yu := below_drew uu
  go_wp2_with fail
  go_region_held3 (fun w' => w'.cell? ⟨w.heap.size, 0, none⟩ = some (.bool s1) ∧ w'.cell? ⟨w.heap.size, 1, none⟩ = some (.slice A1 n1 c1) ∧ w'.cell? ⟨w.heap.size, 2, none⟩ = some (.slice A2 n2 c2) ∧ w'.cell? ⟨w.heap.size + 1, 0, none⟩ = some (.bool s2) ∧ w'.cell? ⟨w.heap.size + 1, 1, none⟩ = some (.slice A3 n3 c3) ∧ w'.cell? ⟨w.heap.size + 1, 2, none⟩ = some (.slice A4 n4 c4) ∧ w'.cell? ⟨w.heap.size + 1 + 1, 0, none⟩ = some (.bool s3) ∧ w'.cell? ⟨w.heap.size + 1 + 1, 1, none⟩ = some (.slice A5 n5 c5) ∧ w'.cell? ⟨w.heap.size + 1 + 1, 2, none⟩ = some (.slice A6 n6 c6))
    (first | (with_reducible exact ⟨x1.c0, x1.c1, x1.c2, x2.c0, x2.c1, x2.c2, x3.c0, x3.c1, x3.c2⟩) | (with_reducible exact ⟨y1.c0, y1.c1, y1.c2, y2.c0, y2.c1, y2.c2, y3.c0, y3.c1, y3.c2⟩) | go_keep)
    (first
      | (go_at_call 52
         (with_reducible refine (Add_any s1 s3 A1 A2 A5 A6 n1 n2 n5 n6 c1 c2 c5 c6 p r _ g1 g3 (by omega) (by omega) (by omega) (by omega)).mono ?_)
         rintro e w5 ⟨s4, A7, n7, c7, A8, n8, c8, rfl, f4, _, _, b5⟩
         replace y1 := y1.below b5
         replace y2 := y2.below b5
         replace y3 := y3.below b5
         replace g1 := g1.below b5
         replace g2 := g2.below b5
         replace g3 := g3.below b5
         replace yu := bthen yu b5
         have hn7 : n7 ≤ 1000 := by have := f4.lens; have := HLs1.out; omega
         have hn8 : n8 ≤ 1000 := by have := f4.lens; have := HLs1.out; omega
         have zf4 := f4.rf)
      | (go_at_call 52
         (with_reducible refine (Add_any s2 s3 A3 A4 A5 A6 n3 n4 n5 n6 c3 c4 c5 c6 q r _ g2 g3 (by omega) (by omega) (by omega) (by omega)).mono ?_)
         rintro e w5 ⟨s5, A9, n9, c9, A10, n10, c10, rfl, f5, _, _, b5⟩
         replace y1 := y1.below b5
         replace y2 := y2.below b5
         replace y3 := y3.below b5
         replace g1 := g1.below b5
         replace g2 := g2.below b5
         replace g3 := g3.below b5
         replace f4 := f4.below b5
         replace yu := bthen yu b5
         have hn9 : n9 ≤ 1000 := by have := f5.lens; have := HLs2.out; omega
         have hn10 : n10 ≤ 1000 := by have := f5.lens; have := HLs2.out; omega
         have zf5 := f5.rf)
      | (go_at_call 51
         (with_reducible refine (sgn_eq (Cmp_any s4 s5 A7 A8 A9 A10 n7 n8 n9 n10 c7 c8 c9 c10 (p + r) (q + r) _ f4.rf f5.rf (by omega) (by omega) (by omega) (by omega)) ES.out).mono ?_)
         rintro e w5 ⟨rfl, b5⟩
         replace y1 := y1.below b5
         replace y2 := y2.below b5
         replace y3 := y3.below b5
         replace g1 := g1.below b5
         replace g2 := g2.below b5
         replace g3 := g3.below b5
         replace yu := bthen yu b5)
      | (go_at_call 51
         (with_reducible refine (C11.out _ yu).mono ?_)
         rintro e w5 ⟨rfl, b5⟩
         replace y1 := y1.below b5
         replace y2 := y2.below b5
         replace y3 := y3.below b5
         replace g1 := g1.below b5
         replace g2 := g2.below b5
         replace g3 := g3.below b5
         replace yu := bthen yu b5))
  have x1 := y1
  have h1 := g1
  have x2 := y2
  have h2 := g2
  have x3 := y3
  have h3 := g3
  have uu := yu
  clear y1 y2 y3 g1 g2 g3 yu
  have x1p0 := x1.c0
  have x1p1 := x1.c1
  have x1p2 := x1.c2
  have x2p0 := x2.c0
  have x2p1 := x2.c1
  have x2p2 := x2.c2
  have x3p0 := x3.c0
  have x3p1 := x3.c1
  have x3p2 := x3.c2
  clear x1p0 x1p1 x1p2 x2p0 x2p1 x2p2 x3p0 x3p1 x3p2
  have y1 := x1.drew
  have g1 := h1.drew
  have y2 := x2.drew
  have g2 := h2.drew
  have y3 := x3.drew
  have g3 := h3.drew
  have yu := below_drew uu
  go_wp2_with fail
  go_region_held3 (fun w' => w'.cell? ⟨w.heap.size, 0, none⟩ = some (.bool s1) ∧ w'.cell? ⟨w.heap.size, 1, none⟩ = some (.slice A1 n1 c1) ∧ w'.cell? ⟨w.heap.size, 2, none⟩ = some (.slice A2 n2 c2) ∧ w'.cell? ⟨w.heap.size + 1, 0, none⟩ = some (.bool s2) ∧ w'.cell? ⟨w.heap.size + 1, 1, none⟩ = some (.slice A3 n3 c3) ∧ w'.cell? ⟨w.heap.size + 1, 2, none⟩ = some (.slice A4 n4 c4) ∧ w'.cell? ⟨w.heap.size + 1 + 1, 0, none⟩ = some (.bool s3) ∧ w'.cell? ⟨w.heap.size + 1 + 1, 1, none⟩ = some (.slice A5 n5 c5) ∧ w'.cell? ⟨w.heap.size + 1 + 1, 2, none⟩ = some (.slice A6 n6 c6))
    (first | (with_reducible exact ⟨x1.c0, x1.c1, x1.c2, x2.c0, x2.c1, x2.c2, x3.c0, x3.c1, x3.c2⟩) | (with_reducible exact ⟨y1.c0, y1.c1, y1.c2, y2.c0, y2.c1, y2.c2, y3.c0, y3.c1, y3.c2⟩) | go_keep)
    (first
      | (go_at_call 58
         (with_reducible refine (Mul_any s1 s3 A1 A2 A5 A6 n1 n2 n5 n6 c1 c2 c5 c6 p r _ g1 g3 (by omega) (by omega) (by omega) (by omega)).mono ?_)
         rintro e w5 ⟨s4, A7, n7, c7, A8, n8, c8, rfl, f4, _, _, b5⟩
         replace y1 := y1.below b5
         replace y2 := y2.below b5
         replace y3 := y3.below b5
         replace g1 := g1.below b5
         replace g2 := g2.below b5
         replace g3 := g3.below b5
         replace yu := bthen yu b5
         have hn7 : n7 ≤ 1000 := by have := f4.lens; have := HLm1.out; omega
         have hn8 : n8 ≤ 1000 := by have := f4.lens; have := HLm1.out; omega
         have zf4 := f4.rf)
      | (go_at_call 58
         (with_reducible refine (Mul_any s2 s3 A3 A4 A5 A6 n3 n4 n5 n6 c3 c4 c5 c6 q r _ g2 g3 (by omega) (by omega) (by omega) (by omega)).mono ?_)
         rintro e w5 ⟨s5, A9, n9, c9, A10, n10, c10, rfl, f5, _, _, b5⟩
         replace y1 := y1.below b5
         replace y2 := y2.below b5
         replace y3 := y3.below b5
         replace g1 := g1.below b5
         replace g2 := g2.below b5
         replace g3 := g3.below b5
         replace f4 := f4.below b5
         replace yu := bthen yu b5
         have hn9 : n9 ≤ 1000 := by have := f5.lens; have := HLm2.out; omega
         have hn10 : n10 ≤ 1000 := by have := f5.lens; have := HLm2.out; omega
         have zf5 := f5.rf)
      | (go_at_call 51
         (with_reducible refine (sgn_eq (Cmp_any s4 s5 A7 A8 A9 A10 n7 n8 n9 n10 c7 c8 c9 c10 (p * r) (q * r) _ f4.rf f5.rf (by omega) (by omega) (by omega) (by omega)) EM.out).mono ?_)
         rintro e w5 ⟨rfl, b5⟩
         replace y1 := y1.below b5
         replace y2 := y2.below b5
         replace y3 := y3.below b5
         replace g1 := g1.below b5
         replace g2 := g2.below b5
         replace g3 := g3.below b5
         replace yu := bthen yu b5)
      | (go_at_call 50
         (with_reducible refine (CS.out _ yu).mono ?_)
         rintro e w5 ⟨rfl, b5⟩
         replace y1 := y1.below b5
         replace y2 := y2.below b5
         replace y3 := y3.below b5
         replace g1 := g1.below b5
         replace g2 := g2.below b5
         replace g3 := g3.below b5
         replace yu := bthen yu b5))
  have x1 := y1
  have h1 := g1
  have x2 := y2
  have h2 := g2
  have x3 := y3
  have h3 := g3
  have uu := yu
  clear y1 y2 y3 g1 g2 g3 yu
  have x1p0 := x1.c0
  have x1p1 := x1.c1
  have x1p2 := x1.c2
  have x2p0 := x2.c0
  have x2p1 := x2.c1
  have x2p2 := x2.c2
  have x3p0 := x3.c0
  have x3p1 := x3.c1
  have x3p2 := x3.c2
  clear x1p0 x1p1 x1p2 x2p0 x2p1 x2p2 x3p0 x3p1 x3p2
  have y1 := x1.drew
  have g1 := h1.drew
  have y2 := x2.drew
  have g2 := h2.drew
  have y3 := x3.drew
  have g3 := h3.drew
  have yu := below_drew uu
  go_wp2_with fail
  go_region_held3 (fun w' => w'.cell? ⟨w.heap.size, 0, none⟩ = some (.bool s1) ∧ w'.cell? ⟨w.heap.size, 1, none⟩ = some (.slice A1 n1 c1) ∧ w'.cell? ⟨w.heap.size, 2, none⟩ = some (.slice A2 n2 c2) ∧ w'.cell? ⟨w.heap.size + 1, 0, none⟩ = some (.bool s2) ∧ w'.cell? ⟨w.heap.size + 1, 1, none⟩ = some (.slice A3 n3 c3) ∧ w'.cell? ⟨w.heap.size + 1, 2, none⟩ = some (.slice A4 n4 c4) ∧ w'.cell? ⟨w.heap.size + 1 + 1, 0, none⟩ = some (.bool s3) ∧ w'.cell? ⟨w.heap.size + 1 + 1, 1, none⟩ = some (.slice A5 n5 c5) ∧ w'.cell? ⟨w.heap.size + 1 + 1, 2, none⟩ = some (.slice A6 n6 c6))
    (first | (with_reducible exact ⟨x1.c0, x1.c1, x1.c2, x2.c0, x2.c1, x2.c2, x3.c0, x3.c1, x3.c2⟩) | (with_reducible exact ⟨y1.c0, y1.c1, y1.c2, y2.c0, y2.c1, y2.c2, y3.c0, y3.c1, y3.c2⟩) | go_keep)
    (first
      | (go_at_call 59
         (with_reducible refine (Canon_any s1 A1 A2 n1 n2 c1 c2 p _ g1 (by omega) (by omega)).mono ?_)
         rintro e w5 ⟨s4, A7, n7, c7, A8, n8, c8, rfl, f4, _, _, b5⟩
         replace y1 := y1.below b5
         replace y2 := y2.below b5
         replace y3 := y3.below b5
         replace g1 := g1.below b5
         replace g2 := g2.below b5
         replace g3 := g3.below b5
         replace yu := bthen yu b5
         have hn7 : n7 ≤ 1000 := by have := f4.lens; have := HLp.out; omega
         have hn8 : n8 ≤ 1000 := by have := f4.lens; have := HLp.out; omega
         have zf4 := f4.rf)
      | (go_at_call 59
         (with_reducible refine (Canon_any s2 A3 A4 n3 n4 c3 c4 q _ g2 (by omega) (by omega)).mono ?_)
         rintro e w5 ⟨s5, A9, n9, c9, A10, n10, c10, rfl, f5, _, _, b5⟩
         replace y1 := y1.below b5
         replace y2 := y2.below b5
         replace y3 := y3.below b5
         replace g1 := g1.below b5
         replace g2 := g2.below b5
         replace g3 := g3.below b5
         replace f4 := f4.below b5
         replace yu := bthen yu b5
         have hn9 : n9 ≤ 1000 := by have := f5.lens; have := HLq.out; omega
         have hn10 : n10 ≤ 1000 := by have := f5.lens; have := HLq.out; omega
         have zf5 := f5.rf)
      | (go_at_call 22
         (with_reducible refine (SameFr_any s4 s5 A7 A8 A9 A10 n7 n8 n9 n10 c7 c8 c9 c10 p q _ f4 f5 (by omega) (by omega) (by omega) (by omega) _ EB.out).mono ?_)
         rintro e w5 ⟨rfl, b5⟩
         replace y1 := y1.below b5
         replace y2 := y2.below b5
         replace y3 := y3.below b5
         replace g1 := g1.below b5
         replace g2 := g2.below b5
         replace g3 := g3.below b5
         replace yu := bthen yu b5
         have htx := ht.on (bthen xb yu))
      | (go_at_call 20
         (with_reducible refine (known_any _ htx).mono ?_)
         rintro e w5 ⟨rfl, b5⟩
         replace y1 := y1.below b5
         replace y2 := y2.below b5
         replace y3 := y3.below b5
         replace g1 := g1.below b5
         replace g2 := g2.below b5
         replace g3 := g3.below b5
         replace yu := bthen yu b5))
  go_wp2_with fail
  go_ret
  exact ⟨rfl, bthen xb yu⟩

set_option maxHeartbeats 8000000 in
theorem FracOrdered_e (s1 : Bool) (A1 A2 : Option Addr) (n1 n2 c1 c2 : Nat) (s2 : Bool) (A3 A4 : Option Addr) (n3 n4 c3 c4 : Nat) (s3 : Bool) (A5 A6 : Option Addr) (n5 n6 c5 c6 : Nat) (p q r : Rat) (k2 k3 kc : Int) (k1 : Int) (j1 : k1 < 0) (hk : (k1 == 0) = false) (j2 : 0 < k2) (w : World) (h1 : Rf w s1 A1 n1 c1 A2 n2 c2 p) (h2 : Rf w s2 A3 n3 c3 A4 n4 c4 q) (h3 : Rf w s3 A5 n5 c5 A6 n6 c6 r) (ht : Tab w)
    (l1 : n1 ≤ 6) (l2 : n2 ≤ 6) (l3 : n3 ≤ 6) (l4 : n4 ≤ 6) (l5 : n5 ≤ 6) (l6 : n6 ≤ 6)
    (EC12 : Hid (sgn (p - q) = k1)) (EC23 : Hid (sgn (q - r) = k2)) (EC13 : Hid (sgn (p - r) = k3)) (EC : Hid (sgn r = kc)) (EB : Hid (false = decide (p = q))) (hkc : -1 ≤ kc ∧ kc ≤ 1) :
    Calls Tryd.prog 14 #[.agg #[.bool s1, .slice A1 n1 c1, .slice A2 n2 c2], .agg #[.bool s2, .slice A3 n3 c3, .slice A4 n4 c4], .agg #[.bool s3, .slice A5 n5 c5, .slice A6 n6 c6]] w (ValPost (.bool true) w) := by
  have EC11 : Hid (sgn (p - p) = 0) := Lib.hid (sgn_self p)
  have hp := h1.len
  have hq := h2.len
  have hr := h3.len
  have HLs1 : Hid (ln (p + r) ≤ 1000 ∧ ld (p + r) ≤ 1000) := Lib.hid (by have := ln_add p r; omega)
  have HLs2 : Hid (ln (q + r) ≤ 1000 ∧ ld (q + r) ≤ 1000) := Lib.hid (by have := ln_add q r; omega)
  have HLm1 : Hid (ln (p * r) ≤ 1000 ∧ ld (p * r) ≤ 1000) := Lib.hid (by have := ln_mul p r; omega)
  have HLm2 : Hid (ln (q * r) ≤ 1000 ∧ ld (q * r) ≤ 1000) := Lib.hid (by have := ln_mul q r; omega)
  have HLp : Hid (ln p ≤ 1000 ∧ ld p ≤ 1000) := Lib.hid (by omega)
  have HLq : Hid (ln q ≤ 1000 ∧ ld q ≤ 1000) := Lib.hid (by omega)
  have ES : Hid (sgn ((p + r) - (q + r)) = k1) := Lib.hid (by rw [sgn_add_right, EC12.out])
  obtain ⟨k8, hk8⟩ : ∃ k8, Hid (k8 = k1 * kc) := ⟨_, rfl⟩
  have EM : Hid (sgn (p * r - q * r) = k8) := Lib.hid (by rw [sgn_mul_right, EC12.out, EC.out, hk8.out])
  have hb1 := sgn_bound (p - q)
  rw [EC12.out] at hb1
  have hw : IntKind.i64.wrap (k1 * kc) = k8 := by
    have hb8 := sgn_bound (p * r - q * r)
    rw [EM.out] at hb8
    rw [← hk8.out]
    exact IntWalk.i64_in (by omega) (by omega)
  obtain ⟨u, HU, x1, x2, x3, xb⟩ := boxes3 w (.bool s1) (.slice A1 n1 c1) (.slice A2 n2 c2) (.bool s2) (.slice A3 n3 c3) (.slice A4 n4 c4) (.bool s3) (.slice A5 n5 c5) (.slice A6 n6 c6) 24 24 24
  replace h1 := h1.below xb
  replace h2 := h2.below xb
  replace h3 := h3.below xb
  have C12 : Hid (∀ w', Below u.heap.size u w' → Calls Tryd.prog 51 #[.agg #[.bool s1, .slice A1 n1 c1, .slice A2 n2 c2], .agg #[.bool s2, .slice A3 n3 c3, .slice A4 n4 c4]] w' (ValPost (.int .i64 k1) w')) := Lib.hid (fun w' hb => by
    have := Cmp_any s1 s2 A1 A2 A3 A4 n1 n2 n3 n4 c1 c2 c3 c4 p q w' (h1.below hb) (h2.below hb) (by omega) (by omega) (by omega) (by omega)
    rwa [EC12.out] at this)
  have C23 : Hid (∀ w', Below u.heap.size u w' → Calls Tryd.prog 51 #[.agg #[.bool s2, .slice A3 n3 c3, .slice A4 n4 c4], .agg #[.bool s3, .slice A5 n5 c5, .slice A6 n6 c6]] w' (ValPost (.int .i64 k2) w')) := Lib.hid (fun w' hb => by
    have := Cmp_any s2 s3 A3 A4 A5 A6 n3 n4 n5 n6 c3 c4 c5 c6 q r w' (h2.below hb) (h3.below hb) (by omega) (by omega) (by omega) (by omega)
    rwa [EC23.out] at this)
  have C13 : Hid (∀ w', Below u.heap.size u w' → Calls Tryd.prog 51 #[.agg #[.bool s1, .slice A1 n1 c1, .slice A2 n2 c2], .agg #[.bool s3, .slice A5 n5 c5, .slice A6 n6 c6]] w' (ValPost (.int .i64 k3) w')) := Lib.hid (fun w' hb => by
    have := Cmp_any s1 s3 A1 A2 A5 A6 n1 n2 n5 n6 c1 c2 c5 c6 p r w' (h1.below hb) (h3.below hb) (by omega) (by omega) (by omega) (by omega)
    rwa [EC13.out] at this)
  have C11 : Hid (∀ w', Below u.heap.size u w' → Calls Tryd.prog 51 #[.agg #[.bool s1, .slice A1 n1 c1, .slice A2 n2 c2], .agg #[.bool s1, .slice A1 n1 c1, .slice A2 n2 c2]] w' (ValPost (.int .i64 0) w')) := Lib.hid (fun w' hb => by
    have := Cmp_any s1 s1 A1 A2 A1 A2 n1 n2 n1 n2 c1 c2 c1 c2 p p w' (h1.below hb) (h1.below hb) (by omega) (by omega) (by omega) (by omega)
    rwa [EC11.out] at this)
  have CS : Hid (∀ w', Below u.heap.size u w' → Calls Tryd.prog 50 #[.agg #[.bool s3, .slice A5 n5 c5, .slice A6 n6 c6]] w' (ValPost (.int .i64 kc) w')) := Lib.hid (fun w' hb => by
    have := Sign_any s3 A5 A6 n5 n6 c5 c6 r w' (h3.below hb) (by omega) (by omega)
    rwa [EC.out] at this)
  have uu := Below.refl u.heap.size u
  have x1p0 := x1.c0
  have x1p1 := x1.c1
  have x1p2 := x1.c2
  have x2p0 := x2.c0
  have x2p1 := x2.c1
  have x2p2 := x2.c2
  have x3p0 := x3.c0
  have x3p1 := x3.c1
  have x3p2 := x3.c2
  rw [HU.out] at x1p0 x1p1 x1p2 x2p0 x2p1 x2p2 x3p0 x3p1 x3p2
  clear hp hq hr
  go_enter Tryd.func14, Tryd.ntmps14
  go_wp2_with fail
  rw [← HU.out]
  refine (C12.out _ uu).mono ?_
  rintro e w1 ⟨rfl, b1⟩
  clear x1p0 x1p1 x1p2 x2p0 x2p1 x2p2 x3p0 x3p1 x3p2
  replace x1 := x1.below b1
  replace x2 := x2.below b1
  replace x3 := x3.below b1
  replace h1 := h1.below b1
  replace h2 := h2.below b1
  replace h3 := h3.below b1
  replace uu := bthen uu b1
  have x1p0 := x1.c0
  have x1p1 := x1.c1
  have x1p2 := x1.c2
  have x2p0 := x2.c0
  have x2p1 := x2.c1
  have x2p2 := x2.c2
  have x3p0 := x3.c0
  have x3p1 := x3.c1
  have x3p2 := x3.c2
  go_wp2_with fail
  refine (C23.out _ uu).mono ?_
  rintro e w1 ⟨rfl, b1⟩
  clear x1p0 x1p1 x1p2 x2p0 x2p1 x2p2 x3p0 x3p1 x3p2
  replace x1 := x1.below b1
  replace x2 := x2.below b1
  replace x3 := x3.below b1
  replace h1 := h1.below b1
  replace h2 := h2.below b1
  replace h3 := h3.below b1
  replace uu := bthen uu b1
  have x1p0 := x1.c0
  have x1p1 := x1.c1
  have x1p2 := x1.c2
  have x2p0 := x2.c0
  have x2p1 := x2.c1
  have x2p2 := x2.c2
  have x3p0 := x3.c0
  have x3p1 := x3.c1
  have x3p2 := x3.c2
  clear x1p0 x1p1 x1p2 x2p0 x2p1 x2p2 x3p0 x3p1 x3p2
  have y1 := x1.drew
  have g1 := h1.drew
  have y2 := x2.drew
  have g2 := h2.drew
  have y3 := x3.drew
  have g3 := h3.drew
  have yu := below_drew uu
  go_wp2_with fail
  go_region_held3 (fun w' => w'.cell? ⟨w.heap.size, 0, none⟩ = some (.bool s1) ∧ w'.cell? ⟨w.heap.size, 1, none⟩ = some (.slice A1 n1 c1) ∧ w'.cell? ⟨w.heap.size, 2, none⟩ = some (.slice A2 n2 c2) ∧ w'.cell? ⟨w.heap.size + 1, 0, none⟩ = some (.bool s2) ∧ w'.cell? ⟨w.heap.size + 1, 1, none⟩ = some (.slice A3 n3 c3) ∧ w'.cell? ⟨w.heap.size + 1, 2, none⟩ = some (.slice A4 n4 c4) ∧ w'.cell? ⟨w.heap.size + 1 + 1, 0, none⟩ = some (.bool s3) ∧ w'.cell? ⟨w.heap.size + 1 + 1, 1, none⟩ = some (.slice A5 n5 c5) ∧ w'.cell? ⟨w.heap.size + 1 + 1, 2, none⟩ = some (.slice A6 n6 c6))
    (first | (with_reducible exact ⟨x1.c0, x1.c1, x1.c2, x2.c0, x2.c1, x2.c2, x3.c0, x3.c1, x3.c2⟩) | (with_reducible exact ⟨y1.c0, y1.c1, y1.c2, y2.c0, y2.c1, y2.c2, y3.c0, y3.c1, y3.c2⟩) | go_keep)
    (first
      | (go_at_call 52
         (with_reducible refine (Add_any s1 s3 A1 A2 A5 A6 n1 n2 n5 n6 c1 c2 c5 c6 p r _ g1 g3 (by omega) (by omega) (by omega) (by omega)).mono ?_)
         rintro e w5 ⟨s4, A7, n7, c7, A8, n8, c8, rfl, f4, _, _, b5⟩
         replace y1 := y1.below b5
         replace y2 := y2.below b5
         replace y3 := y3.below b5
         replace g1 := g1.below b5
         replace g2 := g2.below b5
         replace g3 := g3.below b5
         replace yu := bthen yu b5
         have hn7 : n7 ≤ 1000 := by have := f4.lens; have := HLs1.out; omega
         have hn8 : n8 ≤ 1000 := by have := f4.lens; have := HLs1.out; omega
         have zf4 := f4.rf)
      | (go_at_call 52
         (with_reducible refine (Add_any s2 s3 A3 A4 A5 A6 n3 n4 n5 n6 c3 c4 c5 c6 q r _ g2 g3 (by omega) (by omega) (by omega) (by omega)).mono ?_)
         rintro e w5 ⟨s5, A9, n9, c9, A10, n10, c10, rfl, f5, _, _, b5⟩
         replace y1 := y1.below b5
         replace y2 := y2.below b5
         replace y3 := y3.below b5
         replace g1 := g1.below b5
         replace g2 := g2.below b5
         replace g3 := g3.below b5
         replace f4 := f4.below b5
         replace yu := bthen yu b5
         have hn9 : n9 ≤ 1000 := by have := f5.lens; have := HLs2.out; omega
         have hn10 : n10 ≤ 1000 := by have := f5.lens; have := HLs2.out; omega
         have zf5 := f5.rf)
      | (go_at_call 51
         (with_reducible refine (sgn_eq (Cmp_any s4 s5 A7 A8 A9 A10 n7 n8 n9 n10 c7 c8 c9 c10 (p + r) (q + r) _ f4.rf f5.rf (by omega) (by omega) (by omega) (by omega)) ES.out).mono ?_)
         rintro e w5 ⟨rfl, b5⟩
         replace y1 := y1.below b5
         replace y2 := y2.below b5
         replace y3 := y3.below b5
         replace g1 := g1.below b5
         replace g2 := g2.below b5
         replace g3 := g3.below b5
         replace yu := bthen yu b5)
      | (go_at_call 51
         (with_reducible refine (C11.out _ yu).mono ?_)
         rintro e w5 ⟨rfl, b5⟩
         replace y1 := y1.below b5
         replace y2 := y2.below b5
         replace y3 := y3.below b5
         replace g1 := g1.below b5
         replace g2 := g2.below b5
         replace g3 := g3.below b5
         replace yu := bthen yu b5))
  have x1 := y1
  have h1 := g1
  have x2 := y2
  have h2 := g2
  have x3 := y3
  have h3 := g3
  have uu := yu
  clear y1 y2 y3 g1 g2 g3 yu
  have x1p0 := x1.c0
  have x1p1 := x1.c1
  have x1p2 := x1.c2
  have x2p0 := x2.c0
  have x2p1 := x2.c1
  have x2p2 := x2.c2
  have x3p0 := x3.c0
  have x3p1 := x3.c1
  have x3p2 := x3.c2
  clear x1p0 x1p1 x1p2 x2p0 x2p1 x2p2 x3p0 x3p1 x3p2
  have y1 := x1.drew
  have g1 := h1.drew
  have y2 := x2.drew
  have g2 := h2.drew
  have y3 := x3.drew
  have g3 := h3.drew
  have yu := below_drew uu
  go_wp2_with fail
  go_region_held3 (fun w' => w'.cell? ⟨w.heap.size, 0, none⟩ = some (.bool s1) ∧ w'.cell? ⟨w.heap.size, 1, none⟩ = some (.slice A1 n1 c1) ∧ w'.cell? ⟨w.heap.size, 2, none⟩ = some (.slice A2 n2 c2) ∧ w'.cell? ⟨w.heap.size + 1, 0, none⟩ = some (.bool s2) ∧ w'.cell? ⟨w.heap.size + 1, 1, none⟩ = some (.slice A3 n3 c3) ∧ w'.cell? ⟨w.heap.size + 1, 2, none⟩ = some (.slice A4 n4 c4) ∧ w'.cell? ⟨w.heap.size + 1 + 1, 0, none⟩ = some (.bool s3) ∧ w'.cell? ⟨w.heap.size + 1 + 1, 1, none⟩ = some (.slice A5 n5 c5) ∧ w'.cell? ⟨w.heap.size + 1 + 1, 2, none⟩ = some (.slice A6 n6 c6))
    (first | (with_reducible exact ⟨x1.c0, x1.c1, x1.c2, x2.c0, x2.c1, x2.c2, x3.c0, x3.c1, x3.c2⟩) | (with_reducible exact ⟨y1.c0, y1.c1, y1.c2, y2.c0, y2.c1, y2.c2, y3.c0, y3.c1, y3.c2⟩) | go_keep)
    (first
      | (go_at_call 58
         (with_reducible refine (Mul_any s1 s3 A1 A2 A5 A6 n1 n2 n5 n6 c1 c2 c5 c6 p r _ g1 g3 (by omega) (by omega) (by omega) (by omega)).mono ?_)
         rintro e w5 ⟨s4, A7, n7, c7, A8, n8, c8, rfl, f4, _, _, b5⟩
         replace y1 := y1.below b5
         replace y2 := y2.below b5
         replace y3 := y3.below b5
         replace g1 := g1.below b5
         replace g2 := g2.below b5
         replace g3 := g3.below b5
         replace yu := bthen yu b5
         have hn7 : n7 ≤ 1000 := by have := f4.lens; have := HLm1.out; omega
         have hn8 : n8 ≤ 1000 := by have := f4.lens; have := HLm1.out; omega
         have zf4 := f4.rf)
      | (go_at_call 58
         (with_reducible refine (Mul_any s2 s3 A3 A4 A5 A6 n3 n4 n5 n6 c3 c4 c5 c6 q r _ g2 g3 (by omega) (by omega) (by omega) (by omega)).mono ?_)
         rintro e w5 ⟨s5, A9, n9, c9, A10, n10, c10, rfl, f5, _, _, b5⟩
         replace y1 := y1.below b5
         replace y2 := y2.below b5
         replace y3 := y3.below b5
         replace g1 := g1.below b5
         replace g2 := g2.below b5
         replace g3 := g3.below b5
         replace f4 := f4.below b5
         replace yu := bthen yu b5
         have hn9 : n9 ≤ 1000 := by have := f5.lens; have := HLm2.out; omega
         have hn10 : n10 ≤ 1000 := by have := f5.lens; have := HLm2.out; omega
         have zf5 := f5.rf)
      | (go_at_call 51
         (with_reducible refine (sgn_eq (Cmp_any s4 s5 A7 A8 A9 A10 n7 n8 n9 n10 c7 c8 c9 c10 (p * r) (q * r) _ f4.rf f5.rf (by omega) (by omega) (by omega) (by omega)) EM.out).mono ?_)
         rintro e w5 ⟨rfl, b5⟩
         replace y1 := y1.below b5
         replace y2 := y2.below b5
         replace y3 := y3.below b5
         replace g1 := g1.below b5
         replace g2 := g2.below b5
         replace g3 := g3.below b5
         replace yu := bthen yu b5)
      | (go_at_call 50
         (with_reducible refine (CS.out _ yu).mono ?_)
         rintro e w5 ⟨rfl, b5⟩
         replace y1 := y1.below b5
         replace y2 := y2.below b5
         replace y3 := y3.below b5
         replace g1 := g1.below b5
         replace g2 := g2.below b5
         replace g3 := g3.below b5
         replace yu := bthen yu b5))
  have x1 := y1
  have h1 := g1
  have x2 := y2
  have h2 := g2
  have x3 := y3
  have h3 := g3
  have uu := yu
  clear y1 y2 y3 g1 g2 g3 yu
  have x1p0 := x1.c0
  have x1p1 := x1.c1
  have x1p2 := x1.c2
  have x2p0 := x2.c0
  have x2p1 := x2.c1
  have x2p2 := x2.c2
  have x3p0 := x3.c0
  have x3p1 := x3.c1
  have x3p2 := x3.c2
  clear x1p0 x1p1 x1p2 x2p0 x2p1 x2p2 x3p0 x3p1 x3p2
  have y1 := x1.drew
  have g1 := h1.drew
  have y2 := x2.drew
  have g2 := h2.drew
  have y3 := x3.drew
  have g3 := h3.drew
  have yu := below_drew uu
  go_wp2_with fail
  go_region_held3 (fun w' => w'.cell? ⟨w.heap.size, 0, none⟩ = some (.bool s1) ∧ w'.cell? ⟨w.heap.size, 1, none⟩ = some (.slice A1 n1 c1) ∧ w'.cell? ⟨w.heap.size, 2, none⟩ = some (.slice A2 n2 c2) ∧ w'.cell? ⟨w.heap.size + 1, 0, none⟩ = some (.bool s2) ∧ w'.cell? ⟨w.heap.size + 1, 1, none⟩ = some (.slice A3 n3 c3) ∧ w'.cell? ⟨w.heap.size + 1, 2, none⟩ = some (.slice A4 n4 c4) ∧ w'.cell? ⟨w.heap.size + 1 + 1, 0, none⟩ = some (.bool s3) ∧ w'.cell? ⟨w.heap.size + 1 + 1, 1, none⟩ = some (.slice A5 n5 c5) ∧ w'.cell? ⟨w.heap.size + 1 + 1, 2, none⟩ = some (.slice A6 n6 c6))
    (first | (with_reducible exact ⟨x1.c0, x1.c1, x1.c2, x2.c0, x2.c1, x2.c2, x3.c0, x3.c1, x3.c2⟩) | (with_reducible exact ⟨y1.c0, y1.c1, y1.c2, y2.c0, y2.c1, y2.c2, y3.c0, y3.c1, y3.c2⟩) | go_keep)
    (first
      | (go_at_call 59
         (with_reducible refine (Canon_any s1 A1 A2 n1 n2 c1 c2 p _ g1 (by omega) (by omega)).mono ?_)
         rintro e w5 ⟨s4, A7, n7, c7, A8, n8, c8, rfl, f4, _, _, b5⟩
         replace y1 := y1.below b5
         replace y2 := y2.below b5
         replace y3 := y3.below b5
         replace g1 := g1.below b5
         replace g2 := g2.below b5
         replace g3 := g3.below b5
         replace yu := bthen yu b5
         have hn7 : n7 ≤ 1000 := by have := f4.lens; have := HLp.out; omega
         have hn8 : n8 ≤ 1000 := by have := f4.lens; have := HLp.out; omega
         have zf4 := f4.rf)
      | (go_at_call 59
         (with_reducible refine (Canon_any s2 A3 A4 n3 n4 c3 c4 q _ g2 (by omega) (by omega)).mono ?_)
         rintro e w5 ⟨s5, A9, n9, c9, A10, n10, c10, rfl, f5, _, _, b5⟩
         replace y1 := y1.below b5
         replace y2 := y2.below b5
         replace y3 := y3.below b5
         replace g1 := g1.below b5
         replace g2 := g2.below b5
         replace g3 := g3.below b5
         replace f4 := f4.below b5
         replace yu := bthen yu b5
         have hn9 : n9 ≤ 1000 := by have := f5.lens; have := HLq.out; omega
         have hn10 : n10 ≤ 1000 := by have := f5.lens; have := HLq.out; omega
         have zf5 := f5.rf)
      | (go_at_call 22
         (with_reducible refine (SameFr_any s4 s5 A7 A8 A9 A10 n7 n8 n9 n10 c7 c8 c9 c10 p q _ f4 f5 (by omega) (by omega) (by omega) (by omega) _ EB.out).mono ?_)
         rintro e w5 ⟨rfl, b5⟩
         replace y1 := y1.below b5
         replace y2 := y2.below b5
         replace y3 := y3.below b5
         replace g1 := g1.below b5
         replace g2 := g2.below b5
         replace g3 := g3.below b5
         replace yu := bthen yu b5
         have htx := ht.on (bthen xb yu))
      | (go_at_call 20
         (with_reducible refine (known_any _ htx).mono ?_)
         rintro e w5 ⟨rfl, b5⟩
         replace y1 := y1.below b5
         replace y2 := y2.below b5
         replace y3 := y3.below b5
         replace g1 := g1.below b5
         replace g2 := g2.below b5
         replace g3 := g3.below b5
         replace yu := bthen yu b5))
  go_wp2_with fail
  go_ret
  exact ⟨rfl, bthen xb yu⟩
theorem FracOrdered_any (s1 : Bool) (A1 A2 : Option Addr) (n1 n2 c1 c2 : Nat) (s2 : Bool) (A3 A4 : Option Addr) (n3 n4 c3 c4 : Nat) (s3 : Bool) (A5 A6 : Option Addr) (n5 n6 c5 c6 : Nat) (p q r : Rat) (w : World) (h1 : Rf w s1 A1 n1 c1 A2 n2 c2 p) (h2 : Rf w s2 A3 n3 c3 A4 n4 c4 q) (h3 : Rf w s3 A5 n5 c5 A6 n6 c6 r) (ht : Tab w) :
    Calls Tryd.prog 14 #[.agg #[.bool s1, .slice A1 n1 c1, .slice A2 n2 c2], .agg #[.bool s2, .slice A3 n3 c3, .slice A4 n4 c4], .agg #[.bool s3, .slice A5 n5 c5, .slice A6 n6 c6]] w (ValPost (.bool true) w) := by
  by_cases hc : 6 < n1 ∨ 6 < n2 ∨ 6 < n3 ∨ 6 < n4 ∨ 6 < n5 ∨ 6 < n6
  · exact FracOrdered_no s1 A1 A2 n1 n2 c1 c2 s2 A3 A4 n3 n4 c3 c4 s3 A5 A6 n5 n6 c5 c6 w ht hc
  have b := sgn_bound r
  by_cases he : p = q
  · have e0 : sgn (p - q) = 0 := by rw [he]; exact sgn_self q
    by_cases h : sgn (q - r) ≤ 0
    · exact FracOrdered_a s1 A1 A2 n1 n2 c1 c2 s2 A3 A4 n3 n4 c3 c4 s3 A5 A6 n5 n6 c5 c6 p q r _ _ _ h (sgn_trans p q r (by omega) h) w h1 h2 h3 ht (by omega) (by omega) (by omega) (by omega) (by omega) (by omega) (Lib.hid e0) rfl rfl rfl (Lib.hid (decide_eq_true he).symm) b
    · exact FracOrdered_b s1 A1 A2 n1 n2 c1 c2 s2 A3 A4 n3 n4 c3 c4 s3 A5 A6 n5 n6 c5 c6 p q r _ _ _ (by omega) w h1 h2 h3 ht (by omega) (by omega) (by omega) (by omega) (by omega) (by omega) (Lib.hid e0) rfl rfl rfl (Lib.hid (decide_eq_true he).symm) b
  · have e0 : sgn (p - q) ≠ 0 := fun e => he (by have := (sgn_zero_iff (p - q)).1 e; grind)
    have e1 : (sgn (p - q) == 0) = false := beq_eq_false_iff_ne.2 e0
    by_cases hk : 0 < sgn (p - q)
    · exact FracOrdered_c s1 A1 A2 n1 n2 c1 c2 s2 A3 A4 n3 n4 c3 c4 s3 A5 A6 n5 n6 c5 c6 p q r _ _ _ _ hk e1 w h1 h2 h3 ht (by omega) (by omega) (by omega) (by omega) (by omega) (by omega) rfl rfl rfl rfl (Lib.hid (decide_eq_false he).symm) b
    · by_cases h : sgn (q - r) ≤ 0
      · exact FracOrdered_d s1 A1 A2 n1 n2 c1 c2 s2 A3 A4 n3 n4 c3 c4 s3 A5 A6 n5 n6 c5 c6 p q r _ _ _ _ (by omega) e1 h (sgn_trans p q r (by omega) h) w h1 h2 h3 ht (by omega) (by omega) (by omega) (by omega) (by omega) (by omega) rfl rfl rfl rfl (Lib.hid (decide_eq_false he).symm) b
      · exact FracOrdered_e s1 A1 A2 n1 n2 c1 c2 s2 A3 A4 n3 n4 c3 c4 s3 A5 A6 n5 n6 c5 c6 p q r _ _ _ _ (by omega) e1 (by omega) w h1 h2 h3 ht (by omega) (by omega) (by omega) (by omega) (by omega) (by omega) rfl rfl rfl rfl (Lib.hid (decide_eq_false he).symm) b
end Go.Proofs.YtaahbabdbopphaaDoor
