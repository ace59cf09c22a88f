/- FracFloors: the walk. -/
import Derived.Test.YtaahbabdbopphaaDoorB0
import Derived.Test.YtaahbabdbopphaaDoorRC
import Derived.Test.YtaahbabdbopphaaDoorSM
import Derived.Test.YtaahbabdbopphaaDoorA12
namespace Go.Proofs.YtaahbabdbopphaaDoor
open Go.RowKit Mx
set_option maxRecDepth 100000

theorem frp_eq {xs : Array Value} {w : World} {f : Nat} {x y : Rat} (h : Calls Tryd.prog f xs w (FrPost x w)) (e : x = y) : Calls Tryd.prog f xs w (FrPost y w) := by subst e; exact h

theorem int_rng {z : Int} (h : (Lit.int .i64 z).wf = true) : -9223372036854775808 ≤ z ∧ z ≤ 9223372036854775807 := by
  simp only [Lit.wf, Bool.and_eq_true, decide_eq_true_eq] at h
  have e1 : IntKind.i64.min = -9223372036854775808 := rfl
  have e2 : IntKind.i64.max = 9223372036854775807 := rfl
  omega
theorem sgn_pos {x : Rat} (h : 0 < x) : sgn x = 1 := by
  rcases sgn_cases x with ⟨h1, e⟩ | ⟨h1, e⟩ | ⟨h1, e⟩
  · exfalso; grind
  · exfalso; grind
  · exact e
theorem sgn_neg' {x : Rat} (h : x < 0) : sgn x = -1 := by
  rcases sgn_cases x with ⟨h1, e⟩ | ⟨h1, e⟩ | ⟨h1, e⟩
  · exact e
  · exfalso; grind
  · exfalso; grind
theorem sgn_nonneg {x : Rat} (h : 0 ≤ x) : 0 ≤ sgn x := by
  rcases sgn_cases x with ⟨h1, e⟩ | ⟨h1, e⟩ | ⟨h1, e⟩
  · exfalso; grind
  · omega
  · omega
theorem floors_lo (q : Rat) (d : Int) (hd : 1 ≤ d) : 0 ≤ sgn (q - (((q * (d : Rat)).floor : Int) : Rat) * (d : Rat)⁻¹) := by
  have hdp : (0 : Rat) < (d : Rat) := by have := Rat.intCast_lt_intCast.2 (show (0 : Int) < d by omega); rwa [Rat.intCast_zero] at this
  have h0 : (d : Rat) ≠ 0 := by grind
  have hf := Rat.floor_le (q * (d : Rat))
  generalize (((q * (d : Rat)).floor : Int) : Rat) = m at hf ⊢
  have e : (q - m * (d : Rat)⁻¹) * (d : Rat) = q * (d : Rat) - m := by grind
  have h := sgn_mul (q - m * (d : Rat)⁻¹) (d : Rat)
  rw [e, sgn_pos hdp, Int.mul_one] at h
  rw [← h]
  exact sgn_nonneg (by grind)
theorem floors_hi (q : Rat) (d : Int) (hd : 1 ≤ d) : sgn (q - (((q * (d : Rat)).floor : Int) : Rat) * (d : Rat)⁻¹ - ((1 : Int) : Rat) / (d : Rat)) = -1 := by
  have hdp : (0 : Rat) < (d : Rat) := by have := Rat.intCast_lt_intCast.2 (show (0 : Int) < d by omega); rwa [Rat.intCast_zero] at this
  have h0 : (d : Rat) ≠ 0 := by grind
  have hf := Rat.lt_floor_add_one (q * (d : Rat))
  rw [Rat.intCast_add, Rat.intCast_one] at hf
  rw [Rat.intCast_one]
  generalize (((q * (d : Rat)).floor : Int) : Rat) = m at hf ⊢
  have e : (q - m * (d : Rat)⁻¹ - 1 / (d : Rat)) * (d : Rat) = q * (d : Rat) - m - 1 := by grind
  have h := sgn_mul (q - m * (d : Rat)⁻¹ - 1 / (d : Rat)) (d : Rat)
  rw [e, sgn_pos hdp, Int.mul_one] at h
  rw [← h]
  exact sgn_neg' (by grind)
set_option maxHeartbeats 4000000 in
theorem FracFloors_no (s1 : Bool) (A1 A2 : Option Addr) (n1 n2 c1 c2 : Nat) (d : Int) (w : World) (ht : Tab w) (h : 12 < n1 ∨ 12 < n2) :
    Calls Tryd.prog 4 #[.agg #[.bool s1, .slice A1 n1 c1, .slice A2 n2 c2], .int .i64 d] w (ValPost (.bool true) w) := by
  obtain ⟨u, HU, x1, xb⟩ := boxes1 w (.bool s1) (.slice A1 n1 c1) (.slice A2 n2 c2) 24
  obtain ⟨v, HV⟩ : ∃ v, Hid (v = u.alloc (.cells #[.bool s1, .slice A1 n1 c1, .slice A2 n2 c2] 24)) := ⟨_, rfl⟩
  have SM := Lib.hid (small_one (T := 24) (s1 := s1) (A1 := A1) (A2 := A2) (n1 := n1) (n2 := n2) (c1 := c1) (c2 := c2) u false (by rw [decide_eq_false]; omega))
  rw [← HV.out, show u.heap.size = w.heap.size + 1 from by rw [HU.out]; simp] at SM
  have xb := bthen xb (show Below u.heap.size u v by rw [HV.out]; exact below_alloc (Below.refl _ _) _)
  have x1p0 := x1.c0
  have x1p1 := x1.c1
  have x1p2 := x1.c2
  rw [HU.out] at x1p0 x1p1 x1p2
  have ht2 := ht.on xb
  clear h
  go_enter Tryd.func4, Tryd.ntmps4
  go_wp2_with fail
  rw [← HU.out, ← HV.out]
  refine SM.out.mono ?_
  rintro e w1 ⟨rfl, hw⟩
  replace hw := hw.symm
  subst hw
  clear x1p0 x1p1 x1p2
  go_wp2_with fail
  refine (known_any _ ht2).mono ?_
  rintro e w9 ⟨rfl, b9⟩
  go_wp2_with fail
  go_ret
  exact ⟨rfl, bthen xb b9⟩

set_option maxHeartbeats 4000000 in
theorem FracFloors_err (s1 : Bool) (A1 A2 : Option Addr) (n1 n2 c1 c2 : Nat) (q : Rat) (d : Int) (w : World) (h1 : Rf w s1 A1 n1 c1 A2 n2 c2 q) (ht : Tab w) (l1 : n1 ≤ 12) (l2 : n2 ≤ 12) (hd : d < 1) :
    Calls Tryd.prog 4 #[.agg #[.bool s1, .slice A1 n1 c1, .slice A2 n2 c2], .int .i64 d] w (ValPost (.bool true) w) := by
  have Lz : Hid (ln (0 : Rat) ≤ 1000 ∧ ld (0 : Rat) ≤ 1000) := Lib.hid (by have := ln_zero; omega)
  obtain ⟨u, HU, x1, xb⟩ := boxes1 w (.bool s1) (.slice A1 n1 c1) (.slice A2 n2 c2) 24
  obtain ⟨v, HV⟩ : ∃ v, Hid (v = u.alloc (.cells #[.bool s1, .slice A1 n1 c1, .slice A2 n2 c2] 24)) := ⟨_, rfl⟩
  have SM := Lib.hid (small_one (T := 24) (s1 := s1) (A1 := A1) (A2 := A2) (n1 := n1) (n2 := n2) (c1 := c1) (c2 := c2) u true (by rw [decide_eq_true]; omega))
  rw [← HV.out, show u.heap.size = w.heap.size + 1 from by rw [HU.out]; simp] at SM
  have vb : Below u.heap.size u v := by rw [HV.out]; exact below_alloc (Below.refl _ _) _
  have x1p0 := x1.c0
  have x1p1 := x1.c1
  have x1p2 := x1.c2
  rw [HU.out] at x1p0 x1p1 x1p2
  replace h1 := (h1.below xb).below vb
  replace x1 := x1.below vb
  replace xb := bthen xb vb
  have uu := Below.refl v.heap.size v
  go_enter Tryd.func4, Tryd.ntmps4
  go_wp2_with fail
  rw [← HU.out, ← HV.out]
  refine SM.out.mono ?_
  rintro e w1 ⟨rfl, hw⟩
  replace hw := hw.symm
  subst hw
  clear x1p0 x1p1 x1p2 SM vb
  have x1p0 := x1.c0
  have x1p1 := x1.c1
  have x1p2 := x1.c2
  go_wp2_with fail
  refine (Floor_err s1 A1 A2 n1 n2 c1 c2 d _ hd).mono ?_
  rintro e w3 ⟨s3, A5, n5, c5, A6, n6, c6, rfl, f3, _, _, b5⟩
  obtain ⟨u3, HU3, x3, xb3⟩ := boxes1 w3 (.bool s3) (.slice A5 n5 c5) (.slice A6 n6 c6) 24
  clear x1p0 x1p1 x1p2
  replace xb := bthen xb b5
  replace f3 := f3.below xb3
  replace xb := bthen xb xb3
  have hn5 : n5 ≤ 1000 := by have := f3.lens; have := Lz.out; omega
  have hn6 : n6 ≤ 1000 := by have := f3.lens; have := Lz.out; omega
  have x3p0 := x3.c0
  have x3p1 := x3.c1
  have x3p2 := x3.c2
  rw [HU3.out] at x3p0 x3p1 x3p2
  have S0 := Lib.hid (SameFr_any s3 false A5 A6 none none n5 n6 0 0 c5 c6 0 0 0 0 u3 f3 (Fr.zero_ u3) (by omega) (by omega) (by omega) (by omega) true (decide_eq_true rfl).symm)
  go_wp2_with fail
  rw [← HU3.out]
  refine S0.out.mono ?_
  rintro e w5 ⟨rfl, b5⟩
  replace xb := bthen xb b5
  have htx := ht.on xb
  go_wp2_with fail
  refine (known_any _ htx).mono ?_
  rintro e w6 ⟨rfl, b6⟩
  go_wp2_with fail
  go_ret
  exact ⟨rfl, bthen xb b6⟩

set_option maxHeartbeats 8000000 in
theorem FracFloors_yes (s1 : Bool) (A1 A2 : Option Addr) (n1 n2 c1 c2 : Nat) (q : Rat) (d : Int) (w : World) (h1 : Rf w s1 A1 n1 c1 A2 n2 c2 q) (ht : Tab w) (l1 : n1 ≤ 12) (l2 : n2 ≤ 12) (hd : 1 ≤ d) (hd1 : d ≤ 9223372036854775807) :
    Calls Tryd.prog 4 #[.agg #[.bool s1, .slice A1 n1 c1, .slice A2 n2 c2], .int .i64 d] w (ValPost (.bool true) w) := by
  have e1 := h1.len
  have hld := ln_i64 (z := d) (by omega) (by omega)
  have hdd := (ln_int d).2
  obtain ⟨z, hz⟩ : ∃ z, Hid (z = (((q * (d : Rat)).floor : Int) : Rat) * (d : Rat)⁻¹) := ⟨_, rfl⟩
  have hd0 : rn (d : Rat) ≠ 0 := fun e => by have := rn_zero.1 e; rw [Rat.intCast_eq_zero_iff] at this; omega
  have Lf : Hid (ln z ≤ 1000 ∧ ld z ≤ 1000) := Lib.hid (by
    rw [hz.out]
    have a1 := ln_mul q (d : Rat)
    have a2 := ln_floor (q * (d : Rat))
    have a3 := (ln_int ((q * (d : Rat)).floor)).2
    have a4 := ln_mul (((q * (d : Rat)).floor : Int) : Rat) (d : Rat)⁻¹
    have a5 := ln_inv hd0
    omega)
  have Lr : Hid (ln (q - z) ≤ 3000 ∧ ld (q - z) ≤ 3000) := Lib.hid (by rw [show q - z = q + -z from by grind]; have := ln_add q (-z); have := ln_neg z; have := Lf.out; omega)
  have Ld : Hid (ln (((1 : Int) : Rat) / (d : Rat)) ≤ 1000 ∧ ld (((1 : Int) : Rat) / (d : Rat)) ≤ 1000) := Lib.hid (by
    rw [Rat.div_def, Rat.intCast_one]
    have a4 := ln_mul 1 (d : Rat)⁻¹
    have a5 := ln_inv hd0
    have a6 := ln_one
    omega)
  obtain ⟨ks, hks, hk0⟩ : ∃ k, sgn (q - z) = k ∧ 0 ≤ k := ⟨_, rfl, by rw [hz.out]; exact floors_lo q d hd⟩
  have HKS := Lib.hid hks
  have HKC : Hid (sgn (q - z - ((1 : Int) : Rat) / (d : Rat)) = -1) := Lib.hid (by rw [hz.out]; exact floors_hi q d hd)
  clear e1 hld hdd hks hd0
  obtain ⟨u, HU, x1, xb⟩ := boxes1 w (.bool s1) (.slice A1 n1 c1) (.slice A2 n2 c2) 24
  obtain ⟨v, HV⟩ : ∃ v, Hid (v = u.alloc (.cells #[.bool s1, .slice A1 n1 c1, .slice A2 n2 c2] 24)) := ⟨_, rfl⟩
  have SM := Lib.hid (small_one (T := 24) (s1 := s1) (A1 := A1) (A2 := A2) (n1 := n1) (n2 := n2) (c1 := c1) (c2 := c2) u true (by rw [decide_eq_true]; omega))
  rw [← HV.out, show u.heap.size = w.heap.size + 1 from by rw [HU.out]; simp] at SM
  have vb : Below u.heap.size u v := by rw [HV.out]; exact below_alloc (Below.refl _ _) _
  have x1p0 := x1.c0
  have x1p1 := x1.c1
  have x1p2 := x1.c2
  rw [HU.out] at x1p0 x1p1 x1p2
  replace h1 := (h1.below xb).below vb
  replace x1 := x1.below vb
  replace xb := bthen xb vb
  have uu := Below.refl v.heap.size v
  go_enter Tryd.func4, Tryd.ntmps4
  go_wp2_with fail
  rw [← HU.out, ← HV.out]
  refine SM.out.mono ?_
  rintro e w1 ⟨rfl, hw⟩
  replace hw := hw.symm
  subst hw
  clear x1p0 x1p1 x1p2 SM vb
  have x1p0 := x1.c0
  have x1p1 := x1.c1
  have x1p2 := x1.c2
  have FL := Lib.hid (Floor_yes s1 A1 A2 n1 n2 c1 c2 q d v h1 (by omega) (by omega) hd hd1)
  rw [← hz.out] at FL
  go_wp2_with fail
  refine FL.out.mono ?_
  rintro e w3 ⟨s3, A5, n5, c5, A6, n6, c6, rfl, f3, _, _, b5⟩
  obtain ⟨u3, HU3, x3, xb3⟩ := boxes1 w3 (.bool s3) (.slice A5 n5 c5) (.slice A6 n6 c6) 24
  clear x1p0 x1p1 x1p2 FL
  replace x1 := x1.below b5
  replace h1 := h1.below b5
  replace xb := bthen xb b5
  replace x1 := x1.below xb3
  replace h1 := h1.below xb3
  replace f3 := f3.below xb3
  replace xb := bthen xb xb3
  have hn5 : n5 ≤ 1000 := by have := f3.lens; have := Lf.out; omega
  have hn6 : n6 ≤ 1000 := by have := f3.lens; have := Lf.out; omega
  have x1p0 := x1.c0
  have x1p1 := x1.c1
  have x1p2 := x1.c2
  have x3p0 := x3.c0
  have x3p1 := x3.c1
  have x3p2 := x3.c2
  rw [HU3.out] at x1p0 x1p1 x1p2 x3p0 x3p1 x3p2
  go_wp2_with fail
  rw [← HU3.out]
  refine (rSub_any s1 A1 A2 n1 n2 c1 c2 s3 A5 A6 n5 n6 c5 c6 q z _ h1 f3.rf (by omega) (by omega) (by omega) (by omega)).mono ?_
  rintro e w4 ⟨s4, A7, n7, c7, A8, n8, c8, rfl, f4, _, _, b5⟩
  obtain ⟨u4, HU4, x4, xb4⟩ := boxes1 w4 (.bool s4) (.slice A7 n7 c7) (.slice A8 n8 c8) 24
  clear x1p0 x1p1 x1p2 x3p0 x3p1 x3p2
  replace x1 := x1.below b5
  replace h1 := h1.below b5
  replace x3 := x3.below b5
  replace f3 := f3.below b5
  replace xb := bthen xb b5
  replace x1 := x1.below xb4
  replace h1 := h1.below xb4
  replace x3 := x3.below xb4
  replace f3 := f3.below xb4
  replace f4 := f4.below xb4
  replace xb := bthen xb xb4
  have hn7 : n7 ≤ 3000 := by have := f4.lens; have := Lr.out; omega
  have hn8 : n8 ≤ 3000 := by have := f4.lens; have := Lr.out; omega
  have y1 := x1.drew
  have y3 := x3.drew
  have y4 := x4.drew
  have g1 := h1.drew
  have g3 := f3.below (below_drew (Below.refl _ u4))
  have g4 := f4.below (below_drew (Below.refl _ u4))
  have yu := below_drew xb
  go_wp2_with fail
  rw [← HU4.out]
  go_region_held3 (fun w' => w'.cell? ⟨w.heap.size, 0, none⟩ = some (.bool s1) ∧ w'.cell? ⟨w.heap.size, 1, none⟩ = some (.slice A1 n1 c1) ∧ w'.cell? ⟨w.heap.size, 2, none⟩ = some (.slice A2 n2 c2) ∧ w'.cell? ⟨w3.heap.size, 0, none⟩ = some (.bool s3) ∧ w'.cell? ⟨w3.heap.size, 1, none⟩ = some (.slice A5 n5 c5) ∧ w'.cell? ⟨w3.heap.size, 2, none⟩ = some (.slice A6 n6 c6) ∧ w'.cell? ⟨w4.heap.size, 0, none⟩ = some (.bool s4) ∧ w'.cell? ⟨w4.heap.size, 1, none⟩ = some (.slice A7 n7 c7) ∧ w'.cell? ⟨w4.heap.size, 2, none⟩ = some (.slice A8 n8 c8))
    (first | (with_reducible exact ⟨x1.c0, x1.c1, x1.c2, x3.c0, x3.c1, x3.c2, x4.c0, x4.c1, x4.c2⟩) | (with_reducible exact ⟨y1.c0, y1.c1, y1.c2, y3.c0, y3.c1, y3.c2, y4.c0, y4.c1, y4.c2⟩) | go_keep)
    (first
      | (go_at_call 28
         (with_reducible refine (frp_eq (rFloor_any s1 A1 A2 n1 n2 c1 c2 q d _ g1 (by omega) (by omega) hd hd1) hz.out.symm).mono ?_)
         rintro e w5 ⟨s5, A9, n9, c9, A10, n10, c10, rfl, f5, _, _, b5⟩
         replace y1 := y1.below b5
         replace y3 := y3.below b5
         replace y4 := y4.below b5
         replace g1 := g1.below b5
         replace g3 := g3.below b5
         replace g4 := g4.below b5
         replace yu := bthen yu b5
         have hn9 : n9 ≤ 1000 := by have := f5.lens; have := Lf.out; omega
         have hn10 : n10 ≤ 1000 := by have := f5.lens; have := Lf.out; omega)
      | (go_at_call 22
         (with_reducible refine (SameFr_any s3 s5 A5 A6 A9 A10 n5 n6 n9 n10 c5 c6 c9 c10 _ _ _ g3 f5 (by omega) (by omega) (by omega) (by omega) true (decide_eq_true rfl).symm).mono ?_)
         rintro e w5 ⟨rfl, b5⟩
         replace y1 := y1.below b5
         replace y3 := y3.below b5
         replace y4 := y4.below b5
         replace g1 := g1.below b5
         replace g3 := g3.below b5
         replace g4 := g4.below b5
         replace yu := bthen yu b5)
      | (go_at_call 23
         (with_reducible refine (sgn_eq (rSign_any s4 A7 A8 n7 n8 c7 c8 _ _ g4.rf (by omega) (by omega)) HKS.out).mono ?_)
         rintro e w5 ⟨rfl, b5⟩
         replace y1 := y1.below b5
         replace y3 := y3.below b5
         replace y4 := y4.below b5
         replace g1 := g1.below b5
         replace g3 := g3.below b5
         replace g4 := g4.below b5
         replace yu := bthen yu b5)
      | (go_at_call 30
         (with_reducible refine (rMake_any 1 d _ (by omega) (by omega) (by omega) (by omega) (by omega)).mono ?_)
         rintro e w5 ⟨s6, A11, n11, c11, A12, n12, c12, rfl, f6, _, _, b5⟩
         replace y1 := y1.below b5
         replace y3 := y3.below b5
         replace y4 := y4.below b5
         replace g1 := g1.below b5
         replace g3 := g3.below b5
         replace g4 := g4.below b5
         replace yu := bthen yu b5
         have hn11 : n11 ≤ 1000 := by have := f6.lens; have := Ld.out; omega
         have hn12 : n12 ≤ 1000 := by have := f6.lens; have := Ld.out; omega)
      | (go_at_call 29
         (with_reducible refine (sgn_eq (rCmp_any s4 A7 A8 n7 n8 c7 c8 s6 A11 A12 n11 n12 c11 c12 _ _ _ g4.rf f6.rf (by omega) (by omega) (by omega) (by omega)) HKC.out).mono ?_)
         rintro e w5 ⟨rfl, b5⟩
         replace y1 := y1.below b5
         replace y3 := y3.below b5
         replace y4 := y4.below b5
         replace g1 := g1.below b5
         replace g3 := g3.below b5
         replace g4 := g4.below b5
         replace yu := bthen yu b5
         have htx := ht.on yu)
      | (go_at_call 20
         (with_reducible refine (known_any _ htx).mono ?_)
         rintro e w5 ⟨rfl, b5⟩
         replace y1 := y1.below b5
         replace y3 := y3.below b5
         replace y4 := y4.below b5
         replace g1 := g1.below b5
         replace g3 := g3.below b5
         replace g4 := g4.below b5
         replace yu := bthen yu b5))
  go_wp2_with fail
  go_ret
  exact ⟨rfl, yu⟩
theorem FracFloors_any (s1 : Bool) (A1 A2 : Option Addr) (n1 n2 c1 c2 : Nat) (q : Rat) (d : Int) (w : World) (h1 : Rf w s1 A1 n1 c1 A2 n2 c2 q) (ht : Tab w) (hd1 : d ≤ 9223372036854775807) :
    Calls Tryd.prog 4 #[.agg #[.bool s1, .slice A1 n1 c1, .slice A2 n2 c2], .int .i64 d] w (ValPost (.bool true) w) := by
  by_cases hc : 12 < n1 ∨ 12 < n2
  · exact FracFloors_no s1 A1 A2 n1 n2 c1 c2 d w ht hc
  by_cases hd : d < 1
  · exact FracFloors_err s1 A1 A2 n1 n2 c1 c2 q d w h1 ht (by omega) (by omega) hd
  · exact FracFloors_yes s1 A1 A2 n1 n2 c1 c2 q d w h1 ht (by omega) (by omega) (by omega) hd1
end Go.Proofs.YtaahbabdbopphaaDoor
