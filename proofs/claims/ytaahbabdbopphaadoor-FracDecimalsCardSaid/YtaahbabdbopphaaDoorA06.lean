/- FracDecimals: the walk. -/
import Derived.Test.YtaahbabdbopphaaDoorRD
namespace Go.Proofs.YtaahbabdbopphaaDoor
open Go.RowKit Mx
set_option maxRecDepth 100000

set_option maxHeartbeats 4000000 in
theorem FracDecimals_no (s1 : Bool) (A1 A2 : Option Addr) (n1 n2 c1 c2 : Nat) (n : Int) (w : World) (ht : Tab w) (h : 8 < n1 ∨ 8 < n2 ∨ (40 < n ∧ n ≤ 1000)) :
    Calls Tryd.prog 6 #[.agg #[.bool s1, .slice A1 n1 c1, .slice A2 n2 c2], .int .i64 n] w (ValPost (.bool true) w) := by
  obtain ⟨u, HU, x1, xb⟩ := boxes1 w (.bool s1) (.slice A1 n1 c1) (.slice A2 n2 c2) 24
  have x1p0 := x1.c0
  have x1p1 := x1.c1
  have x1p2 := x1.c2
  rw [HU.out] at x1p0 x1p1 x1p2
  have ht2 := ht.on xb
  have hcase : 8 < n1 ∨ (n1 ≤ 8 ∧ 8 < n2) ∨ (n1 ≤ 8 ∧ n2 ≤ 8 ∧ 40 < n ∧ n ≤ 1000) := by omega
  clear h
  rcases hcase with h | ⟨h, h'⟩ | ⟨h, h', g, g'⟩
  · go_enter Tryd.func6, Tryd.ntmps6
    go_wp2_with fail
    rw [← HU.out]
    refine (known_any _ ht2).mono ?_
    rintro e w9 ⟨rfl, b9⟩
    go_wp2_with fail
    go_ret
    exact ⟨rfl, bthen xb b9⟩
  · go_enter Tryd.func6, Tryd.ntmps6
    go_wp2_with fail
    rw [← HU.out]
    refine (known_any _ ht2).mono ?_
    rintro e w9 ⟨rfl, b9⟩
    go_wp2_with fail
    go_ret
    exact ⟨rfl, bthen xb b9⟩
  · go_enter Tryd.func6, Tryd.ntmps6
    go_wp2_with fail
    rw [← HU.out]
    refine (known_any _ ht2).mono ?_
    rintro e w9 ⟨rfl, b9⟩
    go_wp2_with fail
    go_ret
    exact ⟨rfl, bthen xb b9⟩

set_option maxHeartbeats 4000000 in
theorem FracDecimals_small (s1 : Bool) (A1 A2 : Option Addr) (n1 n2 c1 c2 : Nat) (n : Int) (w : World) (ht : Tab w) (l1 : n1 ≤ 8) (l2 : n2 ≤ 8) (hn : n < 0) :
    Calls Tryd.prog 6 #[.agg #[.bool s1, .slice A1 n1 c1, .slice A2 n2 c2], .int .i64 n] w (ValPost (.bool true) w) := by
  have hn4 : n ≤ 40 := by omega
  obtain ⟨u, HU, x1, xb⟩ := boxes1 w (.bool s1) (.slice A1 n1 c1) (.slice A2 n2 c2) 24
  have x1p0 := x1.c0
  have x1p1 := x1.c1
  have x1p2 := x1.c2
  rw [HU.out] at x1p0 x1p1 x1p2
  have PC := Lib.hid (Decimal_err s1 A1 A2 n1 n2 c1 c2 n u (by omega))
  go_enter Tryd.func6, Tryd.ntmps6
  go_wp2_with fail
  rw [← HU.out]
  refine PC.out.mono ?_
  rintro e w2 ⟨rfl, b2⟩
  replace xb := bthen xb b2
  have htx := ht.on xb
  clear x1p0 x1p1 x1p2
  go_wp2_with fail
  refine (known_any _ htx).mono ?_
  rintro e w6 ⟨rfl, b6⟩
  go_wp2_with fail
  go_ret
  exact ⟨rfl, bthen xb b6⟩

set_option maxHeartbeats 4000000 in
theorem FracDecimals_big (s1 : Bool) (A1 A2 : Option Addr) (n1 n2 c1 c2 : Nat) (n : Int) (w : World) (ht : Tab w) (l1 : n1 ≤ 8) (l2 : n2 ≤ 8) (hn : 1000 < n) :
    Calls Tryd.prog 6 #[.agg #[.bool s1, .slice A1 n1 c1, .slice A2 n2 c2], .int .i64 n] w (ValPost (.bool true) w) := by
  have hn4 : 40 < n := by omega
  have hn0 : ¬ (n < 0) := by omega
  have hn1 : ¬ (n ≤ 1000) := by omega
  obtain ⟨u, HU, x1, xb⟩ := boxes1 w (.bool s1) (.slice A1 n1 c1) (.slice A2 n2 c2) 24
  have x1p0 := x1.c0
  have x1p1 := x1.c1
  have x1p2 := x1.c2
  rw [HU.out] at x1p0 x1p1 x1p2
  have PC := Lib.hid (Decimal_err s1 A1 A2 n1 n2 c1 c2 n u (by omega))
  go_enter Tryd.func6, Tryd.ntmps6
  go_wp2_with fail
  rw [← HU.out]
  refine PC.out.mono ?_
  rintro e w2 ⟨rfl, b2⟩
  replace xb := bthen xb b2
  have htx := ht.on xb
  clear x1p0 x1p1 x1p2
  go_wp2_with fail
  refine (known_any _ htx).mono ?_
  rintro e w6 ⟨rfl, b6⟩
  go_wp2_with fail
  go_ret
  exact ⟨rfl, bthen xb b6⟩

theorem rnd_len (q : Rat) (p : Nat) : (dig (rnd q p)).length ≤ ln q + p + ld q + 4 := by
  unfold rnd ln ld
  have h1 := len_mono (Nat.div_le_self (rn q * 10 ^ p * 2 + rd q) (rd q * 2))
  have h2 := len_add (rn q * 10 ^ p * 2) (rd q)
  have h3 := len_mul (rn q * 10 ^ p) 2
  have h4 := len_mul (rn q) (10 ^ p)
  have h5 := len_ten_pow p
  have h6 := len_small (show 2 < 4294967296 by decide)
  omega
theorem dtx_len (q : Rat) (p : Nat) (h1 : ln q ≤ 9) (h2 : ld q ≤ 9) (hp : p ≤ 40) : (dtx q p).length ≤ 10000 := by
  have h3 := rnd_len q p
  have h4 := dec_len (a := rnd q p) (n := 70) (by omega) (by omega)
  have h5 := (dpad_len (Lib.decDigits (rnd q p)) p).2
  have h6 : (dpoint (dpad (Lib.decDigits (rnd q p)) p) p).length ≤ (dpad (Lib.decDigits (rnd q p)) p).length + 1 := by
    unfold dpoint
    split
    · omega
    · rw [List.length_append, List.length_cons, List.length_take, List.length_drop]; omega
  unfold dtx
  rw [List.length_append]
  split <;> simp only [List.length_nil, List.length_cons] <;> omega
set_option maxHeartbeats 16000000 in
theorem FracDecimals_yes (s1 : Bool) (A1 A2 : Option Addr) (n1 n2 c1 c2 : Nat) (q : Rat) (p : Nat) (w : World) (h1 : Rf w s1 A1 n1 c1 A2 n2 c2 q) (ht : Tab w) (l1 : n1 ≤ 8) (l2 : n2 ≤ 8) (hp : p ≤ 40) :
    Calls Tryd.prog 6 #[.agg #[.bool s1, .slice A1 n1 c1, .slice A2 n2 c2], .int .i64 (p : Int)] w (ValPost (.bool true) w) := by
  have e1 := h1.len
  obtain ⟨S, HS⟩ : ∃ S, Hid (S = bs (dtx q p)) := ⟨_, rfl⟩
  obtain ⟨r, hr⟩ : ∃ r : Rat, Hid (r = mkRat (sg (rneg q) (rnd q p)) ((10 ^ p : Nat))) := ⟨mkRat (sg (rneg q) (rnd q p)) ((10 ^ p : Nat)), Lib.hid rfl⟩
  obtain ⟨z, hz⟩ : ∃ z : Rat, Hid (z = mkRat (sg false (rn (q - r))) (rd (q - r))) := ⟨_, Lib.hid rfl⟩
  obtain ⟨sc, hsc⟩ : ∃ sc, Hid (sc = ((10 : Int) : Rat) ^ p) := ⟨_, Lib.hid rfl⟩
  obtain ⟨two, htwo⟩ : ∃ two, Hid (two = ((2 : Int) : Rat)) := ⟨_, Lib.hid rfl⟩
  obtain ⟨one, hone⟩ : ∃ one, Hid (one = ((1 : Int) : Rat)) := ⟨_, Lib.hid rfl⟩
  have Lr : Hid (ln r ≤ 1000 ∧ ld r ≤ 1000) := Lib.hid (by
    rw [hr.out]
    have h2 := mk_len (rneg q) (rnd q p) (10 ^ p) (by have : 0 < 10 ^ p := Nat.pow_pos (by decide); omega)
    have h3 := rnd_len q p
    have h4 := len_ten_pow p
    omega)
  have Ld : Hid (ln (q - r) ≤ 5000 ∧ ld (q - r) ≤ 5000) := Lib.hid (by
    rw [Rat.sub_eq_add_neg]
    have h2 := ln_add q (-r)
    have h3 := ln_neg r
    have h4 := Lr.out
    omega)
  have Lz : Hid (ln z ≤ 5000 ∧ ld z ≤ 5000) := Lib.hid (by rw [hz.out]; have := abs_len (q - r); have := Ld.out; omega)
  have H10 : Hid (ln ((10 : Int) : Rat) ≤ 10 ∧ ld ((10 : Int) : Rat) ≤ 10) := Lib.hid (by have h1 := ln_i64 (z := 10) (by omega) (by omega); have h2 := (ln_int 10).2; omega)
  have H2 : Hid (ln two ≤ 10 ∧ ld two ≤ 10) := Lib.hid (by rw [htwo.out]; have h1 := ln_i64 (z := 2) (by omega) (by omega); have h2 := (ln_int 2).2; omega)
  have H1 : Hid (ln one ≤ 10 ∧ ld one ≤ 10) := Lib.hid (by rw [hone.out]; have h1 := ln_i64 (z := 1) (by omega) (by omega); have h2 := (ln_int 1).2; omega)
  have Ls : Hid (ln sc ≤ 500 ∧ ld sc ≤ 500) := Lib.hid (by
    rw [hsc.out, ← Rat.intCast_pow]
    have h1 := ln_int ((10 : Int) ^ p)
    rw [Int.natAbs_pow] at h1
    have h2 := len_ten_pow p
    rw [h1.1, h1.2]
    show (dig (10 ^ p)).length ≤ 500 ∧ 1 ≤ 500
    omega)
  have Lts : Hid (ln (two * sc) ≤ 600 ∧ ld (two * sc) ≤ 600) := Lib.hid (by have := ln_mul two sc; have := H2.out; have := Ls.out; omega)
  have Lzt : Hid (ln (z * (two * sc)) ≤ 6000 ∧ ld (z * (two * sc)) ≤ 6000) := Lib.hid (by have := ln_mul z (two * sc); have := Lz.out; have := Lts.out; omega)
  obtain ⟨kr, hkr⟩ : ∃ kr, Hid (sgn (z * (two * sc) - one) = kr) := ⟨_, Lib.hid rfl⟩
  have hk0 : kr ≤ 0 := by rw [← hkr.out, hz.out, htwo.out, hsc.out, hone.out]; exact dec_near q p (q - r) (by rw [hr.out])
  have PA : Hid (∀ w', Calls Tryd.prog 32 #[.string S] w' (FrEPost r 0 w')) := Lib.hid (fun w' => by
    have e : (bs (dtx q p)).data.toList = dtx q p := rfl
    have hl := dtx_len q p (by omega) (by omega) hp
    have := Parse_any (bs (dtx q p)) w' (by rw [bs_size]; omega)
    rw [e, prs_dtx q p hl] at this
    rw [HS.out, hr.out]
    exact this)
  have PD : Hid (∀ w', Rf w' s1 A1 n1 c1 A2 n2 c2 q → Calls Tryd.prog 36 #[.agg #[.bool s1, .slice A1 n1 c1, .slice A2 n2 c2], .int .i64 (p : Int)] w' (ValPost (.string S) w')) := Lib.hid (fun w' h => by rw [HS.out]; exact rDecimal_any s1 A1 A2 n1 n2 c1 c2 q p w' h (by omega) (by omega) (by omega))
  have hp40 : (p : Int) ≤ 40 := by omega
  have hp0 : (0 : Int) ≤ (p : Int) := by omega
  obtain ⟨u, HU, x1, xb⟩ := boxes1 w (.bool s1) (.slice A1 n1 c1) (.slice A2 n2 c2) 24
  replace h1 := h1.below xb
  have PC := Lib.hid (Decimal_yes s1 A1 A2 n1 n2 c1 c2 q p u h1 (by omega) (by omega) (by omega) (ht.on xb))
  rw [← HS.out] at PC
  have x1p0 := x1.c0
  have x1p1 := x1.c1
  have x1p2 := x1.c2
  rw [HU.out] at x1p0 x1p1 x1p2
  clear e1
  go_enter Tryd.func6, Tryd.ntmps6
  go_wp2_with fail
  rw [← HU.out]
  refine PC.out.mono ?_
  rintro e w2 ⟨rfl, b5⟩
  clear PC x1p0 x1p1 x1p2
  replace x1 := x1.below b5
  replace h1 := h1.below b5
  replace xb := bthen xb b5
  go_wp2_with fail
  refine (PA.out _).mono ?_
  rintro e w3 ⟨s3, A5, n5, c5, A6, n6, c6, rfl, f3, _, _, b5⟩
  clear PA
  obtain ⟨u3, HU3, x3, xb3⟩ := boxes1 w3 (.bool s3) (.slice A5 n5 c5) (.slice A6 n6 c6) 24
  replace x1 := x1.below b5
  replace h1 := h1.below b5
  replace xb := bthen xb b5
  replace x1 := x1.below xb3
  replace h1 := h1.below xb3
  replace f3 := f3.below xb3
  replace xb := bthen xb xb3
  have hn5 : n5 ≤ 1000 := by have := f3.lens; have := Lr.out; omega
  have hn6 : n6 ≤ 1000 := by have := f3.lens; have := Lr.out; omega
  have x1p0 := x1.c0
  have x1p1 := x1.c1
  have x1p2 := x1.c2
  rw [HU3.out] at x1p0 x1p1 x1p2
  go_wp2_with fail
  rw [← HU3.out]
  refine (rSub_any s1 A1 A2 n1 n2 c1 c2 s3 A5 A6 n5 n6 c5 c6 q r _ h1 f3.rf (by omega) (by omega) (by omega) (by omega)).mono ?_
  rintro e w4 ⟨s4, A7, n7, c7, A8, n8, c8, rfl, f4, _, _, b5⟩
  clear x1p0 x1p1 x1p2
  obtain ⟨u4, HU4, x4, xb4⟩ := boxes1 w4 (.bool false) (.slice A7 n7 c7) (.slice A8 n8 c8) 24
  replace x1 := x1.below b5
  replace h1 := h1.below b5
  replace xb := bthen xb b5
  replace x1 := x1.below xb4
  replace h1 := h1.below xb4
  replace f4 := f4.below xb4
  replace xb := bthen xb xb4
  have hn7 : n7 ≤ 5000 := by have := f4.lens; have := Ld.out; omega
  have hn8 : n8 ≤ 5000 := by have := f4.lens; have := Ld.out; omega
  have ga : Rf u4 false A7 n7 c7 A8 n8 c8 z := by rw [hz.out]; exact f4.abs
  clear f4 f3
  have y1 := x1.drew
  have y4 := x4.drew
  have gr := h1.drew
  have gf := ga.drew
  have yu := below_drew xb
  go_wp2_with fail
  rw [← HU4.out]
  go_region_held3 (fun w' => w'.cell? ⟨w.heap.size, 0, none⟩ = some (.bool s1) ∧ w'.cell? ⟨w.heap.size, 1, none⟩ = some (.slice A1 n1 c1) ∧ w'.cell? ⟨w.heap.size, 2, none⟩ = some (.slice A2 n2 c2) ∧ w'.cell? ⟨w4.heap.size, 0, none⟩ = some (.bool false) ∧ w'.cell? ⟨w4.heap.size, 1, none⟩ = some (.slice A7 n7 c7) ∧ w'.cell? ⟨w4.heap.size, 2, none⟩ = some (.slice A8 n8 c8))
    (first | (with_reducible exact ⟨x1.c0, x1.c1, x1.c2, x4.c0, x4.c1, x4.c2⟩) | (with_reducible exact ⟨y1.c0, y1.c1, y1.c2, y4.c0, y4.c1, y4.c2⟩) | go_keep)
    (first
      | (go_at_call 36
         (with_reducible refine (PD.out _ gr).mono ?_)
         rintro e w5 ⟨rfl, b5⟩
         replace y1 := y1.below b5
         replace y4 := y4.below b5
         replace gr := gr.below b5
         replace gf := gf.below b5
         replace yu := bthen yu b5)
      | (go_at_call 38
         (with_reducible refine (rOf_any 2 _ (by omega) (by omega)).mono ?_)
         rintro e w5 ⟨s5, A9, n9, c9, A10, n10, c10, rfl, f5, _, _, b5⟩
         rw [← htwo.out] at f5
         replace y1 := y1.below b5
         replace y4 := y4.below b5
         replace gr := gr.below b5
         replace gf := gf.below b5
         replace yu := bthen yu b5
         have hn9 : n9 ≤ 1000 := by have := f5.lens; have := H2.out; omega
         have hn10 : n10 ≤ 1000 := by have := f5.lens; have := H2.out; omega)
      | (go_at_call 38
         (with_reducible refine (rOf_any 10 _ (by omega) (by omega)).mono ?_)
         rintro e w5 ⟨s6, A11, n11, c11, A12, n12, c12, rfl, f6, _, _, b5⟩
         replace y1 := y1.below b5
         replace y4 := y4.below b5
         replace gr := gr.below b5
         replace gf := gf.below b5
         replace f5 := f5.below b5
         replace yu := bthen yu b5
         have hn11 : n11 ≤ 1000 := by have := f6.lens; have := H10.out; omega
         have hn12 : n12 ≤ 1000 := by have := f6.lens; have := H10.out; omega)
      | (go_at_call 24
         (with_reducible refine (rPow_nat s6 A11 A12 n11 n12 c11 c12 ((10 : Int) : Rat) p _ f6.rf (by omega) (by omega) H10.out.1 H10.out.2 (by omega)).mono ?_)
         rintro e w5 ⟨s7, A13, n13, c13, A14, n14, c14, rfl, f7, b5⟩
         rw [← hsc.out] at f7
         replace y1 := y1.below b5
         replace y4 := y4.below b5
         replace gr := gr.below b5
         replace gf := gf.below b5
         replace f5 := f5.below b5
         replace yu := bthen yu b5
         have hn13 : n13 ≤ 1000 := by have := f7.lens; have := Ls.out; omega
         have hn14 : n14 ≤ 1000 := by have := f7.lens; have := Ls.out; omega)
      | (go_at_call 37
         (with_reducible refine (rMul_any s5 A9 A10 n9 n10 c9 c10 s7 A13 A14 n13 n14 c13 c14 two sc _ f5.rf f7.rf (by omega) (by omega) (by omega) (by omega)).mono ?_)
         rintro e w5 ⟨s8, A15, n15, c15, A16, n16, c16, rfl, f8, _, _, b5⟩
         replace y1 := y1.below b5
         replace y4 := y4.below b5
         replace gr := gr.below b5
         replace gf := gf.below b5
         replace yu := bthen yu b5
         have hn15 : n15 ≤ 1000 := by have := f8.lens; have := Lts.out; omega
         have hn16 : n16 ≤ 1000 := by have := f8.lens; have := Lts.out; omega)
      | (go_at_call 37
         (with_reducible refine (rMul_any false A7 A8 n7 n8 c7 c8 s8 A15 A16 n15 n16 c15 c16 z (two * sc) _ gf f8.rf (by omega) (by omega) (by omega) (by omega)).mono ?_)
         rintro e w5 ⟨s9, A17, n17, c17, A18, n18, c18, rfl, f9, _, _, b5⟩
         replace y1 := y1.below b5
         replace y4 := y4.below b5
         replace gr := gr.below b5
         replace gf := gf.below b5
         replace yu := bthen yu b5
         have hn17 : n17 ≤ 6000 := by have := f9.lens; have := Lzt.out; omega
         have hn18 : n18 ≤ 6000 := by have := f9.lens; have := Lzt.out; omega)
      | (go_at_call 38
         (with_reducible refine (rOf_any 1 _ (by omega) (by omega)).mono ?_)
         rintro e w5 ⟨s10, A19, n19, c19, A20, n20, c20, rfl, f10, _, _, b5⟩
         rw [← hone.out] at f10
         replace y1 := y1.below b5
         replace y4 := y4.below b5
         replace gr := gr.below b5
         replace gf := gf.below b5
         replace f9 := f9.below b5
         replace yu := bthen yu b5
         have hn19 : n19 ≤ 1000 := by have := f10.lens; have := H1.out; omega
         have hn20 : n20 ≤ 1000 := by have := f10.lens; have := H1.out; omega)
      | (go_at_call 29
         (with_reducible refine (sgn_eq (rCmp_any s9 A17 A18 n17 n18 c17 c18 s10 A19 A20 n19 n20 c19 c20 (z * (two * sc)) one _ f9.rf f10.rf (by omega) (by omega) (by omega) (by omega)) hkr.out).mono ?_)
         rintro e w5 ⟨rfl, b5⟩
         replace y1 := y1.below b5
         replace y4 := y4.below b5
         replace gr := gr.below b5
         replace gf := gf.below b5
         replace yu := bthen yu b5
         have htx := ht.on yu)
      | (go_at_call 20
         (with_reducible refine (known_any _ htx).mono ?_)
         rintro e w5 ⟨rfl, b5⟩
         replace y1 := y1.below b5
         replace y4 := y4.below b5
         replace gr := gr.below b5
         replace gf := gf.below b5
         replace yu := bthen yu b5))
  go_wp2_with fail
  go_ret
  exact ⟨rfl, yu⟩

theorem FracDecimals_any (s1 : Bool) (A1 A2 : Option Addr) (n1 n2 c1 c2 : Nat) (q : Rat) (n : Int) (w : World) (h1 : Rf w s1 A1 n1 c1 A2 n2 c2 q) (ht : Tab w) :
    Calls Tryd.prog 6 #[.agg #[.bool s1, .slice A1 n1 c1, .slice A2 n2 c2], .int .i64 n] w (ValPost (.bool true) w) := by
  by_cases hc : 8 < n1 ∨ 8 < n2 ∨ (40 < n ∧ n ≤ 1000)
  · exact FracDecimals_no s1 A1 A2 n1 n2 c1 c2 n w ht hc
  by_cases hb : 1000 < n
  · exact FracDecimals_big s1 A1 A2 n1 n2 c1 c2 n w ht (by omega) (by omega) hb
  by_cases hs : n < 0
  · exact FracDecimals_small s1 A1 A2 n1 n2 c1 c2 n w ht (by omega) (by omega) hs
  · have := FracDecimals_yes s1 A1 A2 n1 n2 c1 c2 q n.toNat w h1 ht (by omega) (by omega) (by omega)
    rwa [Int.toNat_of_nonneg (by omega)] at this
end Go.Proofs.YtaahbabdbopphaaDoor
