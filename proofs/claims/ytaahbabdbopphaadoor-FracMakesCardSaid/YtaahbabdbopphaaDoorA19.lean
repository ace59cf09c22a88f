/- FracWhole, FracMakes: the walks. -/
import Derived.Test.YtaahbabdbopphaaDoorWH
import Derived.Test.YtaahbabdbopphaaDoorA04
namespace Go.Proofs.YtaahbabdbopphaaDoor
open Go.RowKit Mx
set_option maxRecDepth 100000

set_option maxHeartbeats 4000000 in
theorem FracWhole_no (s1 : Bool) (A1 A2 : Option Addr) (n1 n2 c1 c2 : Nat) (w : World) (ht : Tab w) (h : 12 < n1 ∨ 12 < n2) :
    Calls Tryd.prog 19 #[.agg #[.bool s1, .slice A1 n1 c1, .slice A2 n2 c2]] w (ValPost (.bool true) w) := by
  obtain ⟨u, HU, x1, xb⟩ := boxes1 w (.bool s1) (.slice A1 n1 c1) (.slice A2 n2 c2) 24
  obtain ⟨v, HV⟩ : ∃ v, Hid (v = u.alloc (.cells #[.bool s1, .slice A1 n1 c1, .slice A2 n2 c2] 24)) := ⟨_, rfl⟩
  have SM := Lib.hid (small_one (T := 24) (s1 := s1) (A1 := A1) (A2 := A2) (n1 := n1) (n2 := n2) (c1 := c1) (c2 := c2) u false (by rw [decide_eq_false]; omega))
  rw [← HV.out, show u.heap.size = w.heap.size + 1 from by rw [HU.out]; simp] at SM
  have xb := bthen xb (show Below u.heap.size u v by rw [HV.out]; exact below_alloc (Below.refl _ _) _)
  have x1p0 := x1.c0
  have x1p1 := x1.c1
  have x1p2 := x1.c2
  rw [HU.out] at x1p0 x1p1 x1p2
  have ht2 := ht.on xb
  clear h
  go_enter Tryd.func19, Tryd.ntmps19
  go_wp2_with fail
  rw [← HU.out, ← HV.out]
  refine SM.out.mono ?_
  rintro e w1 ⟨rfl, hw⟩
  replace hw := hw.symm
  subst hw
  clear x1p0 x1p1 x1p2
  go_wp2_with fail
  refine (known_any _ ht2).mono ?_
  rintro e w9 ⟨rfl, b9⟩
  go_wp2_with fail
  go_ret
  exact ⟨rfl, bthen xb b9⟩

set_option maxHeartbeats 8000000 in
theorem FracWhole_in (s1 : Bool) (A1 A2 : Option Addr) (n1 n2 c1 c2 : Nat) (q : Rat) (w : World) (h1 : Rf w s1 A1 n1 c1 A2 n2 c2 q) (ht : Tab w) (l1 : n1 ≤ 12) (l2 : n2 ≤ 12) (hr : -9223372036854775808 ≤ q.floor ∧ q.floor ≤ 9223372036854775807) :
    Calls Tryd.prog 19 #[.agg #[.bool s1, .slice A1 n1 c1, .slice A2 n2 c2]] w (ValPost (.bool true) w) := by
  have e1 := h1.len
  obtain ⟨F, hF⟩ : ∃ F, Hid (q.floor = F) := ⟨_, rfl⟩
  rw [hF.out] at hr
  have Lf : Hid (ln (F : Rat) ≤ 1000 ∧ ld (F : Rat) ≤ 1000) := Lib.hid (by rw [← hF.out]; have := ln_floor q; have := (ln_int q.floor).2; omega)
  have HR := Lib.hid hr
  clear e1 hr
  obtain ⟨u, HU, x1, xb⟩ := boxes1 w (.bool s1) (.slice A1 n1 c1) (.slice A2 n2 c2) 24
  obtain ⟨v, HV⟩ : ∃ v, Hid (v = u.alloc (.cells #[.bool s1, .slice A1 n1 c1, .slice A2 n2 c2] 24)) := ⟨_, rfl⟩
  have SM := Lib.hid (small_one (T := 24) (s1 := s1) (A1 := A1) (A2 := A2) (n1 := n1) (n2 := n2) (c1 := c1) (c2 := c2) u true (by rw [decide_eq_true]; omega))
  rw [← HV.out, show u.heap.size = w.heap.size + 1 from by rw [HU.out]; simp] at SM
  have vb : Below u.heap.size u v := by rw [HV.out]; exact below_alloc (Below.refl _ _) _
  have x1p0 := x1.c0
  have x1p1 := x1.c1
  have x1p2 := x1.c2
  rw [HU.out] at x1p0 x1p1 x1p2
  replace h1 := (h1.below xb).below vb
  replace x1 := x1.below vb
  replace xb := bthen xb vb
  have uu := Below.refl v.heap.size v
  go_enter Tryd.func19, Tryd.ntmps19
  go_wp2_with fail
  rw [← HU.out, ← HV.out]
  refine SM.out.mono ?_
  rintro e w1 ⟨rfl, hw⟩
  replace hw := hw.symm
  subst hw
  clear x1p0 x1p1 x1p2 SM vb
  have x1p0 := x1.c0
  have x1p1 := x1.c1
  have x1p2 := x1.c2
  go_wp2_with fail
  refine (Whole_in s1 A1 A2 n1 n2 c1 c2 q _ h1 (by omega) (by omega) F hF HR.out.1 HR.out.2).mono ?_
  rintro e w3 ⟨rfl, b5⟩
  clear x1p0 x1p1 x1p2
  replace x1 := x1.below b5
  replace h1 := h1.below b5
  replace xb := bthen xb b5
  have x1p0 := x1.c0
  have x1p1 := x1.c1
  have x1p2 := x1.c2
  go_wp2_with fail
  refine (frp_eq (rDown_any s1 A1 A2 n1 n2 c1 c2 q _ h1 (by omega) (by omega)) (congrArg _ hF.out)).mono ?_
  rintro e w4 ⟨s4, A7, n7, c7, A8, n8, c8, rfl, f4, _, _, b5⟩
  have hn7 : n7 ≤ 1000 := by have := f4.lens; have := Lf.out; omega
  have hn8 : n8 ≤ 1000 := by have := f4.lens; have := Lf.out; omega
  replace xb := bthen xb b5
  go_wp2_with fail
  refine (rInt_in s4 A7 A8 n7 n8 c7 c8 _ F f4 HR.out.1 HR.out.2).mono ?_
  rintro e w5 ⟨kv, rfl, hkv, b5⟩
  obtain rfl := hkv rfl
  replace xb := bthen xb b5
  have htx := ht.on xb
  go_wp2_with fail
  refine (known_any _ htx).mono ?_
  rintro e w6 ⟨rfl, b6⟩
  go_wp2_with fail
  go_ret
  exact ⟨rfl, bthen xb b6⟩

set_option maxHeartbeats 8000000 in
theorem FracWhole_out (s1 : Bool) (A1 A2 : Option Addr) (n1 n2 c1 c2 : Nat) (q : Rat) (w : World) (h1 : Rf w s1 A1 n1 c1 A2 n2 c2 q) (ht : Tab w) (l1 : n1 ≤ 12) (l2 : n2 ≤ 12) (hr : ¬ (-9223372036854775808 ≤ q.floor ∧ q.floor ≤ 9223372036854775807)) :
    Calls Tryd.prog 19 #[.agg #[.bool s1, .slice A1 n1 c1, .slice A2 n2 c2]] w (ValPost (.bool true) w) := by
  have e1 := h1.len
  obtain ⟨F, hF⟩ : ∃ F, Hid (q.floor = F) := ⟨_, rfl⟩
  rw [hF.out] at hr
  have Lf : Hid (ln (F : Rat) ≤ 1000 ∧ ld (F : Rat) ≤ 1000) := Lib.hid (by rw [← hF.out]; have := ln_floor q; have := (ln_int q.floor).2; omega)
  have HR := Lib.hid hr
  clear e1 hr
  obtain ⟨u, HU, x1, xb⟩ := boxes1 w (.bool s1) (.slice A1 n1 c1) (.slice A2 n2 c2) 24
  obtain ⟨v, HV⟩ : ∃ v, Hid (v = u.alloc (.cells #[.bool s1, .slice A1 n1 c1, .slice A2 n2 c2] 24)) := ⟨_, rfl⟩
  have SM := Lib.hid (small_one (T := 24) (s1 := s1) (A1 := A1) (A2 := A2) (n1 := n1) (n2 := n2) (c1 := c1) (c2 := c2) u true (by rw [decide_eq_true]; omega))
  rw [← HV.out, show u.heap.size = w.heap.size + 1 from by rw [HU.out]; simp] at SM
  have vb : Below u.heap.size u v := by rw [HV.out]; exact below_alloc (Below.refl _ _) _
  have x1p0 := x1.c0
  have x1p1 := x1.c1
  have x1p2 := x1.c2
  rw [HU.out] at x1p0 x1p1 x1p2
  replace h1 := (h1.below xb).below vb
  replace x1 := x1.below vb
  replace xb := bthen xb vb
  have uu := Below.refl v.heap.size v
  go_enter Tryd.func19, Tryd.ntmps19
  go_wp2_with fail
  rw [← HU.out, ← HV.out]
  refine SM.out.mono ?_
  rintro e w1 ⟨rfl, hw⟩
  replace hw := hw.symm
  subst hw
  clear x1p0 x1p1 x1p2 SM vb
  have x1p0 := x1.c0
  have x1p1 := x1.c1
  have x1p2 := x1.c2
  go_wp2_with fail
  refine (Whole_out s1 A1 A2 n1 n2 c1 c2 q _ h1 (by omega) (by omega) F hF HR.out).mono ?_
  rintro e w3 ⟨rfl, b5⟩
  clear x1p0 x1p1 x1p2
  replace x1 := x1.below b5
  replace h1 := h1.below b5
  replace xb := bthen xb b5
  have x1p0 := x1.c0
  have x1p1 := x1.c1
  have x1p2 := x1.c2
  go_wp2_with fail
  refine (frp_eq (rDown_any s1 A1 A2 n1 n2 c1 c2 q _ h1 (by omega) (by omega)) (congrArg _ hF.out)).mono ?_
  rintro e w4 ⟨s4, A7, n7, c7, A8, n8, c8, rfl, f4, _, _, b5⟩
  have hn7 : n7 ≤ 1000 := by have := f4.lens; have := Lf.out; omega
  have hn8 : n8 ≤ 1000 := by have := f4.lens; have := Lf.out; omega
  replace xb := bthen xb b5
  go_wp2_with fail
  refine (rInt_out s4 A7 A8 n7 n8 c7 c8 _ F f4 HR.out (by omega)).mono ?_
  rintro e w5 ⟨kv, rfl, hkv, b5⟩
  clear hkv
  replace xb := bthen xb b5
  have htx := ht.on xb
  go_wp2_with fail
  refine (known_any _ htx).mono ?_
  rintro e w6 ⟨rfl, b6⟩
  go_wp2_with fail
  go_ret
  exact ⟨rfl, bthen xb b6⟩
theorem FracWhole_any (s1 : Bool) (A1 A2 : Option Addr) (n1 n2 c1 c2 : Nat) (q : Rat) (w : World) (h1 : Rf w s1 A1 n1 c1 A2 n2 c2 q) (ht : Tab w) :
    Calls Tryd.prog 19 #[.agg #[.bool s1, .slice A1 n1 c1, .slice A2 n2 c2]] w (ValPost (.bool true) w) := by
  by_cases hc : 12 < n1 ∨ 12 < n2
  · exact FracWhole_no s1 A1 A2 n1 n2 c1 c2 w ht hc
  by_cases hr : -9223372036854775808 ≤ q.floor ∧ q.floor ≤ 9223372036854775807
  · exact FracWhole_in s1 A1 A2 n1 n2 c1 c2 q w h1 ht (by omega) (by omega) hr
  · exact FracWhole_out s1 A1 A2 n1 n2 c1 c2 q w h1 ht (by omega) (by omega) hr

set_option maxHeartbeats 8000000 in
theorem FracMakes_zero (n d : Int) (w : World) (ht : Tab w) (h0 : -9223372036854775808 ≤ n) (h1 : n ≤ 9223372036854775807) (g0 : -9223372036854775808 ≤ d) (g1 : d ≤ 9223372036854775807) (hd : d = 0) :
    Calls Tryd.prog 18 #[.int .i64 n, .int .i64 d] w (ValPost (.bool true) w) := by
  have hln := ln_i64 h0 h1
  have hdn := (ln_int n).2
  have hld := ln_i64 g0 g1
  have hdd := (ln_int d).2
  have Ln : Hid (ln (n : Rat) ≤ 1000 ∧ ld (n : Rat) ≤ 1000) := Lib.hid (by omega)
  have Lz : Hid (ln (0 : Rat) ≤ 1000 ∧ ld (0 : Rat) ≤ 1000) := Lib.hid (by have := ln_zero; omega)
  have HFl : Hid (((n : Int) : Rat).floor = n) := Lib.hid (Rat.floor_intCast n)
  subst hd
  have MK := Lib.hid (Make_any n 0 3 0 w h0 h1 (by omega) (by omega) (.inl ⟨rfl, rfl, rfl⟩))
  have HN := Lib.hid (And.intro h0 h1)
  skip
  clear hln hdn hld hdd h0 h1 g0 g1 
  go_enter Tryd.func18, Tryd.ntmps18
  go_wp2_with fail
  refine MK.out.mono ?_
  rintro e w1 ⟨s1, A1, n1, c1, A2, n2, c2, rfl, f1, _, _, b5⟩
  obtain ⟨u1, HU1, x1, xb1⟩ := boxes1 w1 (.bool s1) (.slice A1 n1 c1) (.slice A2 n2 c2) 24
  replace f1 := f1.below xb1
  have xb := bthen b5 xb1
  have hn1 : n1 ≤ 1000 := by have := f1.lens; have := Lz.out; omega
  have hn2 : n2 ≤ 1000 := by have := f1.lens; have := Lz.out; omega
  clear b5 xb1 MK
  go_wp2_with fail
  rw [← HU1.out]
  refine (Of_any n _ HN.out.1 HN.out.2).mono ?_
  rintro e w2 ⟨s2, A3, n3, c3, A4, n4, c4, rfl, f2, _, _, b5⟩
  have hn3 : n3 ≤ 1000 := by have := f2.lens; have := Ln.out; omega
  have hn4 : n4 ≤ 1000 := by have := f2.lens; have := Ln.out; omega
  replace f1 := f1.below b5
  replace x1 := x1.below b5
  replace xb := bthen xb b5
  go_wp2_with fail
  refine (rOf_any n _ HN.out.1 HN.out.2).mono ?_
  rintro e w3 ⟨s3, A5, n5, c5, A6, n6, c6, rfl, f3, _, _, b5⟩
  have hn5 : n5 ≤ 1000 := by have := f3.lens; have := Ln.out; omega
  have hn6 : n6 ≤ 1000 := by have := f3.lens; have := Ln.out; omega
  replace f1 := f1.below b5
  replace x1 := x1.below b5
  replace f2 := f2.below b5
  replace xb := bthen xb b5
  go_wp2_with fail
  refine (SameFr_any s2 s3 A3 A4 A5 A6 n3 n4 n5 n6 c3 c4 c5 c6 _ _ _ f2 f3 (by omega) (by omega) (by omega) (by omega) true (decide_eq_true rfl).symm).mono ?_
  rintro e w4 ⟨rfl, b5⟩
  replace f1 := f1.below b5
  replace x1 := x1.below b5
  replace xb := bthen xb b5
  have x1p0 := x1.c0
  have x1p1 := x1.c1
  have x1p2 := x1.c2
  have S0 := Lib.hid (SameFr_any s1 false A1 A2 none none n1 n2 0 0 c1 c2 0 0 0 0 w4 f1 (Fr.zero_ w4) (by omega) (by omega) (by omega) (by omega) true (decide_eq_true rfl).symm)
  go_wp2_with fail
  refine S0.out.mono ?_
  rintro e w5 ⟨rfl, b5⟩
  replace xb := bthen xb b5
  have htx := ht.on xb
  go_wp2_with fail
  refine (known_any _ htx).mono ?_
  rintro e w6 ⟨rfl, b6⟩
  go_wp2_with fail
  go_ret
  exact ⟨rfl, bthen xb b6⟩

set_option maxHeartbeats 8000000 in
theorem FracMakes_yes (n d : Int) (w : World) (ht : Tab w) (h0 : -9223372036854775808 ≤ n) (h1 : n ≤ 9223372036854775807) (g0 : -9223372036854775808 ≤ d) (g1 : d ≤ 9223372036854775807) (hd : d ≠ 0) :
    Calls Tryd.prog 18 #[.int .i64 n, .int .i64 d] w (ValPost (.bool true) w) := by
  have hln := ln_i64 h0 h1
  have hdn := (ln_int n).2
  have hld := ln_i64 g0 g1
  have hdd := (ln_int d).2
  have Ln : Hid (ln (n : Rat) ≤ 1000 ∧ ld (n : Rat) ≤ 1000) := Lib.hid (by omega)
  have Lz : Hid (ln (0 : Rat) ≤ 1000 ∧ ld (0 : Rat) ≤ 1000) := Lib.hid (by have := ln_zero; omega)
  have HFl : Hid (((n : Int) : Rat).floor = n) := Lib.hid (Rat.floor_intCast n)
  have hd0 : rn (d : Rat) ≠ 0 := fun e => by have := rn_zero.1 e; rw [Rat.intCast_eq_zero_iff] at this; omega
  have Lq : Hid (ln ((n : Rat) / (d : Rat)) ≤ 1000 ∧ ld ((n : Rat) / (d : Rat)) ≤ 1000) := Lib.hid (by rw [Rat.div_def]; have := ln_mul (n : Rat) (d : Rat)⁻¹; have := ln_inv hd0; omega)
  have hdf : (d == 0) = false := beq_eq_false_iff_ne.2 hd
  clear hd0
  have MK := Lib.hid (Make_any n d 0 ((n : Rat) / (d : Rat)) w h0 h1 g0 g1 (.inr ⟨hd, rfl, rfl⟩))
  have HN := Lib.hid (And.intro h0 h1)
  have HD := Lib.hid (And.intro hd (And.intro g0 g1))
  clear hln hdn hld hdd h0 h1 g0 g1 hd
  go_enter Tryd.func18, Tryd.ntmps18
  go_wp2_with fail
  refine MK.out.mono ?_
  rintro e w1 ⟨s1, A1, n1, c1, A2, n2, c2, rfl, f1, _, _, b5⟩
  obtain ⟨u1, HU1, x1, xb1⟩ := boxes1 w1 (.bool s1) (.slice A1 n1 c1) (.slice A2 n2 c2) 24
  replace f1 := f1.below xb1
  have xb := bthen b5 xb1
  have hn1 : n1 ≤ 1000 := by have := f1.lens; have := Lq.out; omega
  have hn2 : n2 ≤ 1000 := by have := f1.lens; have := Lq.out; omega
  clear b5 xb1 MK
  go_wp2_with fail
  rw [← HU1.out]
  refine (Of_any n _ HN.out.1 HN.out.2).mono ?_
  rintro e w2 ⟨s2, A3, n3, c3, A4, n4, c4, rfl, f2, _, _, b5⟩
  have hn3 : n3 ≤ 1000 := by have := f2.lens; have := Ln.out; omega
  have hn4 : n4 ≤ 1000 := by have := f2.lens; have := Ln.out; omega
  replace f1 := f1.below b5
  replace x1 := x1.below b5
  replace xb := bthen xb b5
  go_wp2_with fail
  refine (rOf_any n _ HN.out.1 HN.out.2).mono ?_
  rintro e w3 ⟨s3, A5, n5, c5, A6, n6, c6, rfl, f3, _, _, b5⟩
  have hn5 : n5 ≤ 1000 := by have := f3.lens; have := Ln.out; omega
  have hn6 : n6 ≤ 1000 := by have := f3.lens; have := Ln.out; omega
  replace f1 := f1.below b5
  replace x1 := x1.below b5
  replace f2 := f2.below b5
  replace xb := bthen xb b5
  go_wp2_with fail
  refine (SameFr_any s2 s3 A3 A4 A5 A6 n3 n4 n5 n6 c3 c4 c5 c6 _ _ _ f2 f3 (by omega) (by omega) (by omega) (by omega) true (decide_eq_true rfl).symm).mono ?_
  rintro e w4 ⟨rfl, b5⟩
  replace f1 := f1.below b5
  replace x1 := x1.below b5
  replace xb := bthen xb b5
  have x1p0 := x1.c0
  have x1p1 := x1.c1
  have x1p2 := x1.c2
  go_wp2_with fail
  refine (Of_any n _ HN.out.1 HN.out.2).mono ?_
  rintro e w5 ⟨s5, A9, n9, c9, A10, n10, c10, rfl, f5, _, _, b5⟩
  have hn9 : n9 ≤ 1000 := by have := f5.lens; have := Ln.out; omega
  have hn10 : n10 ≤ 1000 := by have := f5.lens; have := Ln.out; omega
  clear x1p0 x1p1 x1p2
  replace f1 := f1.below b5
  replace x1 := x1.below b5
  replace xb := bthen xb b5
  go_wp2_with fail
  refine (Whole_in s5 A9 A10 n9 n10 c9 c10 _ _ f5.rf (by omega) (by omega) n HFl HN.out.1 HN.out.2).mono ?_
  rintro e w6 ⟨rfl, b5⟩
  replace f1 := f1.below b5
  replace x1 := x1.below b5
  replace xb := bthen xb b5
  have y1 := x1.drew
  have g1 := f1.below (below_drew (Below.refl _ w6))
  have yu := below_drew xb
  go_wp2_with fail
  go_region_held3 (fun w' => w'.cell? ⟨w1.heap.size, 0, none⟩ = some (.bool s1) ∧ w'.cell? ⟨w1.heap.size, 1, none⟩ = some (.slice A1 n1 c1) ∧ w'.cell? ⟨w1.heap.size, 2, none⟩ = some (.slice A2 n2 c2))
    (first | (with_reducible exact ⟨x1.c0, x1.c1, x1.c2⟩) | (with_reducible exact ⟨y1.c0, y1.c1, y1.c2⟩) | go_keep)
    (first
      | (go_at_call 30
         (with_reducible refine (rMake_any n d _ HN.out.1 HN.out.2 HD.out.2.1 HD.out.2.2 HD.out.1).mono ?_)
         rintro e w5 ⟨s6, A11, n11, c11, A12, n12, c12, rfl, f6, _, _, b5⟩
         replace y1 := y1.below b5
         replace g1 := g1.below b5
         replace yu := bthen yu b5
         have hn11 : n11 ≤ 1000 := by have := f6.lens; have := Lq.out; omega
         have hn12 : n12 ≤ 1000 := by have := f6.lens; have := Lq.out; omega)
      | (go_at_call 22
         (with_reducible refine (SameFr_any s1 s6 A1 A2 A11 A12 n1 n2 n11 n12 c1 c2 c11 c12 _ _ _ g1 f6 (by omega) (by omega) (by omega) (by omega) true (decide_eq_true rfl).symm).mono ?_)
         rintro e w5 ⟨rfl, b5⟩
         replace y1 := y1.below b5
         replace g1 := g1.below b5
         replace yu := bthen yu b5
         have htx := ht.on yu)
      | (go_at_call 20
         (with_reducible refine (known_any _ htx).mono ?_)
         rintro e w5 ⟨rfl, b5⟩
         replace y1 := y1.below b5
         replace g1 := g1.below b5
         replace yu := bthen yu b5))
  go_wp2_with fail
  go_ret
  exact ⟨rfl, yu⟩
theorem FracMakes_any (n d : Int) (w : World) (ht : Tab w) (h0 : -9223372036854775808 ≤ n) (h1 : n ≤ 9223372036854775807) (g0 : -9223372036854775808 ≤ d) (g1 : d ≤ 9223372036854775807) :
    Calls Tryd.prog 18 #[.int .i64 n, .int .i64 d] w (ValPost (.bool true) w) := by
  by_cases hd : d = 0
  · exact FracMakes_zero n d w ht h0 h1 g0 g1 hd
  · exact FracMakes_yes n d w ht h0 h1 g0 g1 hd
end Go.Proofs.YtaahbabdbopphaaDoor
