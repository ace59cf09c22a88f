/- FracOrders, FracAdds: the walks. -/
import Derived.Test.YtaahbabdbopphaaDoorB0
import Derived.Test.YtaahbabdbopphaaDoorRB
import Derived.Test.YtaahbabdbopphaaDoorSM
namespace Go.Proofs.YtaahbabdbopphaaDoor
open Go.RowKit Mx
set_option maxRecDepth 100000

set_option maxHeartbeats 4000000 in
theorem FracOrders_no (s1 : Bool) (A1 A2 : Option Addr) (n1 n2 c1 c2 : Nat) (s2 : Bool) (A3 A4 : Option Addr) (n3 n4 c3 c4 : Nat) (w : World) (ht : Tab w) (h : 12 < n1 ∨ 12 < n2 ∨ 12 < n3 ∨ 12 < n4) :
    Calls Tryd.prog 10 #[.agg #[.bool s1, .slice A1 n1 c1, .slice A2 n2 c2], .agg #[.bool s2, .slice A3 n3 c3, .slice A4 n4 c4]] w (ValPost (.bool true) w) := by
  obtain ⟨u, HU, x1, x2, xb⟩ := boxes2 w (.bool s1) (.slice A1 n1 c1) (.slice A2 n2 c2) (.bool s2) (.slice A3 n3 c3) (.slice A4 n4 c4) 24 24
  obtain ⟨v, HV⟩ : ∃ v, Hid (v = u.alloc (.cells #[.bool s1, .slice A1 n1 c1, .slice A2 n2 c2, .bool s2, .slice A3 n3 c3, .slice A4 n4 c4] 24)) := ⟨_, rfl⟩
  have SM := Lib.hid (small_two (T := 24) (s1 := s1) (A1 := A1) (A2 := A2) (n1 := n1) (n2 := n2) (c1 := c1) (c2 := c2) (s2 := s2) (A3 := A3) (A4 := A4) (n3 := n3) (n4 := n4) (c3 := c3) (c4 := c4) u false (by rw [decide_eq_false]; omega))
  rw [← HV.out, show u.heap.size = w.heap.size + 1 + 1 from by rw [HU.out]; simp] at SM
  have xb := bthen xb (show Below u.heap.size u v by rw [HV.out]; exact below_alloc (Below.refl _ _) _)
  have x1p0 := x1.c0
  have x1p1 := x1.c1
  have x1p2 := x1.c2
  have x2p0 := x2.c0
  have x2p1 := x2.c1
  have x2p2 := x2.c2
  rw [HU.out] at x1p0 x1p1 x1p2 x2p0 x2p1 x2p2
  have ht2 := ht.on xb
  clear h
  go_enter Tryd.func10, Tryd.ntmps10
  go_wp2_with fail
  rw [← HU.out, ← HV.out]
  refine SM.out.mono ?_
  rintro e w1 ⟨rfl, hw⟩
  replace hw := hw.symm
  subst hw
  clear x1p0 x1p1 x1p2 x2p0 x2p1 x2p2
  go_wp2_with fail
  refine (known_any _ ht2).mono ?_
  rintro e w9 ⟨rfl, b9⟩
  go_wp2_with fail
  go_ret
  exact ⟨rfl, bthen xb b9⟩

set_option maxHeartbeats 8000000 in
theorem FracOrders_yes (s1 : Bool) (A1 A2 : Option Addr) (n1 n2 c1 c2 : Nat) (s2 : Bool) (A3 A4 : Option Addr) (n3 n4 c3 c4 : Nat) (p q : Rat) (w : World) (h1 : Rf w s1 A1 n1 c1 A2 n2 c2 p) (h2 : Rf w s2 A3 n3 c3 A4 n4 c4 q) (ht : Tab w) (l1 : n1 ≤ 12) (l2 : n2 ≤ 12) (l3 : n3 ≤ 12) (l4 : n4 ≤ 12) :
    Calls Tryd.prog 10 #[.agg #[.bool s1, .slice A1 n1 c1, .slice A2 n2 c2], .agg #[.bool s2, .slice A3 n3 c3, .slice A4 n4 c4]] w (ValPost (.bool true) w) := by
  have ES : Hid (sgn (q - p) = - sgn (p - q)) := Lib.hid (sgn_swap p q)
  obtain ⟨k, hk⟩ : ∃ k, Hid (k = sgn (p - q)) := ⟨_, rfl⟩
  obtain ⟨m, hm⟩ : ∃ m, Hid (m = - k) := ⟨_, rfl⟩
  have HK : Hid (sgn (p - q) = k) := Lib.hid hk.out.symm
  have HM : Hid (sgn (q - p) = m) := Lib.hid (by rw [ES.out, HK.out, hm.out])
  have hkb : -1 ≤ k ∧ k ≤ 1 := by rw [hk.out]; exact sgn_bound _
  have hmb : IntKind.i64.wrap (-k) = m := by rw [hm.out]; exact IntWalk.i64_in _ (by omega)
  obtain ⟨u, HU, x1, x2, xb⟩ := boxes2 w (.bool s1) (.slice A1 n1 c1) (.slice A2 n2 c2) (.bool s2) (.slice A3 n3 c3) (.slice A4 n4 c4) 24 24
  obtain ⟨v, HV⟩ : ∃ v, Hid (v = u.alloc (.cells #[.bool s1, .slice A1 n1 c1, .slice A2 n2 c2, .bool s2, .slice A3 n3 c3, .slice A4 n4 c4] 24)) := ⟨_, rfl⟩
  have SM := Lib.hid (small_two (T := 24) (s1 := s1) (A1 := A1) (A2 := A2) (n1 := n1) (n2 := n2) (c1 := c1) (c2 := c2) (s2 := s2) (A3 := A3) (A4 := A4) (n3 := n3) (n4 := n4) (c3 := c3) (c4 := c4) u true (by rw [decide_eq_true]; omega))
  rw [← HV.out, show u.heap.size = w.heap.size + 1 + 1 from by rw [HU.out]; simp] at SM
  have vb : Below u.heap.size u v := by rw [HV.out]; exact below_alloc (Below.refl _ _) _
  have x1p0 := x1.c0
  have x1p1 := x1.c1
  have x1p2 := x1.c2
  have x2p0 := x2.c0
  have x2p1 := x2.c1
  have x2p2 := x2.c2
  rw [HU.out] at x1p0 x1p1 x1p2 x2p0 x2p1 x2p2
  replace h1 := (h1.below xb).below vb
  replace h2 := (h2.below xb).below vb
  replace x1 := x1.below vb
  replace x2 := x2.below vb
  replace xb := bthen xb vb
  have uu := Below.refl v.heap.size v
  have y1 := x1.drew
  have y2 := x2.drew
  have g1 := h1.drew
  have g2 := h2.drew
  have yu := below_drew xb
  go_enter Tryd.func10, Tryd.ntmps10
  go_wp2_with fail
  rw [← HU.out, ← HV.out]
  refine SM.out.mono ?_
  rintro e w1 ⟨rfl, hw⟩
  replace hw := hw.symm
  subst hw
  clear x1p0 x1p1 x1p2 x2p0 x2p1 x2p2 SM vb
  go_wp2_with fail
  go_region_held3 (fun w' => w'.cell? ⟨w.heap.size, 0, none⟩ = some (.bool s1) ∧ w'.cell? ⟨w.heap.size, 1, none⟩ = some (.slice A1 n1 c1) ∧ w'.cell? ⟨w.heap.size, 2, none⟩ = some (.slice A2 n2 c2) ∧ w'.cell? ⟨w.heap.size + 1, 0, none⟩ = some (.bool s2) ∧ w'.cell? ⟨w.heap.size + 1, 1, none⟩ = some (.slice A3 n3 c3) ∧ w'.cell? ⟨w.heap.size + 1, 2, none⟩ = some (.slice A4 n4 c4))
    (first | (with_reducible exact ⟨x1.c0, x1.c1, x1.c2, x2.c0, x2.c1, x2.c2⟩) | (with_reducible exact ⟨y1.c0, y1.c1, y1.c2, y2.c0, y2.c1, y2.c2⟩) | go_keep)
    (first
      | (go_at_call 50
         (with_reducible refine (Sign_any s1 A1 A2 n1 n2 c1 c2 p _ g1 (by omega) (by omega)).mono ?_)
         rintro e w5 ⟨rfl, b5⟩
         replace y1 := y1.below b5
         replace y2 := y2.below b5
         replace g1 := g1.below b5
         replace g2 := g2.below b5
         replace yu := bthen yu b5)
      | (go_at_call 23
         (with_reducible refine (rSign_any s1 A1 A2 n1 n2 c1 c2 p _ g1 (by omega) (by omega)).mono ?_)
         rintro e w5 ⟨rfl, b5⟩
         replace y1 := y1.below b5
         replace y2 := y2.below b5
         replace g1 := g1.below b5
         replace g2 := g2.below b5
         replace yu := bthen yu b5)
      | (go_at_call 51
         (with_reducible refine (sgn_eq (Cmp_any s1 s2 A1 A2 A3 A4 n1 n2 n3 n4 c1 c2 c3 c4 p q _ g1 g2 (by omega) (by omega) (by omega) (by omega)) HK.out).mono ?_)
         rintro e w5 ⟨rfl, b5⟩
         replace y1 := y1.below b5
         replace y2 := y2.below b5
         replace g1 := g1.below b5
         replace g2 := g2.below b5
         replace yu := bthen yu b5)
      | (go_at_call 51
         (with_reducible refine (sgn_eq (Cmp_any s2 s1 A3 A4 A1 A2 n3 n4 n1 n2 c3 c4 c1 c2 q p _ g2 g1 (by omega) (by omega) (by omega) (by omega)) HM.out).mono ?_)
         rintro e w5 ⟨rfl, b5⟩
         replace y1 := y1.below b5
         replace y2 := y2.below b5
         replace g1 := g1.below b5
         replace g2 := g2.below b5
         replace yu := bthen yu b5)
      | (go_at_call 29
         (with_reducible refine (sgn_eq (rCmp_any s1 A1 A2 n1 n2 c1 c2 s2 A3 A4 n3 n4 c3 c4 p q _ g1 g2 (by omega) (by omega) (by omega) (by omega)) HK.out).mono ?_)
         rintro e w5 ⟨rfl, b5⟩
         replace y1 := y1.below b5
         replace y2 := y2.below b5
         replace g1 := g1.below b5
         replace g2 := g2.below b5
         replace yu := bthen yu b5
         have htx := ht.on yu)
      | (go_at_call 20
         (with_reducible refine (known_any _ htx).mono ?_)
         rintro e w5 ⟨rfl, b5⟩
         replace y1 := y1.below b5
         replace y2 := y2.below b5
         replace g1 := g1.below b5
         replace g2 := g2.below b5
         replace yu := bthen yu b5))
  go_wp2_with fail
  go_ret
  exact ⟨rfl, yu⟩
theorem FracOrders_any (s1 : Bool) (A1 A2 : Option Addr) (n1 n2 c1 c2 : Nat) (s2 : Bool) (A3 A4 : Option Addr) (n3 n4 c3 c4 : Nat) (p q : Rat) (w : World) (h1 : Rf w s1 A1 n1 c1 A2 n2 c2 p) (h2 : Rf w s2 A3 n3 c3 A4 n4 c4 q) (ht : Tab w) :
    Calls Tryd.prog 10 #[.agg #[.bool s1, .slice A1 n1 c1, .slice A2 n2 c2], .agg #[.bool s2, .slice A3 n3 c3, .slice A4 n4 c4]] w (ValPost (.bool true) w) := by
  by_cases hc : 12 < n1 ∨ 12 < n2 ∨ 12 < n3 ∨ 12 < n4
  · exact FracOrders_no s1 A1 A2 n1 n2 c1 c2 s2 A3 A4 n3 n4 c3 c4 w ht hc
  · exact FracOrders_yes s1 A1 A2 n1 n2 c1 c2 s2 A3 A4 n3 n4 c3 c4 p q w h1 h2 ht (by omega) (by omega) (by omega) (by omega)
set_option maxHeartbeats 4000000 in
theorem FracAdds_no (s1 : Bool) (A1 A2 : Option Addr) (n1 n2 c1 c2 : Nat) (s2 : Bool) (A3 A4 : Option Addr) (n3 n4 c3 c4 : Nat) (w : World) (ht : Tab w) (h : 12 < n1 ∨ 12 < n2 ∨ 12 < n3 ∨ 12 < n4) :
    Calls Tryd.prog 11 #[.agg #[.bool s1, .slice A1 n1 c1, .slice A2 n2 c2], .agg #[.bool s2, .slice A3 n3 c3, .slice A4 n4 c4]] w (ValPost (.bool true) w) := by
  obtain ⟨u, HU, x1, x2, xb⟩ := boxes2 w (.bool s1) (.slice A1 n1 c1) (.slice A2 n2 c2) (.bool s2) (.slice A3 n3 c3) (.slice A4 n4 c4) 24 24
  obtain ⟨v, HV⟩ : ∃ v, Hid (v = u.alloc (.cells #[.bool s1, .slice A1 n1 c1, .slice A2 n2 c2, .bool s2, .slice A3 n3 c3, .slice A4 n4 c4] 24)) := ⟨_, rfl⟩
  have SM := Lib.hid (small_two (T := 24) (s1 := s1) (A1 := A1) (A2 := A2) (n1 := n1) (n2 := n2) (c1 := c1) (c2 := c2) (s2 := s2) (A3 := A3) (A4 := A4) (n3 := n3) (n4 := n4) (c3 := c3) (c4 := c4) u false (by rw [decide_eq_false]; omega))
  rw [← HV.out, show u.heap.size = w.heap.size + 1 + 1 from by rw [HU.out]; simp] at SM
  have xb := bthen xb (show Below u.heap.size u v by rw [HV.out]; exact below_alloc (Below.refl _ _) _)
  have x1p0 := x1.c0
  have x1p1 := x1.c1
  have x1p2 := x1.c2
  have x2p0 := x2.c0
  have x2p1 := x2.c1
  have x2p2 := x2.c2
  rw [HU.out] at x1p0 x1p1 x1p2 x2p0 x2p1 x2p2
  have ht2 := ht.on xb
  clear h
  go_enter Tryd.func11, Tryd.ntmps11
  go_wp2_with fail
  rw [← HU.out, ← HV.out]
  refine SM.out.mono ?_
  rintro e w1 ⟨rfl, hw⟩
  replace hw := hw.symm
  subst hw
  clear x1p0 x1p1 x1p2 x2p0 x2p1 x2p2
  go_wp2_with fail
  refine (known_any _ ht2).mono ?_
  rintro e w9 ⟨rfl, b9⟩
  go_wp2_with fail
  go_ret
  exact ⟨rfl, bthen xb b9⟩

set_option maxHeartbeats 8000000 in
theorem FracAdds_yes (s1 : Bool) (A1 A2 : Option Addr) (n1 n2 c1 c2 : Nat) (s2 : Bool) (A3 A4 : Option Addr) (n3 n4 c3 c4 : Nat) (p q : Rat) (w : World) (h1 : Rf w s1 A1 n1 c1 A2 n2 c2 p) (h2 : Rf w s2 A3 n3 c3 A4 n4 c4 q) (ht : Tab w) (l1 : n1 ≤ 12) (l2 : n2 ≤ 12) (l3 : n3 ≤ 12) (l4 : n4 ≤ 12) :
    Calls Tryd.prog 11 #[.agg #[.bool s1, .slice A1 n1 c1, .slice A2 n2 c2], .agg #[.bool s2, .slice A3 n3 c3, .slice A4 n4 c4]] w (ValPost (.bool true) w) := by
  have e1 := h1.len
  have e2 := h2.len
  have La : Hid (ln (p + q) ≤ 1000 ∧ ld (p + q) ≤ 1000) := Lib.hid (by have := ln_add p q; omega)
  have Ls : Hid (ln (p - q) ≤ 1000 ∧ ld (p - q) ≤ 1000) := Lib.hid (by rw [show p - q = p + -q from by grind]; have := ln_add p (-q); have := ln_neg q; omega)
  have Ln : Hid (ln (-p) ≤ 1000 ∧ ld (-p) ≤ 1000) := Lib.hid (by have := ln_neg p; omega)
  clear e1 e2
  obtain ⟨u, HU, x1, x2, xb⟩ := boxes2 w (.bool s1) (.slice A1 n1 c1) (.slice A2 n2 c2) (.bool s2) (.slice A3 n3 c3) (.slice A4 n4 c4) 24 24
  obtain ⟨v, HV⟩ : ∃ v, Hid (v = u.alloc (.cells #[.bool s1, .slice A1 n1 c1, .slice A2 n2 c2, .bool s2, .slice A3 n3 c3, .slice A4 n4 c4] 24)) := ⟨_, rfl⟩
  have SM := Lib.hid (small_two (T := 24) (s1 := s1) (A1 := A1) (A2 := A2) (n1 := n1) (n2 := n2) (c1 := c1) (c2 := c2) (s2 := s2) (A3 := A3) (A4 := A4) (n3 := n3) (n4 := n4) (c3 := c3) (c4 := c4) u true (by rw [decide_eq_true]; omega))
  rw [← HV.out, show u.heap.size = w.heap.size + 1 + 1 from by rw [HU.out]; simp] at SM
  have vb : Below u.heap.size u v := by rw [HV.out]; exact below_alloc (Below.refl _ _) _
  have x1p0 := x1.c0
  have x1p1 := x1.c1
  have x1p2 := x1.c2
  have x2p0 := x2.c0
  have x2p1 := x2.c1
  have x2p2 := x2.c2
  rw [HU.out] at x1p0 x1p1 x1p2 x2p0 x2p1 x2p2
  replace h1 := (h1.below xb).below vb
  replace h2 := (h2.below xb).below vb
  replace x1 := x1.below vb
  replace x2 := x2.below vb
  replace xb := bthen xb vb
  have uu := Below.refl v.heap.size v
  have y1 := x1.drew
  have y2 := x2.drew
  have g1 := h1.drew
  have g2 := h2.drew
  have yu := below_drew xb
  go_enter Tryd.func11, Tryd.ntmps11
  go_wp2_with fail
  rw [← HU.out, ← HV.out]
  refine SM.out.mono ?_
  rintro e w1 ⟨rfl, hw⟩
  replace hw := hw.symm
  subst hw
  clear x1p0 x1p1 x1p2 x2p0 x2p1 x2p2 SM vb
  go_wp2_with fail
  go_region_held3 (fun w' => w'.cell? ⟨w.heap.size, 0, none⟩ = some (.bool s1) ∧ w'.cell? ⟨w.heap.size, 1, none⟩ = some (.slice A1 n1 c1) ∧ w'.cell? ⟨w.heap.size, 2, none⟩ = some (.slice A2 n2 c2) ∧ w'.cell? ⟨w.heap.size + 1, 0, none⟩ = some (.bool s2) ∧ w'.cell? ⟨w.heap.size + 1, 1, none⟩ = some (.slice A3 n3 c3) ∧ w'.cell? ⟨w.heap.size + 1, 2, none⟩ = some (.slice A4 n4 c4))
    (first | (with_reducible exact ⟨x1.c0, x1.c1, x1.c2, x2.c0, x2.c1, x2.c2⟩) | (with_reducible exact ⟨y1.c0, y1.c1, y1.c2, y2.c0, y2.c1, y2.c2⟩) | go_keep)
    (first
      | (go_at_call 52
         (with_reducible refine (Add_any s1 s2 A1 A2 A3 A4 n1 n2 n3 n4 c1 c2 c3 c4 p q _ g1 g2 (by omega) (by omega) (by omega) (by omega)).mono ?_)
         rintro e w5 ⟨s3, A5, n5, c5, A6, n6, c6, rfl, f3, _, _, b5⟩
         replace y1 := y1.below b5
         replace y2 := y2.below b5
         replace g1 := g1.below b5
         replace g2 := g2.below b5
         replace yu := bthen yu b5
         have hn5 : n5 ≤ 1000 := by have := f3.lens; have := La.out; omega
         have hn6 : n6 ≤ 1000 := by have := f3.lens; have := La.out; omega)
      | (go_at_call 53
         (with_reducible refine (rAdd_any s1 A1 A2 n1 n2 c1 c2 s2 A3 A4 n3 n4 c3 c4 p q _ g1 g2 (by omega) (by omega) (by omega) (by omega)).mono ?_)
         rintro e w5 ⟨s4, A7, n7, c7, A8, n8, c8, rfl, f4, _, _, b5⟩
         replace y1 := y1.below b5
         replace y2 := y2.below b5
         replace g1 := g1.below b5
         replace g2 := g2.below b5
         replace f3 := f3.below b5
         replace yu := bthen yu b5
         have hn7 : n7 ≤ 1000 := by have := f4.lens; have := La.out; omega
         have hn8 : n8 ≤ 1000 := by have := f4.lens; have := La.out; omega)
      | (go_at_call 22
         (with_reducible refine (SameFr_any s3 s4 A5 A6 A7 A8 n5 n6 n7 n8 c5 c6 c7 c8 _ _ _ f3 f4 (by omega) (by omega) (by omega) (by omega) true (decide_eq_true rfl).symm).mono ?_)
         rintro e w5 ⟨rfl, b5⟩
         replace y1 := y1.below b5
         replace y2 := y2.below b5
         replace g1 := g1.below b5
         replace g2 := g2.below b5
         replace yu := bthen yu b5
         have htx := ht.on yu)
      | (go_at_call 54
         (with_reducible refine (Sub_any s1 s2 A1 A2 A3 A4 n1 n2 n3 n4 c1 c2 c3 c4 p q _ g1 g2 (by omega) (by omega) (by omega) (by omega)).mono ?_)
         rintro e w5 ⟨s5, A9, n9, c9, A10, n10, c10, rfl, f5, _, _, b5⟩
         replace y1 := y1.below b5
         replace y2 := y2.below b5
         replace g1 := g1.below b5
         replace g2 := g2.below b5
         replace yu := bthen yu b5
         have hn9 : n9 ≤ 1000 := by have := f5.lens; have := Ls.out; omega
         have hn10 : n10 ≤ 1000 := by have := f5.lens; have := Ls.out; omega)
      | (go_at_call 27
         (with_reducible refine (rSub_any s1 A1 A2 n1 n2 c1 c2 s2 A3 A4 n3 n4 c3 c4 p q _ g1 g2 (by omega) (by omega) (by omega) (by omega)).mono ?_)
         rintro e w5 ⟨s6, A11, n11, c11, A12, n12, c12, rfl, f6, _, _, b5⟩
         replace y1 := y1.below b5
         replace y2 := y2.below b5
         replace g1 := g1.below b5
         replace g2 := g2.below b5
         replace f5 := f5.below b5
         replace yu := bthen yu b5
         have hn11 : n11 ≤ 1000 := by have := f6.lens; have := Ls.out; omega
         have hn12 : n12 ≤ 1000 := by have := f6.lens; have := Ls.out; omega)
      | (go_at_call 22
         (with_reducible refine (SameFr_any s5 s6 A9 A10 A11 A12 n9 n10 n11 n12 c9 c10 c11 c12 _ _ _ f5 f6 (by omega) (by omega) (by omega) (by omega) true (decide_eq_true rfl).symm).mono ?_)
         rintro e w5 ⟨rfl, b5⟩
         replace y1 := y1.below b5
         replace y2 := y2.below b5
         replace g1 := g1.below b5
         replace g2 := g2.below b5
         replace yu := bthen yu b5
         have htx := ht.on yu)
      | (go_at_call 55
         (with_reducible refine (Neg_any s1 A1 A2 n1 n2 c1 c2 p _ g1 (by omega) (by omega)).mono ?_)
         rintro e w5 ⟨s7, A13, n13, c13, A14, n14, c14, rfl, f7, _, _, b5⟩
         replace y1 := y1.below b5
         replace y2 := y2.below b5
         replace g1 := g1.below b5
         replace g2 := g2.below b5
         replace yu := bthen yu b5
         have hn13 : n13 ≤ 1000 := by have := f7.lens; have := Ln.out; omega
         have hn14 : n14 ≤ 1000 := by have := f7.lens; have := Ln.out; omega)
      | (go_at_call 56
         (with_reducible refine (rNeg_any s1 A1 A2 n1 n2 c1 c2 p _ g1 (by omega) (by omega)).mono ?_)
         rintro e w5 ⟨s8, A15, n15, c15, A16, n16, c16, rfl, f8, _, _, b5⟩
         replace y1 := y1.below b5
         replace y2 := y2.below b5
         replace g1 := g1.below b5
         replace g2 := g2.below b5
         replace f7 := f7.below b5
         replace yu := bthen yu b5
         have hn15 : n15 ≤ 1000 := by have := f8.lens; have := Ln.out; omega
         have hn16 : n16 ≤ 1000 := by have := f8.lens; have := Ln.out; omega)
      | (go_at_call 22
         (with_reducible refine (SameFr_any s7 s8 A13 A14 A15 A16 n13 n14 n15 n16 c13 c14 c15 c16 _ _ _ f7 f8 (by omega) (by omega) (by omega) (by omega) true (decide_eq_true rfl).symm).mono ?_)
         rintro e w5 ⟨rfl, b5⟩
         replace y1 := y1.below b5
         replace y2 := y2.below b5
         replace g1 := g1.below b5
         replace g2 := g2.below b5
         replace yu := bthen yu b5
         have htx := ht.on yu)
      | (go_at_call 20
         (with_reducible refine (known_any _ htx).mono ?_)
         rintro e w5 ⟨rfl, b5⟩
         replace y1 := y1.below b5
         replace y2 := y2.below b5
         replace g1 := g1.below b5
         replace g2 := g2.below b5
         replace yu := bthen yu b5))
  go_wp2_with fail
  go_ret
  exact ⟨rfl, yu⟩
theorem FracAdds_any (s1 : Bool) (A1 A2 : Option Addr) (n1 n2 c1 c2 : Nat) (s2 : Bool) (A3 A4 : Option Addr) (n3 n4 c3 c4 : Nat) (p q : Rat) (w : World) (h1 : Rf w s1 A1 n1 c1 A2 n2 c2 p) (h2 : Rf w s2 A3 n3 c3 A4 n4 c4 q) (ht : Tab w) :
    Calls Tryd.prog 11 #[.agg #[.bool s1, .slice A1 n1 c1, .slice A2 n2 c2], .agg #[.bool s2, .slice A3 n3 c3, .slice A4 n4 c4]] w (ValPost (.bool true) w) := by
  by_cases hc : 12 < n1 ∨ 12 < n2 ∨ 12 < n3 ∨ 12 < n4
  · exact FracAdds_no s1 A1 A2 n1 n2 c1 c2 s2 A3 A4 n3 n4 c3 c4 w ht hc
  · exact FracAdds_yes s1 A1 A2 n1 n2 c1 c2 s2 A3 A4 n3 n4 c3 c4 p q w h1 h2 ht (by omega) (by omega) (by omega) (by omega)
end Go.Proofs.YtaahbabdbopphaaDoor
