/- FracParses: the walk. -/
import Derived.Test.YtaahbabdbopphaaDoorRP
import Derived.Test.YtaahbabdbopphaaDoorPR
import Derived.Test.YtaahbabdbopphaaDoorB0
namespace Go.Proofs.YtaahbabdbopphaaDoor
open Go.RowKit Mx
set_option maxRecDepth 100000

set_option maxHeartbeats 4000000 in
theorem FracParses_mid (s : ByteArray) (w : World) (ht : Tab w) (h1 : 200 < s.size) (h2 : s.size ≤ 10000) :
    Calls Tryd.prog 8 #[.string s] w (ValPost (.bool true) w) := by
  have i1 : (200 : Int) < ((s.size : Nat) : Int) := by omega
  have i2 : ((s.size : Nat) : Int) ≤ 10000 := by omega
  clear h1 h2
  go_enter Tryd.func8, Tryd.ntmps8
  go_wp2_with fail
  refine (known_any _ ht).mono ?_
  rintro e w9 ⟨rfl, b9⟩
  go_wp2_with fail
  go_ret
  exact ⟨rfl, b9⟩

set_option maxHeartbeats 8000000 in
theorem FracParses_few (s : ByteArray) (q : Rat) (er : Int) (w : World) (ht : Tab w) (hl : Hid (ln q ≤ 100000 ∧ ld q ≤ 100000)) (hs : s.size ≤ 200)
    (PA : Hid (∀ w, Calls Tryd.prog 32 #[.string s] w (FrEPost q er w))) (PB : Hid (∀ w, Calls Tryd.prog 47 #[.string s] w (FrEPost q er w))) :
    Calls Tryd.prog 8 #[.string s] w (ValPost (.bool true) w) := by
  have i1 : ((s.size : Nat) : Int) ≤ 200 := by omega
  clear hs
  go_enter Tryd.func8, Tryd.ntmps8
  go_wp2_with fail
  refine (PA.out _).mono ?_
  rintro e w1 ⟨s1, A1, n1, c1, A2, n2, c2, rfl, f1, _, _, b5⟩
  obtain ⟨u1, HU1, x1, xb⟩ := boxes1 w1 (.bool s1) (.slice A1 n1 c1) (.slice A2 n2 c2) 24
  replace f1 := f1.below xb
  replace xb := bthen b5 xb
  have hn1 : n1 ≤ 1000000 := by have := f1.lens; have := hl.out; omega
  have hn2 : n2 ≤ 1000000 := by have := f1.lens; have := hl.out; omega
  go_wp2_with fail
  rw [← HU1.out]
  refine (PB.out _).mono ?_
  rintro e w3 ⟨s2, A3, n3, c3, A4, n4, c4, rfl, f3, _, _, b5⟩
  obtain ⟨u3, HU3, x3, xb3⟩ := boxes1 w3 (.bool s2) (.slice A3 n3 c3) (.slice A4 n4 c4) 24
  replace x1 := x1.below b5
  replace f1 := f1.below b5
  replace xb := bthen xb b5
  replace x1 := x1.below xb3
  replace f1 := f1.below xb3
  replace f3 := f3.below xb3
  replace xb := bthen xb xb3
  have hn3 : n3 ≤ 1000000 := by have := f3.lens; have := hl.out; omega
  have hn4 : n4 ≤ 1000000 := by have := f3.lens; have := hl.out; omega
  have x1p0 := x1.c0
  have x1p1 := x1.c1
  have x1p2 := x1.c2
  have x3p0 := x3.c0
  have x3p1 := x3.c1
  have x3p2 := x3.c2
  rw [HU3.out] at x1p0 x1p1 x1p2 x3p0 x3p1 x3p2
  go_wp2_with fail
  rw [← HU3.out]
  refine (SameFr_any s1 s2 A1 A2 A3 A4 n1 n2 n3 n4 c1 c2 c3 c4 _ _ _ f1 f3 (by omega) (by omega) (by omega) (by omega) true (decide_eq_true rfl).symm).mono ?_
  rintro e w5 ⟨rfl, b5⟩
  replace xb := bthen xb b5
  have htx := ht.on xb
  go_wp2_with fail
  refine (known_any _ htx).mono ?_
  rintro e w6 ⟨rfl, b6⟩
  go_wp2_with fail
  go_ret
  exact ⟨rfl, bthen xb b6⟩

set_option maxHeartbeats 8000000 in
theorem FracParses_many (s : ByteArray) (q : Rat) (er : Int) (w : World) (ht : Tab w) (hl : Hid (ln q ≤ 100000 ∧ ld q ≤ 100000)) (hs : 10000 < s.size)
    (PA : Hid (∀ w, Calls Tryd.prog 32 #[.string s] w (FrEPost q er w))) (PB : Hid (∀ w, Calls Tryd.prog 47 #[.string s] w (FrEPost q er w))) :
    Calls Tryd.prog 8 #[.string s] w (ValPost (.bool true) w) := by
  have i1 : (10000 : Int) < ((s.size : Nat) : Int) := by omega
  have i2 : (200 : Int) < ((s.size : Nat) : Int) := by omega
  clear hs
  go_enter Tryd.func8, Tryd.ntmps8
  go_wp2_with fail
  refine (PA.out _).mono ?_
  rintro e w1 ⟨s1, A1, n1, c1, A2, n2, c2, rfl, f1, _, _, b5⟩
  obtain ⟨u1, HU1, x1, xb⟩ := boxes1 w1 (.bool s1) (.slice A1 n1 c1) (.slice A2 n2 c2) 24
  replace f1 := f1.below xb
  replace xb := bthen b5 xb
  have hn1 : n1 ≤ 1000000 := by have := f1.lens; have := hl.out; omega
  have hn2 : n2 ≤ 1000000 := by have := f1.lens; have := hl.out; omega
  go_wp2_with fail
  rw [← HU1.out]
  refine (PB.out _).mono ?_
  rintro e w3 ⟨s2, A3, n3, c3, A4, n4, c4, rfl, f3, _, _, b5⟩
  obtain ⟨u3, HU3, x3, xb3⟩ := boxes1 w3 (.bool s2) (.slice A3 n3 c3) (.slice A4 n4 c4) 24
  replace x1 := x1.below b5
  replace f1 := f1.below b5
  replace xb := bthen xb b5
  replace x1 := x1.below xb3
  replace f1 := f1.below xb3
  replace f3 := f3.below xb3
  replace xb := bthen xb xb3
  have hn3 : n3 ≤ 1000000 := by have := f3.lens; have := hl.out; omega
  have hn4 : n4 ≤ 1000000 := by have := f3.lens; have := hl.out; omega
  have x1p0 := x1.c0
  have x1p1 := x1.c1
  have x1p2 := x1.c2
  have x3p0 := x3.c0
  have x3p1 := x3.c1
  have x3p2 := x3.c2
  rw [HU3.out] at x1p0 x1p1 x1p2 x3p0 x3p1 x3p2
  go_wp2_with fail
  rw [← HU3.out]
  refine (SameFr_any s1 s2 A1 A2 A3 A4 n1 n2 n3 n4 c1 c2 c3 c4 _ _ _ f1 f3 (by omega) (by omega) (by omega) (by omega) true (decide_eq_true rfl).symm).mono ?_
  rintro e w5 ⟨rfl, b5⟩
  replace xb := bthen xb b5
  have htx := ht.on xb
  go_wp2_with fail
  refine (known_any _ htx).mono ?_
  rintro e w6 ⟨rfl, b6⟩
  go_wp2_with fail
  go_ret
  exact ⟨rfl, bthen xb b6⟩

theorem FracParses_any (s : ByteArray) (w : World) (ht : Tab w) (hm : s.size ≤ 9223372036854775807) :
    Calls Tryd.prog 8 #[.string s] w (ValPost (.bool true) w) := by
  by_cases h1 : s.size ≤ 200
  · exact FracParses_few s _ _ w ht (Lib.hid (prs_small _ (by rw [ba_len]; omega))) h1 (Lib.hid fun w => Parse_any s w hm) (Lib.hid fun w => rParse_any s w (Or.inl (by omega)) hm)
  by_cases h2 : s.size ≤ 10000
  · exact FracParses_mid s w ht (by omega) h2
  · exact FracParses_many s _ _ w ht (Lib.hid (by rw [prs_long _ (by rw [ba_len]; omega)]; have := ln_zero; omega)) (by omega) (Lib.hid fun w => Parse_any s w hm) (Lib.hid fun w => rParse_any s w (Or.inr (by omega)) hm)
end Go.Proofs.YtaahbabdbopphaaDoor
