/- FracCanon: the walk. -/
import Derived.Test.YtaahbabdbopphaaDoorCN
import Derived.Test.YtaahbabdbopphaaDoorSM
import Derived.Test.YtaahbabdbopphaaDoorB0
namespace Go.Proofs.YtaahbabdbopphaaDoor
open Go.RowKit Mx
set_option maxRecDepth 100000

theorem bool_eq {xs : Array Value} {w : World} {f : Nat} {x y : Bool} (h : Calls Tryd.prog f xs w (ValPost (.bool x) w)) (e : x = y) : Calls Tryd.prog f xs w (ValPost (.bool y) w) := by subst e; exact h
theorem Canonical_any (s1 : Bool) (A1 A2 : Option Addr) (n1 n2 c1 c2 : Nat) (xs ys : List Nat) (w : World) (h1 : Sl w A1 n1 c1 xs) (h2 : Sl w A2 n2 c2 ys) (d1 : Ds xs) (d2 : Ds ys) (hl1 : n1 ≤ 1000000) (hl2 : n2 ≤ 1000000) :
    Calls Tryd.prog 61 #[.agg #[.bool s1, .slice A1 n1 c1, .slice A2 n2 c2]] w (ValPost (.bool (cn s1 xs ys)) w) := by
  by_cases h0 : xs = dig (val xs)
  · by_cases h3 : ys = dig (val ys)
    · by_cases hb1 : val ys = 1
      · exact Canonical_iii s1 A1 A2 n1 n2 c1 c2 xs ys w h1 h2 d1 d2 hl1 hl2 h0 h3 hb1
      by_cases hv : val xs = 0
      · by_cases hy : val ys = 0
        · have := Canonical_iv s1 A1 A2 n1 n2 c1 c2 xs ys w h1 h2 d1 d2 hl1 hl2 h0 h3 hv hy
          exact this
        · exact Canonical_v s1 A1 A2 n1 n2 c1 c2 xs ys w h1 h2 d1 d2 hl1 hl2 h0 h3 hb1 hv hy
      · by_cases hy : val ys = 0
        · exact Canonical_vi s1 A1 A2 n1 n2 c1 c2 xs ys w h1 h2 d1 d2 hl1 hl2 h0 h3 hb1 hv hy
        · by_cases hg : (val xs).gcd (val ys) = 1
          · exact Canonical_vii s1 A1 A2 n1 n2 c1 c2 xs ys w h1 h2 d1 d2 hl1 hl2 h0 h3 hb1 hv hy hg
          · exact Canonical_viii s1 A1 A2 n1 n2 c1 c2 xs ys w h1 h2 d1 d2 hl1 hl2 h0 h3 hb1 hv hy hg
    · exact Canonical_ii s1 A1 A2 n1 n2 c1 c2 xs ys w h1 h2 d1 d2 hl1 hl2 h0 h3
  · exact Canonical_i s1 A1 A2 n1 n2 c1 c2 xs ys w h1 h2 d1 d2 hl1 hl2 h0
theorem cn_fr {w : World} {sb : Bool} {A1 : Option Addr} {n1 c1 : Nat} {A2 : Option Addr} {n2 c2 : Nat} {q : Rat} (h : Fr w sb A1 n1 c1 A2 n2 c2 q) : cn sb (dig (rn q)) (dig (rD q)) = true := by
  unfold cn
  rw [val_dig, val_dig, h.neg, fv_canon]
  exact decide_eq_true ⟨rfl, rfl, rfl⟩
/-- Canonical of what is canonical. -/
theorem CanonicalFr_any (s1 : Bool) (A1 A2 : Option Addr) (n1 n2 c1 c2 : Nat) (q : Rat) (w : World) (h : Fr w s1 A1 n1 c1 A2 n2 c2 q) (hl1 : n1 ≤ 1000000) (hl2 : n2 ≤ 1000000) :
    Calls Tryd.prog 61 #[.agg #[.bool s1, .slice A1 n1 c1, .slice A2 n2 c2]] w (ValPost (.bool true) w) := by
  have := Canonical_any s1 A1 A2 n1 n2 c1 c2 _ _ w h.num h.den (ds_dig _) (ds_dig _) hl1 hl2
  rwa [cn_fr h] at this
set_option maxHeartbeats 4000000 in
theorem FracCanon_no (s1 : Bool) (A1 A2 : Option Addr) (n1 n2 c1 c2 : Nat) (w : World) (ht : Tab w) (h : 12 < n1 ∨ 12 < n2) :
    Calls Tryd.prog 17 #[.agg #[.bool s1, .slice A1 n1 c1, .slice A2 n2 c2]] w (ValPost (.bool true) w) := by
  obtain ⟨u, HU, x1, xb⟩ := boxes1 w (.bool s1) (.slice A1 n1 c1) (.slice A2 n2 c2) 24
  obtain ⟨v, HV⟩ : ∃ v, Hid (v = u.alloc (.cells #[.bool s1, .slice A1 n1 c1, .slice A2 n2 c2] 24)) := ⟨_, rfl⟩
  have SM := Lib.hid (small_one (T := 24) (s1 := s1) (A1 := A1) (A2 := A2) (n1 := n1) (n2 := n2) (c1 := c1) (c2 := c2) u false (by rw [decide_eq_false]; omega))
  rw [← HV.out, show u.heap.size = w.heap.size + 1 from by rw [HU.out]; simp] at SM
  have xb := bthen xb (show Below u.heap.size u v by rw [HV.out]; exact below_alloc (Below.refl _ _) _)
  have x1p0 := x1.c0
  have x1p1 := x1.c1
  have x1p2 := x1.c2
  rw [HU.out] at x1p0 x1p1 x1p2
  have ht2 := ht.on xb
  clear h
  go_enter Tryd.func17, Tryd.ntmps17
  go_wp2_with fail
  rw [← HU.out, ← HV.out]
  refine SM.out.mono ?_
  rintro e w1 ⟨rfl, hw⟩
  replace hw := hw.symm
  subst hw
  clear x1p0 x1p1 x1p2
  go_wp2_with fail
  refine (known_any _ ht2).mono ?_
  rintro e w9 ⟨rfl, b9⟩
  go_wp2_with fail
  go_ret
  exact ⟨rfl, bthen xb b9⟩

set_option maxHeartbeats 8000000 in
theorem FracCanon_yes (s1 : Bool) (A1 A2 : Option Addr) (n1 n2 c1 c2 : Nat) (xs ys : List Nat) (w : World) (h1 : Sl w A1 n1 c1 xs) (h2 : Sl w A2 n2 c2 ys) (d1 : Ds xs) (d2 : Ds ys) (ht : Tab w) (l1 : n1 ≤ 12) (l2 : n2 ≤ 12) :
    Calls Tryd.prog 17 #[.agg #[.bool s1, .slice A1 n1 c1, .slice A2 n2 c2]] w (ValPost (.bool true) w) := by
  obtain ⟨q, hq⟩ : ∃ q, Hid (q = fv s1 (val xs) (val ys)) := ⟨_, rfl⟩
  have hr : Rf w s1 A1 n1 c1 A2 n2 c2 q := ⟨xs, ys, h1, h2, d1, d2, hq.out⟩
  have e1 := hr.len
  have Lq : Hid (ln q ≤ 1000 ∧ ld q ≤ 1000) := Lib.hid (by omega)
  obtain ⟨b, hb⟩ : ∃ b, Hid (b = cn s1 xs ys) := ⟨_, rfl⟩
  clear e1
  obtain ⟨u, HU, x1, xb⟩ := boxes1 w (.bool s1) (.slice A1 n1 c1) (.slice A2 n2 c2) 24
  obtain ⟨v, HV⟩ : ∃ v, Hid (v = u.alloc (.cells #[.bool s1, .slice A1 n1 c1, .slice A2 n2 c2] 24)) := ⟨_, rfl⟩
  have SM := Lib.hid (small_one (T := 24) (s1 := s1) (A1 := A1) (A2 := A2) (n1 := n1) (n2 := n2) (c1 := c1) (c2 := c2) u true (by rw [decide_eq_true]; omega))
  rw [← HV.out, show u.heap.size = w.heap.size + 1 from by rw [HU.out]; simp] at SM
  have vb : Below u.heap.size u v := by rw [HV.out]; exact below_alloc (Below.refl _ _) _
  have x1p0 := x1.c0
  have x1p1 := x1.c1
  have x1p2 := x1.c2
  rw [HU.out] at x1p0 x1p1 x1p2
  replace h1 := (h1.below xb).below vb
  replace h2 := (h2.below xb).below vb
  replace hr := (hr.below xb).below vb
  replace x1 := x1.below vb
  replace xb := bthen xb vb
  have uu := Below.refl v.heap.size v
  go_enter Tryd.func17, Tryd.ntmps17
  go_wp2_with fail
  rw [← HU.out, ← HV.out]
  refine SM.out.mono ?_
  rintro e w1 ⟨rfl, hw⟩
  replace hw := hw.symm
  subst hw
  clear x1p0 x1p1 x1p2 SM vb
  have x1p0 := x1.c0
  have x1p1 := x1.c1
  have x1p2 := x1.c2
  go_wp2_with fail
  refine (Canon_any s1 A1 A2 n1 n2 c1 c2 q _ hr (by omega) (by omega)).mono ?_
  rintro e w3 ⟨s3, A5, n5, c5, A6, n6, c6, rfl, f3, _, _, b5⟩
  obtain ⟨u3, HU3, x3, xb3⟩ := boxes1 w3 (.bool s3) (.slice A5 n5 c5) (.slice A6 n6 c6) 24
  clear x1p0 x1p1 x1p2
  replace x1 := x1.below b5
  replace h1 := h1.below b5
  replace h2 := h2.below b5
  replace hr := hr.below b5
  replace xb := bthen xb b5
  replace x1 := x1.below xb3
  replace h1 := h1.below xb3
  replace h2 := h2.below xb3
  replace hr := hr.below xb3
  replace f3 := f3.below xb3
  replace xb := bthen xb xb3
  have hn5 : n5 ≤ 1000 := by have := f3.lens; have := Lq.out; omega
  have hn6 : n6 ≤ 1000 := by have := f3.lens; have := Lq.out; omega
  have y1 := x1.drew
  have y3 := x3.drew
  have g1 := h1.drew
  have g2 := h2.drew
  have gr := hr.drew
  have g3 := f3.below (below_drew (Below.refl _ u3))
  have yu := below_drew xb
  obtain ⟨ks, hks⟩ : ∃ k : Int, Hid ((blen (rn q) : Int) + (blen (rd q) : Int) = k) := ⟨_, rfl⟩
  go_wp2_with fail
  rw [← HU3.out]
  go_region_held3 (fun w' => w'.cell? ⟨w.heap.size, 0, none⟩ = some (.bool s1) ∧ w'.cell? ⟨w.heap.size, 1, none⟩ = some (.slice A1 n1 c1) ∧ w'.cell? ⟨w.heap.size, 2, none⟩ = some (.slice A2 n2 c2) ∧ w'.cell? ⟨w3.heap.size, 0, none⟩ = some (.bool s3) ∧ w'.cell? ⟨w3.heap.size, 1, none⟩ = some (.slice A5 n5 c5) ∧ w'.cell? ⟨w3.heap.size, 2, none⟩ = some (.slice A6 n6 c6))
    (first | (with_reducible exact ⟨x1.c0, x1.c1, x1.c2, x3.c0, x3.c1, x3.c2⟩) | (with_reducible exact ⟨y1.c0, y1.c1, y1.c2, y3.c0, y3.c1, y3.c2⟩) | go_keep)
    (first
      | (go_at_call 61
         (with_reducible refine (bool_eq (Canonical_any s1 A1 A2 n1 n2 c1 c2 xs ys _ g1 g2 d1 d2 (by omega) (by omega)) hb.out.symm).mono ?_)
         rintro e w5 ⟨rfl, b5⟩
         replace y1 := y1.below b5
         replace y3 := y3.below b5
         replace g1 := g1.below b5
         replace g2 := g2.below b5
         replace gr := gr.below b5
         replace g3 := g3.below b5
         replace yu := bthen yu b5)
      | (go_at_call 62
         (with_reducible refine (rCanonical_any s1 A1 A2 n1 n2 c1 c2 xs ys _ g1 g2 d1 d2 (by omega) (by omega) b hb.out).mono ?_)
         rintro e w5 ⟨rfl, b5⟩
         replace y1 := y1.below b5
         replace y3 := y3.below b5
         replace g1 := g1.below b5
         replace g2 := g2.below b5
         replace gr := gr.below b5
         replace g3 := g3.below b5
         replace yu := bthen yu b5)
      | (go_at_call 34
         (with_reducible refine (rCanon_any s1 A1 A2 n1 n2 c1 c2 q _ gr (by omega) (by omega)).mono ?_)
         rintro e w5 ⟨s4, A7, n7, c7, A8, n8, c8, rfl, f4, _, _, b5⟩
         replace y1 := y1.below b5
         replace y3 := y3.below b5
         replace g1 := g1.below b5
         replace g2 := g2.below b5
         replace gr := gr.below b5
         replace g3 := g3.below b5
         replace yu := bthen yu b5
         have hn7 : n7 ≤ 1000 := by have := f4.lens; have := Lq.out; omega
         have hn8 : n8 ≤ 1000 := by have := f4.lens; have := Lq.out; omega)
      | (go_at_call 22
         (with_reducible refine (SameFr_any s3 s4 A5 A6 A7 A8 n5 n6 n7 n8 c5 c6 c7 c8 _ _ _ g3 f4 (by omega) (by omega) (by omega) (by omega) true (decide_eq_true rfl).symm).mono ?_)
         rintro e w5 ⟨rfl, b5⟩
         replace y1 := y1.below b5
         replace y3 := y3.below b5
         replace g1 := g1.below b5
         replace g2 := g2.below b5
         replace gr := gr.below b5
         replace g3 := g3.below b5
         replace yu := bthen yu b5)
      | (go_at_call 61
         (with_reducible refine (CanonicalFr_any s3 A5 A6 n5 n6 c5 c6 _ _ g3 (by omega) (by omega)).mono ?_)
         rintro e w5 ⟨rfl, b5⟩
         replace y1 := y1.below b5
         replace y3 := y3.below b5
         replace g1 := g1.below b5
         replace g2 := g2.below b5
         replace gr := gr.below b5
         replace g3 := g3.below b5
         replace yu := bthen yu b5)
      | (go_at_call 63
         (with_reducible refine (sgn_eq (Size_any s1 A1 A2 n1 n2 c1 c2 q _ gr (by omega) (by omega)) hks.out).mono ?_)
         rintro e w5 ⟨rfl, b5⟩
         replace y1 := y1.below b5
         replace y3 := y3.below b5
         replace g1 := g1.below b5
         replace g2 := g2.below b5
         replace gr := gr.below b5
         replace g3 := g3.below b5
         replace yu := bthen yu b5)
      | (go_at_call 64
         (with_reducible refine (sgn_eq (rSize_any s1 A1 A2 n1 n2 c1 c2 q _ gr (by omega) (by omega)) hks.out).mono ?_)
         rintro e w5 ⟨rfl, b5⟩
         replace y1 := y1.below b5
         replace y3 := y3.below b5
         replace g1 := g1.below b5
         replace g2 := g2.below b5
         replace gr := gr.below b5
         replace g3 := g3.below b5
         replace yu := bthen yu b5
         have htx := ht.on yu)
      | (go_at_call 20
         (with_reducible refine (known_any _ htx).mono ?_)
         rintro e w5 ⟨rfl, b5⟩
         replace y1 := y1.below b5
         replace y3 := y3.below b5
         replace g1 := g1.below b5
         replace g2 := g2.below b5
         replace gr := gr.below b5
         replace g3 := g3.below b5
         replace yu := bthen yu b5))
  go_wp2_with fail
  go_ret
  exact ⟨rfl, yu⟩
theorem FracCanon_any (s1 : Bool) (A1 A2 : Option Addr) (n1 n2 c1 c2 : Nat) (xs ys : List Nat) (w : World) (h1 : Sl w A1 n1 c1 xs) (h2 : Sl w A2 n2 c2 ys) (d1 : Ds xs) (d2 : Ds ys) (ht : Tab w) :
    Calls Tryd.prog 17 #[.agg #[.bool s1, .slice A1 n1 c1, .slice A2 n2 c2]] w (ValPost (.bool true) w) := by
  by_cases hc : 12 < n1 ∨ 12 < n2
  · exact FracCanon_no s1 A1 A2 n1 n2 c1 c2 w ht hc
  · exact FracCanon_yes s1 A1 A2 n1 n2 c1 c2 xs ys w h1 h2 d1 d2 ht (by omega) (by omega)
end Go.Proofs.YtaahbabdbopphaaDoor
