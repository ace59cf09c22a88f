/- FracTexts: the walk. -/
import Derived.Test.YtaahbabdbopphaaDoorDG
import Derived.Test.YtaahbabdbopphaaDoorPT
import Derived.Test.YtaahbabdbopphaaDoorSM
import Derived.Test.YtaahbabdbopphaaDoorB0
namespace Go.Proofs.YtaahbabdbopphaaDoor
open Go.RowKit Mx
set_option maxRecDepth 100000

set_option maxHeartbeats 4000000 in
theorem FracTexts_no (s1 : Bool) (A1 A2 : Option Addr) (n1 n2 c1 c2 : Nat) (w : World) (ht : Tab w) (h : 12 < n1 ∨ 12 < n2) :
    Calls Tryd.prog 5 #[.agg #[.bool s1, .slice A1 n1 c1, .slice A2 n2 c2]] w (ValPost (.bool true) w) := by
  obtain ⟨u, HU, x1, xb⟩ := boxes1 w (.bool s1) (.slice A1 n1 c1) (.slice A2 n2 c2) 24
  obtain ⟨v, HV⟩ : ∃ v, Hid (v = u.alloc (.cells #[.bool s1, .slice A1 n1 c1, .slice A2 n2 c2] 24)) := ⟨_, rfl⟩
  have SM := Lib.hid (small_one (T := 24) (s1 := s1) (A1 := A1) (A2 := A2) (n1 := n1) (n2 := n2) (c1 := c1) (c2 := c2) u false (by rw [decide_eq_false]; omega))
  rw [← HV.out, show u.heap.size = w.heap.size + 1 from by rw [HU.out]; simp] at SM
  have xb := bthen xb (show Below u.heap.size u v by rw [HV.out]; exact below_alloc (Below.refl _ _) _)
  have x1p0 := x1.c0
  have x1p1 := x1.c1
  have x1p2 := x1.c2
  rw [HU.out] at x1p0 x1p1 x1p2
  have ht2 := ht.on xb
  clear h
  go_enter Tryd.func5, Tryd.ntmps5
  go_wp2_with fail
  rw [← HU.out, ← HV.out]
  refine SM.out.mono ?_
  rintro e w1 ⟨rfl, hw⟩
  replace hw := hw.symm
  subst hw
  clear x1p0 x1p1 x1p2
  go_wp2_with fail
  refine (known_any _ ht2).mono ?_
  rintro e w9 ⟨rfl, b9⟩
  go_wp2_with fail
  go_ret
  exact ⟨rfl, bthen xb b9⟩

theorem txt_len {q : Rat} (h1 : ln q ≤ 13) (h2 : ld q ≤ 13) : (txt q).length ≤ 10000 := by
  have a1 := dec_len (a := rn q) (n := 14) (by unfold ln at h1; omega) (by omega)
  have a2 := dec_len (a := rd q) (n := 14) (by unfold ld at h2; omega) (by omega)
  unfold txt
  rw [List.length_append, List.length_append]
  split <;> split <;> simp only [List.length_nil, List.length_cons] <;> omega
/-- What is written is read back. -/
theorem ParseTxt_any (q : Rat) (w : World) (h1 : ln q ≤ 13) (h2 : ld q ≤ 13) : Calls Tryd.prog 32 #[.string (bs (txt q))] w (FrEPost q 0 w) := by
  have hl := txt_len h1 h2
  have e : (bs (txt q)).data.toList = txt q := rfl
  have := Parse_any (bs (txt q)) w (by rw [bs_size]; omega)
  rwa [e, prs_txt q hl] at this
set_option maxHeartbeats 8000000 in
theorem FracTexts_yes (s1 : Bool) (A1 A2 : Option Addr) (n1 n2 c1 c2 : Nat) (q : Rat) (w : World) (h1 : Rf w s1 A1 n1 c1 A2 n2 c2 q) (ht : Tab w) (l1 : n1 ≤ 12) (l2 : n2 ≤ 12) :
    Calls Tryd.prog 5 #[.agg #[.bool s1, .slice A1 n1 c1, .slice A2 n2 c2]] w (ValPost (.bool true) w) := by
  have e1 := h1.len
  have Lq : Hid (ln q ≤ 1000 ∧ ld q ≤ 1000) := Lib.hid (by omega)
  have PA := Lib.hid fun w' => ParseTxt_any q w' (by omega) (by omega)
  clear e1
  obtain ⟨u, HU, x1, xb⟩ := boxes1 w (.bool s1) (.slice A1 n1 c1) (.slice A2 n2 c2) 24
  obtain ⟨v, HV⟩ : ∃ v, Hid (v = u.alloc (.cells #[.bool s1, .slice A1 n1 c1, .slice A2 n2 c2] 24)) := ⟨_, rfl⟩
  have SM := Lib.hid (small_one (T := 24) (s1 := s1) (A1 := A1) (A2 := A2) (n1 := n1) (n2 := n2) (c1 := c1) (c2 := c2) u true (by rw [decide_eq_true]; omega))
  rw [← HV.out, show u.heap.size = w.heap.size + 1 from by rw [HU.out]; simp] at SM
  have vb : Below u.heap.size u v := by rw [HV.out]; exact below_alloc (Below.refl _ _) _
  have x1p0 := x1.c0
  have x1p1 := x1.c1
  have x1p2 := x1.c2
  rw [HU.out] at x1p0 x1p1 x1p2
  replace h1 := (h1.below xb).below vb
  replace x1 := x1.below vb
  replace xb := bthen xb vb
  have uu := Below.refl v.heap.size v
  go_enter Tryd.func5, Tryd.ntmps5
  go_wp2_with fail
  rw [← HU.out, ← HV.out]
  refine SM.out.mono ?_
  rintro e w1 ⟨rfl, hw⟩
  replace hw := hw.symm
  subst hw
  clear x1p0 x1p1 x1p2 SM vb
  have htv := ht.on xb
  have x1p0 := x1.c0
  have x1p1 := x1.c1
  have x1p2 := x1.c2
  go_wp2_with fail
  refine (Text_any s1 A1 A2 n1 n2 c1 c2 q _ h1 (by omega) (by omega) htv).mono ?_
  rintro e w2 ⟨rfl, b2⟩
  clear x1p0 x1p1 x1p2
  replace x1 := x1.below b2
  replace h1 := h1.below b2
  replace xb := bthen xb b2
  have x1p0 := x1.c0
  have x1p1 := x1.c1
  have x1p2 := x1.c2
  go_wp2_with fail
  refine (PA.out _).mono ?_
  rintro e w3 ⟨s3, A5, n5, c5, A6, n6, c6, rfl, f3, _, _, b5⟩
  obtain ⟨u3, HU3, x3, xb3⟩ := boxes1 w3 (.bool s3) (.slice A5 n5 c5) (.slice A6 n6 c6) 24
  clear x1p0 x1p1 x1p2
  replace x1 := x1.below b5
  replace h1 := h1.below b5
  replace xb := bthen xb b5
  replace x1 := x1.below xb3
  replace h1 := h1.below xb3
  replace f3 := f3.below xb3
  replace xb := bthen xb xb3
  have hn5 : n5 ≤ 1000 := by have := f3.lens; have := Lq.out; omega
  have hn6 : n6 ≤ 1000 := by have := f3.lens; have := Lq.out; omega
  have y1 := x1.drew
  have y3 := x3.drew
  have gr := h1.drew
  have g3 := f3.below (below_drew (Below.refl _ u3))
  have yu := below_drew xb
  go_wp2_with fail
  rw [← HU3.out]
  go_region_held3 (fun w' => w'.cell? ⟨w.heap.size, 0, none⟩ = some (.bool s1) ∧ w'.cell? ⟨w.heap.size, 1, none⟩ = some (.slice A1 n1 c1) ∧ w'.cell? ⟨w.heap.size, 2, none⟩ = some (.slice A2 n2 c2) ∧ w'.cell? ⟨w3.heap.size, 0, none⟩ = some (.bool s3) ∧ w'.cell? ⟨w3.heap.size, 1, none⟩ = some (.slice A5 n5 c5) ∧ w'.cell? ⟨w3.heap.size, 2, none⟩ = some (.slice A6 n6 c6))
    (first | (with_reducible exact ⟨x1.c0, x1.c1, x1.c2, x3.c0, x3.c1, x3.c2⟩) | (with_reducible exact ⟨y1.c0, y1.c1, y1.c2, y3.c0, y3.c1, y3.c2⟩) | go_keep)
    (first
      | (go_at_call 33
         (with_reducible refine (rText_any s1 A1 A2 n1 n2 c1 c2 q _ gr (by omega) (by omega)).mono ?_)
         rintro e w5 ⟨rfl, b5⟩
         replace y1 := y1.below b5
         replace y3 := y3.below b5
         replace gr := gr.below b5
         replace g3 := g3.below b5
         replace yu := bthen yu b5)
      | (go_at_call 34
         (with_reducible refine (rCanon_any s1 A1 A2 n1 n2 c1 c2 q _ gr (by omega) (by omega)).mono ?_)
         rintro e w5 ⟨s4, A7, n7, c7, A8, n8, c8, rfl, f4, _, _, b5⟩
         replace y1 := y1.below b5
         replace y3 := y3.below b5
         replace gr := gr.below b5
         replace g3 := g3.below b5
         replace yu := bthen yu b5
         have hn7 : n7 ≤ 1000 := by have := f4.lens; have := Lq.out; omega
         have hn8 : n8 ≤ 1000 := by have := f4.lens; have := Lq.out; omega)
      | (go_at_call 22
         (with_reducible refine (SameFr_any s3 s4 A5 A6 A7 A8 n5 n6 n7 n8 c5 c6 c7 c8 _ _ _ g3 f4 (by omega) (by omega) (by omega) (by omega) true (decide_eq_true rfl).symm).mono ?_)
         rintro e w5 ⟨rfl, b5⟩
         replace y1 := y1.below b5
         replace y3 := y3.below b5
         replace gr := gr.below b5
         replace g3 := g3.below b5
         replace yu := bthen yu b5
         have htx := ht.on yu)
      | (go_at_call 20
         (with_reducible refine (known_any _ htx).mono ?_)
         rintro e w5 ⟨rfl, b5⟩
         replace y1 := y1.below b5
         replace y3 := y3.below b5
         replace gr := gr.below b5
         replace g3 := g3.below b5
         replace yu := bthen yu b5))
  go_wp2_with fail
  go_ret
  exact ⟨rfl, yu⟩
theorem FracTexts_any (s1 : Bool) (A1 A2 : Option Addr) (n1 n2 c1 c2 : Nat) (q : Rat) (w : World) (h1 : Rf w s1 A1 n1 c1 A2 n2 c2 q) (ht : Tab w) :
    Calls Tryd.prog 5 #[.agg #[.bool s1, .slice A1 n1 c1, .slice A2 n2 c2]] w (ValPost (.bool true) w) := by
  by_cases hc : 12 < n1 ∨ 12 < n2
  · exact FracTexts_no s1 A1 A2 n1 n2 c1 c2 w ht hc
  · exact FracTexts_yes s1 A1 A2 n1 n2 c1 c2 q w h1 ht (by omega) (by omega)
end Go.Proofs.YtaahbabdbopphaaDoor
