/- FracField: the walk. -/
import Derived.Test.YtaahbabdbopphaaDoorB0
namespace Go.Proofs.YtaahbabdbopphaaDoor
open Go.RowKit Mx
set_option maxRecDepth 100000

set_option maxHeartbeats 4000000 in
theorem FracField_no (s1 : Bool) (A1 A2 : Option Addr) (n1 n2 c1 c2 : Nat) (s2 : Bool) (A3 A4 : Option Addr) (n3 n4 c3 c4 : Nat) (s3 : Bool) (A5 A6 : Option Addr) (n5 n6 c5 c6 : Nat) (w : World) (ht : Tab w) (h : 6 < n1 ∨ 6 < n2 ∨ 6 < n3 ∨ 6 < n4 ∨ 6 < n5 ∨ 6 < n6) :
    Calls Tryd.prog 15 #[.agg #[.bool s1, .slice A1 n1 c1, .slice A2 n2 c2], .agg #[.bool s2, .slice A3 n3 c3, .slice A4 n4 c4], .agg #[.bool s3, .slice A5 n5 c5, .slice A6 n6 c6]] w (ValPost (.bool true) w) := by
  obtain ⟨u, HU, x1, x2, x3, xb⟩ := boxes3 w (.bool s1) (.slice A1 n1 c1) (.slice A2 n2 c2) (.bool s2) (.slice A3 n3 c3) (.slice A4 n4 c4) (.bool s3) (.slice A5 n5 c5) (.slice A6 n6 c6) 24 24 24
  have x1p0 := x1.c0
  have x1p1 := x1.c1
  have x1p2 := x1.c2
  have x2p0 := x2.c0
  have x2p1 := x2.c1
  have x2p2 := x2.c2
  have x3p0 := x3.c0
  have x3p1 := x3.c1
  have x3p2 := x3.c2
  rw [HU.out] at x1p0 x1p1 x1p2 x2p0 x2p1 x2p2 x3p0 x3p1 x3p2
  have ht2 := ht.on xb
  have HH := Lib.hid h
  clear h
  go_enter Tryd.func15, Tryd.ntmps15
  go_wp2_with fail
  all_goals first
    | (exfalso; have := HH.out; omega)
    | skip
  all_goals
    rw [← HU.out]
    refine (known_any _ ht2).mono ?_
    rintro e w9 ⟨rfl, b9⟩
    go_wp2_with fail
    go_ret
    exact ⟨rfl, bthen xb b9⟩

set_option maxHeartbeats 20000000 in
theorem FracField_zero (s1 : Bool) (A1 A2 : Option Addr) (n1 n2 c1 c2 : Nat) (s2 : Bool) (A3 A4 : Option Addr) (n3 n4 c3 c4 : Nat) (s3 : Bool) (A5 A6 : Option Addr) (n5 n6 c5 c6 : Nat) (p q r : Rat) (w : World) (h1 : Rf w s1 A1 n1 c1 A2 n2 c2 p) (h2 : Rf w s2 A3 n3 c3 A4 n4 c4 q) (h3 : Rf w s3 A5 n5 c5 A6 n6 c6 r) (ht : Tab w)
    (l1 : n1 ≤ 6) (l2 : n2 ≤ 6) (l3 : n3 ≤ 6) (l4 : n4 ≤ 6) (l5 : n5 ≤ 6) (l6 : n6 ≤ 6) (hz : q = 0) :
    Calls Tryd.prog 15 #[.agg #[.bool s1, .slice A1 n1 c1, .slice A2 n2 c2], .agg #[.bool s2, .slice A3 n3 c3, .slice A4 n4 c4], .agg #[.bool s3, .slice A5 n5 c5, .slice A6 n6 c6]] w (ValPost (.bool true) w) := by
  have hp := h1.len
  have hq := h2.len
  have hr := h3.len
  have HX : Hid (p + (r + q) = p + q + r) := Lib.hid (by grind)
  have HM : Hid (q * (p * r) = p * q * r) := Lib.hid (by grind)
  have HD : Hid (p * q + r * p = p * (q + r)) := Lib.hid (by grind)
  have HS : Hid (p + q - q = p) := Lib.hid (by grind)
  have HO : Hid (p - p = 0) := Lib.hid (by grind)
  have Lpq : Hid (ln (p + q) ≤ 1000 ∧ ld (p + q) ≤ 1000) := Lib.hid (by have := ln_add p q; omega)
  have Lrq : Hid (ln (r + q) ≤ 1000 ∧ ld (r + q) ≤ 1000) := Lib.hid (by have := ln_add r q; omega)
  have Lqr : Hid (ln (q + r) ≤ 1000 ∧ ld (q + r) ≤ 1000) := Lib.hid (by have := ln_add q r; omega)
  have Lmpq : Hid (ln (p * q) ≤ 1000 ∧ ld (p * q) ≤ 1000) := Lib.hid (by have := ln_mul p q; omega)
  have Lmpr : Hid (ln (p * r) ≤ 1000 ∧ ld (p * r) ≤ 1000) := Lib.hid (by have := ln_mul p r; omega)
  have Lmrp : Hid (ln (r * p) ≤ 1000 ∧ ld (r * p) ≤ 1000) := Lib.hid (by have := ln_mul r p; omega)
  have Lp : Hid (ln (p) ≤ 1000 ∧ ld (p) ≤ 1000) := Lib.hid (by skip; omega)
  have Lx : Hid (ln (p + q + r) ≤ 1000 ∧ ld (p + q + r) ≤ 1000) := Lib.hid (by have := ln_add p q; have := ln_add (p + q) r; omega)
  have Lm : Hid (ln (p * q * r) ≤ 1000 ∧ ld (p * q * r) ≤ 1000) := Lib.hid (by have := ln_mul p q; have := ln_mul (p * q) r; omega)
  have Ld : Hid (ln (p * (q + r)) ≤ 1000 ∧ ld (p * (q + r)) ≤ 1000) := Lib.hid (by have := ln_add q r; have := ln_mul p (q + r); omega)
  have Lz : Hid (ln ((0 : Rat)) ≤ 1000 ∧ ld ((0 : Rat)) ≤ 1000) := Lib.hid (by have := ln_zero; omega)
  have Lone : Hid (ln ((1 : Rat)) ≤ 1000 ∧ ld ((1 : Rat)) ≤ 1000) := Lib.hid (by have := ln_one; omega)
  obtain ⟨u, HU, x1, x2, x3, xb⟩ := boxes3 w (.bool s1) (.slice A1 n1 c1) (.slice A2 n2 c2) (.bool s2) (.slice A3 n3 c3) (.slice A4 n4 c4) (.bool s3) (.slice A5 n5 c5) (.slice A6 n6 c6) 24 24 24
  replace h1 := h1.below xb
  replace h2 := h2.below xb
  replace h3 := h3.below xb
  have Apq : Hid (∀ w', Below u.heap.size u w' → Calls Tryd.prog 52 #[.agg #[.bool s1, .slice A1 n1 c1, .slice A2 n2 c2], .agg #[.bool s2, .slice A3 n3 c3, .slice A4 n4 c4]] w' (FrPost (p + q) w')) := Lib.hid (fun w' hb => Add_any s1 s2 A1 A2 A3 A4 n1 n2 n3 n4 c1 c2 c3 c4 p q w' (h1.below hb) (h2.below hb) (by omega) (by omega) (by omega) (by omega))
  have Arq : Hid (∀ w', Below u.heap.size u w' → Calls Tryd.prog 52 #[.agg #[.bool s3, .slice A5 n5 c5, .slice A6 n6 c6], .agg #[.bool s2, .slice A3 n3 c3, .slice A4 n4 c4]] w' (FrPost (r + q) w')) := Lib.hid (fun w' hb => Add_any s3 s2 A5 A6 A3 A4 n5 n6 n3 n4 c5 c6 c3 c4 r q w' (h3.below hb) (h2.below hb) (by omega) (by omega) (by omega) (by omega))
  have Aqr : Hid (∀ w', Below u.heap.size u w' → Calls Tryd.prog 52 #[.agg #[.bool s2, .slice A3 n3 c3, .slice A4 n4 c4], .agg #[.bool s3, .slice A5 n5 c5, .slice A6 n6 c6]] w' (FrPost (q + r) w')) := Lib.hid (fun w' hb => Add_any s2 s3 A3 A4 A5 A6 n3 n4 n5 n6 c3 c4 c5 c6 q r w' (h2.below hb) (h3.below hb) (by omega) (by omega) (by omega) (by omega))
  have Mpq : Hid (∀ w', Below u.heap.size u w' → Calls Tryd.prog 58 #[.agg #[.bool s1, .slice A1 n1 c1, .slice A2 n2 c2], .agg #[.bool s2, .slice A3 n3 c3, .slice A4 n4 c4]] w' (FrPost (p * q) w')) := Lib.hid (fun w' hb => Mul_any s1 s2 A1 A2 A3 A4 n1 n2 n3 n4 c1 c2 c3 c4 p q w' (h1.below hb) (h2.below hb) (by omega) (by omega) (by omega) (by omega))
  have Mpr : Hid (∀ w', Below u.heap.size u w' → Calls Tryd.prog 58 #[.agg #[.bool s1, .slice A1 n1 c1, .slice A2 n2 c2], .agg #[.bool s3, .slice A5 n5 c5, .slice A6 n6 c6]] w' (FrPost (p * r) w')) := Lib.hid (fun w' hb => Mul_any s1 s3 A1 A2 A5 A6 n1 n2 n5 n6 c1 c2 c5 c6 p r w' (h1.below hb) (h3.below hb) (by omega) (by omega) (by omega) (by omega))
  have Mrp : Hid (∀ w', Below u.heap.size u w' → Calls Tryd.prog 58 #[.agg #[.bool s3, .slice A5 n5 c5, .slice A6 n6 c6], .agg #[.bool s1, .slice A1 n1 c1, .slice A2 n2 c2]] w' (FrPost (r * p) w')) := Lib.hid (fun w' hb => Mul_any s3 s1 A5 A6 A1 A2 n5 n6 n1 n2 c5 c6 c1 c2 r p w' (h3.below hb) (h1.below hb) (by omega) (by omega) (by omega) (by omega))
  have Spp : Hid (∀ w', Below u.heap.size u w' → Calls Tryd.prog 54 #[.agg #[.bool s1, .slice A1 n1 c1, .slice A2 n2 c2], .agg #[.bool s1, .slice A1 n1 c1, .slice A2 n2 c2]] w' (FrPost (p - p) w')) := Lib.hid (fun w' hb => Sub_any s1 s1 A1 A2 A1 A2 n1 n2 n1 n2 c1 c2 c1 c2 p p w' (h1.below hb) (h1.below hb) (by omega) (by omega) (by omega) (by omega))
  have Cp : Hid (∀ w', Below u.heap.size u w' → Calls Tryd.prog 59 #[.agg #[.bool s1, .slice A1 n1 c1, .slice A2 n2 c2]] w' (FrPost p w')) := Lib.hid (fun w' hb => Canon_any s1 A1 A2 n1 n2 c1 c2 p w' (h1.below hb) (by omega) (by omega))
  obtain ⟨kq, hkq, hk0⟩ : ∃ k, sgn q = k ∧ k = 0 := ⟨_, rfl, (sgn_zero_iff q).2 hz⟩
  subst hk0
  have Sq : Hid (∀ w', Below u.heap.size u w' → Calls Tryd.prog 50 #[.agg #[.bool s2, .slice A3 n3 c3, .slice A4 n4 c4]] w' (ValPost (.int .i64 0) w')) := Lib.hid (fun w' hb => by
    have := Sign_any s2 A3 A4 n3 n4 c3 c4 q w' (h2.below hb) (by omega) (by omega)
    rwa [hkq] at this)
  replace hkq := Lib.hid hkq
  replace hz := Lib.hid hz
  have uu := Below.refl u.heap.size u
  have x1p0 := x1.c0
  have x1p1 := x1.c1
  have x1p2 := x1.c2
  have x2p0 := x2.c0
  have x2p1 := x2.c1
  have x2p2 := x2.c2
  have x3p0 := x3.c0
  have x3p1 := x3.c1
  have x3p2 := x3.c2
  rw [HU.out] at x1p0 x1p1 x1p2 x2p0 x2p1 x2p2 x3p0 x3p1 x3p2
  clear hp hq hr
  go_enter Tryd.func15, Tryd.ntmps15
  go_upto_region 3 with fail
  rw [← HU.out]
  go_cut [7] (fun sv wx => BoxPost (p + q + r) u sv wx)
  case first =>
    as_aux_lemma =>
      clear x1p0 x1p1 x1p2 x2p0 x2p1 x2p2 x3p0 x3p1 x3p2
      have y1 := x1.drew
      have y2 := x2.drew
      have y3 := x3.drew
      have g3 := h3.drew
      have yu := below_drew uu
      have yv := below_drew (Below.refl u.heap.size u)
      go_region_held3 (fun w' => w'.cell? ⟨w.heap.size, 0, none⟩ = some (.bool s1) ∧ w'.cell? ⟨w.heap.size, 1, none⟩ = some (.slice A1 n1 c1) ∧ w'.cell? ⟨w.heap.size, 2, none⟩ = some (.slice A2 n2 c2) ∧ w'.cell? ⟨w.heap.size + 1, 0, none⟩ = some (.bool s2) ∧ w'.cell? ⟨w.heap.size + 1, 1, none⟩ = some (.slice A3 n3 c3) ∧ w'.cell? ⟨w.heap.size + 1, 2, none⟩ = some (.slice A4 n4 c4) ∧ w'.cell? ⟨w.heap.size + 1 + 1, 0, none⟩ = some (.bool s3) ∧ w'.cell? ⟨w.heap.size + 1 + 1, 1, none⟩ = some (.slice A5 n5 c5) ∧ w'.cell? ⟨w.heap.size + 1 + 1, 2, none⟩ = some (.slice A6 n6 c6))
        (first | (with_reducible exact ⟨x1.c0, x1.c1, x1.c2, x2.c0, x2.c1, x2.c2, x3.c0, x3.c1, x3.c2⟩) | (with_reducible exact ⟨y1.c0, y1.c1, y1.c2, y2.c0, y2.c1, y2.c2, y3.c0, y3.c1, y3.c2⟩) | (with_reducible exact KF) | (with_reducible exact ⟨(y1.alloc _).c0, (y1.alloc _).c1, (y1.alloc _).c2, (y2.alloc _).c0, (y2.alloc _).c1, (y2.alloc _).c2, (y3.alloc _).c0, (y3.alloc _).c1, (y3.alloc _).c2⟩) | (with_reducible exact ⟨(x1.alloc _).drew.c0, (x1.alloc _).drew.c1, (x1.alloc _).drew.c2, (x2.alloc _).drew.c0, (x2.alloc _).drew.c1, (x2.alloc _).drew.c2, (x3.alloc _).drew.c0, (x3.alloc _).drew.c1, (x3.alloc _).drew.c2⟩) | go_keep)
        (first
          | (go_at_call 52
             (with_reducible refine (Apq.out _ yu).mono ?_)
             rintro e w5 ⟨s4, A7, n7, c7, A8, n8, c8, rfl, f4, _, _, b5⟩
             replace y1 := y1.below b5
             replace y2 := y2.below b5
             replace y3 := y3.below b5
             replace g3 := g3.below b5
             replace yu := bthen yu b5
             replace yv := bthen yv b5
             (try replace zb := zb.below b5)
             have hn7 : n7 ≤ 1000 := by have := f4.lens; have := Lpq.out; omega
             have hn8 : n8 ≤ 1000 := by have := f4.lens; have := Lpq.out; omega)
          | (go_at_call 52
             (with_reducible refine (Apq.out _ (below_drew (below_alloc uu (.cells #[.bool false, .slice none 0 0, .slice none 0 0] 24)))).mono ?_)
             rintro e w5 ⟨s4, A7, n7, c7, A8, n8, c8, rfl, f4, _, _, b5⟩
             have y1 := ((x1.alloc (.cells #[.bool false, .slice none 0 0, .slice none 0 0] 24)).drew).below b5
             have y2 := ((x2.alloc (.cells #[.bool false, .slice none 0 0, .slice none 0 0] 24)).drew).below b5
             have y3 := ((x3.alloc (.cells #[.bool false, .slice none 0 0, .slice none 0 0] 24)).drew).below b5
             have g3 := ((h3.alloc (.cells #[.bool false, .slice none 0 0, .slice none 0 0] 24)).drew).below b5
             have yv := bthen (below_drew (below_alloc (Below.refl u.heap.size u) (.cells #[.bool false, .slice none 0 0, .slice none 0 0] 24))) b5
             have yu := bthen (below_drew (below_alloc uu (.cells #[.bool false, .slice none 0 0, .slice none 0 0] 24))) b5
             have zg : u.heap.size ≤ u.heap.size := Nat.le_refl _
             have zb := ((Bk.new u (.bool false) (.slice none 0 0) (.slice none 0 0) 24).drew).below b5
             have hn7 : n7 ≤ 1000 := by have := f4.lens; have := Lpq.out; omega
             have hn8 : n8 ≤ 1000 := by have := f4.lens; have := Lpq.out; omega)
          | (go_at_call 52
             (with_reducible refine (Add_any s4 s3 A7 A8 A5 A6 n7 n8 n5 n6 c7 c8 c5 c6 _ _ _ f4.rf g3 (by omega) (by omega) (by omega) (by omega)).mono ?_)
             rintro e w6 ⟨s5, A9, n9, c9, A10, n10, c10, rfl, f5, _, _, b5⟩
             replace y1 := y1.below b5
             replace y2 := y2.below b5
             replace y3 := y3.below b5
             replace g3 := g3.below b5
             replace f4 := f4.below b5
             replace yu := bthen yu b5
             replace yv := bthen yv b5
             (try replace zb := zb.below b5)
             (try have t0 := zb.c0)
             (try have t1 := zb.c1)
             (try have t2 := zb.c2)
             (try have v0 := zb.fz 0)
             (try have v1 := zb.fz 1)
             (try have v2 := zb.fz 2)
             (try have my1 := y1.put (g' := _) (Nat.ne_of_lt (Nat.lt_of_lt_of_le x1.lt zg)) (.bool s5) (.slice A9 n9 c9) (.slice A10 n10 c10))
             (try have my2 := y2.put (g' := _) (Nat.ne_of_lt (Nat.lt_of_lt_of_le x2.lt zg)) (.bool s5) (.slice A9 n9 c9) (.slice A10 n10 c10))
             (try have my3 := y3.put (g' := _) (Nat.ne_of_lt (Nat.lt_of_lt_of_le x3.lt zg)) (.bool s5) (.slice A9 n9 c9) (.slice A10 n10 c10))
             (try have KF := And.intro my1.c0 (And.intro my1.c1 (And.intro my1.c2 (And.intro my2.c0 (And.intro my2.c1 (And.intro my2.c2 (And.intro my3.c0 (And.intro my3.c1 (my3.c2)))))))))
             (try unfold put3 at KF))
          | (go_at_call 52
             (with_reducible refine (Add_any s4 s3 A7 A8 A5 A6 n7 n8 n5 n6 c7 c8 c5 c6 _ _ _ (f4.alloc (.cells #[.bool false, .slice none 0 0, .slice none 0 0] 24)).rf (g3.alloc (.cells #[.bool false, .slice none 0 0, .slice none 0 0] 24)) (by omega) (by omega) (by omega) (by omega)).mono ?_)
             rintro e w6 ⟨s5, A9, n9, c9, A10, n10, c10, rfl, f5, _, _, b5⟩
             have zg := yv.size
             have zb := (Bk.new w5 (.bool false) (.slice none 0 0) (.slice none 0 0) 24).below b5
             replace y1 := (y1.alloc (.cells #[.bool false, .slice none 0 0, .slice none 0 0] 24)).below b5
             replace y2 := (y2.alloc (.cells #[.bool false, .slice none 0 0, .slice none 0 0] 24)).below b5
             replace y3 := (y3.alloc (.cells #[.bool false, .slice none 0 0, .slice none 0 0] 24)).below b5
             replace g3 := (g3.alloc (.cells #[.bool false, .slice none 0 0, .slice none 0 0] 24)).below b5
             replace f4 := (f4.alloc (.cells #[.bool false, .slice none 0 0, .slice none 0 0] 24)).below b5
             replace yv := bthen (below_alloc yv (.cells #[.bool false, .slice none 0 0, .slice none 0 0] 24)) b5
             replace yu := bthen (below_alloc yu (.cells #[.bool false, .slice none 0 0, .slice none 0 0] 24)) b5
             (try have t0 := zb.c0)
             (try have t1 := zb.c1)
             (try have t2 := zb.c2)
             (try have v0 := zb.fz 0)
             (try have v1 := zb.fz 1)
             (try have v2 := zb.fz 2)
             (try have my1 := y1.put (g' := _) (Nat.ne_of_lt (Nat.lt_of_lt_of_le x1.lt zg)) (.bool s5) (.slice A9 n9 c9) (.slice A10 n10 c10))
             (try have my2 := y2.put (g' := _) (Nat.ne_of_lt (Nat.lt_of_lt_of_le x2.lt zg)) (.bool s5) (.slice A9 n9 c9) (.slice A10 n10 c10))
             (try have my3 := y3.put (g' := _) (Nat.ne_of_lt (Nat.lt_of_lt_of_le x3.lt zg)) (.bool s5) (.slice A9 n9 c9) (.slice A10 n10 c10))
             (try have KF := And.intro my1.c0 (And.intro my1.c1 (And.intro my1.c2 (And.intro my2.c0 (And.intro my2.c1 (And.intro my2.c2 (And.intro my3.c0 (And.intro my3.c1 (my3.c2)))))))))
             (try unfold put3 at KF)))
      all_goals
        go_wp2_with fail
        go_meet
        first
          | exact BoxPost.put f5 zb yv zg
          | exact BoxPost.new f5 yv
  case rest =>
    clear x1p0 x1p1 x1p2 x2p0 x2p1 x2p2 x3p0 x3p1 x3p2
    obtain ⟨G11, s11, A21, n21, c21, A22, n22, c22, rfl, x11, f11, b5⟩ := hcut
    obtain ⟨V3, rfl⟩ : ∃ V3 : World, V3 = wc := ⟨_, rfl⟩
    replace x1 := x1.below b5
    replace x2 := x2.below b5
    replace x3 := x3.below b5
    replace h1 := h1.below b5
    replace h2 := h2.below b5
    replace h3 := h3.below b5
    replace uu := bthen uu b5
    have x1p0 := x1.c0
    have x1p1 := x1.c1
    have x1p2 := x1.c2
    have x2p0 := x2.c0
    have x2p1 := x2.c1
    have x2p2 := x2.c2
    have x3p0 := x3.c0
    have x3p1 := x3.c1
    have x3p2 := x3.c2
    clear x1p0 x1p1 x1p2 x2p0 x2p1 x2p2 x3p0 x3p1 x3p2
    go_upto_region 4 with fail
    go_cut [8] (fun sv wx => BoxPost (p + q + r) V3 sv wx)
    case first =>
      as_aux_lemma =>
        have y1 := x1.drew
        have y2 := x2.drew
        have y3 := x3.drew
        have g1 := h1.drew
        have yu := below_drew uu
        have yv := below_drew (Below.refl V3.heap.size V3)
        go_region_held3 (fun w' => w'.cell? ⟨w.heap.size, 0, none⟩ = some (.bool s1) ∧ w'.cell? ⟨w.heap.size, 1, none⟩ = some (.slice A1 n1 c1) ∧ w'.cell? ⟨w.heap.size, 2, none⟩ = some (.slice A2 n2 c2) ∧ w'.cell? ⟨w.heap.size + 1, 0, none⟩ = some (.bool s2) ∧ w'.cell? ⟨w.heap.size + 1, 1, none⟩ = some (.slice A3 n3 c3) ∧ w'.cell? ⟨w.heap.size + 1, 2, none⟩ = some (.slice A4 n4 c4) ∧ w'.cell? ⟨w.heap.size + 1 + 1, 0, none⟩ = some (.bool s3) ∧ w'.cell? ⟨w.heap.size + 1 + 1, 1, none⟩ = some (.slice A5 n5 c5) ∧ w'.cell? ⟨w.heap.size + 1 + 1, 2, none⟩ = some (.slice A6 n6 c6))
          (first | (with_reducible exact ⟨x1.c0, x1.c1, x1.c2, x2.c0, x2.c1, x2.c2, x3.c0, x3.c1, x3.c2⟩) | (with_reducible exact ⟨y1.c0, y1.c1, y1.c2, y2.c0, y2.c1, y2.c2, y3.c0, y3.c1, y3.c2⟩) | (with_reducible exact KF) | (with_reducible exact ⟨(y1.alloc _).c0, (y1.alloc _).c1, (y1.alloc _).c2, (y2.alloc _).c0, (y2.alloc _).c1, (y2.alloc _).c2, (y3.alloc _).c0, (y3.alloc _).c1, (y3.alloc _).c2⟩) | (with_reducible exact ⟨(x1.alloc _).drew.c0, (x1.alloc _).drew.c1, (x1.alloc _).drew.c2, (x2.alloc _).drew.c0, (x2.alloc _).drew.c1, (x2.alloc _).drew.c2, (x3.alloc _).drew.c0, (x3.alloc _).drew.c1, (x3.alloc _).drew.c2⟩) | go_keep)
          (first
            | (go_at_call 52
               (with_reducible refine (Arq.out _ yu).mono ?_)
               rintro e w5 ⟨s4, A7, n7, c7, A8, n8, c8, rfl, f4, _, _, b5⟩
               replace y1 := y1.below b5
               replace y2 := y2.below b5
               replace y3 := y3.below b5
               replace g1 := g1.below b5
               replace yu := bthen yu b5
               replace yv := bthen yv b5
               (try replace zb := zb.below b5)
               have hn7 : n7 ≤ 1000 := by have := f4.lens; have := Lrq.out; omega
               have hn8 : n8 ≤ 1000 := by have := f4.lens; have := Lrq.out; omega)
            | (go_at_call 52
               (with_reducible refine (Arq.out _ (below_drew (below_alloc uu (.cells #[.bool false, .slice none 0 0, .slice none 0 0] 24)))).mono ?_)
               rintro e w5 ⟨s4, A7, n7, c7, A8, n8, c8, rfl, f4, _, _, b5⟩
               have y1 := ((x1.alloc (.cells #[.bool false, .slice none 0 0, .slice none 0 0] 24)).drew).below b5
               have y2 := ((x2.alloc (.cells #[.bool false, .slice none 0 0, .slice none 0 0] 24)).drew).below b5
               have y3 := ((x3.alloc (.cells #[.bool false, .slice none 0 0, .slice none 0 0] 24)).drew).below b5
               have g1 := ((h1.alloc (.cells #[.bool false, .slice none 0 0, .slice none 0 0] 24)).drew).below b5
               have yv := bthen (below_drew (below_alloc (Below.refl V3.heap.size V3) (.cells #[.bool false, .slice none 0 0, .slice none 0 0] 24))) b5
               have yu := bthen (below_drew (below_alloc uu (.cells #[.bool false, .slice none 0 0, .slice none 0 0] 24))) b5
               have zg : V3.heap.size ≤ V3.heap.size := Nat.le_refl _
               have zb := ((Bk.new V3 (.bool false) (.slice none 0 0) (.slice none 0 0) 24).drew).below b5
               have hn7 : n7 ≤ 1000 := by have := f4.lens; have := Lrq.out; omega
               have hn8 : n8 ≤ 1000 := by have := f4.lens; have := Lrq.out; omega)
            | (go_at_call 52
               (with_reducible refine (Add_any s1 s4 A1 A2 A7 A8 n1 n2 n7 n8 c1 c2 c7 c8 _ _ _ g1 f4.rf (by omega) (by omega) (by omega) (by omega)).mono ?_)
               rintro e w6 ⟨s5, A9, n9, c9, A10, n10, c10, rfl, f5, _, _, b5⟩
               rw [HX.out] at f5
               replace y1 := y1.below b5
               replace y2 := y2.below b5
               replace y3 := y3.below b5
               replace g1 := g1.below b5
               replace f4 := f4.below b5
               replace yu := bthen yu b5
               replace yv := bthen yv b5
               (try replace zb := zb.below b5)
               (try have t0 := zb.c0)
               (try have t1 := zb.c1)
               (try have t2 := zb.c2)
               (try have v0 := zb.fz 0)
               (try have v1 := zb.fz 1)
               (try have v2 := zb.fz 2)
               (try have my1 := y1.put (g' := _) (Nat.ne_of_lt (Nat.lt_of_lt_of_le x1.lt zg)) (.bool s5) (.slice A9 n9 c9) (.slice A10 n10 c10))
               (try have my2 := y2.put (g' := _) (Nat.ne_of_lt (Nat.lt_of_lt_of_le x2.lt zg)) (.bool s5) (.slice A9 n9 c9) (.slice A10 n10 c10))
               (try have my3 := y3.put (g' := _) (Nat.ne_of_lt (Nat.lt_of_lt_of_le x3.lt zg)) (.bool s5) (.slice A9 n9 c9) (.slice A10 n10 c10))
               (try have KF := And.intro my1.c0 (And.intro my1.c1 (And.intro my1.c2 (And.intro my2.c0 (And.intro my2.c1 (And.intro my2.c2 (And.intro my3.c0 (And.intro my3.c1 (my3.c2)))))))))
               (try unfold put3 at KF))
            | (go_at_call 52
               (with_reducible refine (Add_any s1 s4 A1 A2 A7 A8 n1 n2 n7 n8 c1 c2 c7 c8 _ _ _ (g1.alloc (.cells #[.bool false, .slice none 0 0, .slice none 0 0] 24)) (f4.alloc (.cells #[.bool false, .slice none 0 0, .slice none 0 0] 24)).rf (by omega) (by omega) (by omega) (by omega)).mono ?_)
               rintro e w6 ⟨s5, A9, n9, c9, A10, n10, c10, rfl, f5, _, _, b5⟩
               rw [HX.out] at f5
               have zg := yv.size
               have zb := (Bk.new w5 (.bool false) (.slice none 0 0) (.slice none 0 0) 24).below b5
               replace y1 := (y1.alloc (.cells #[.bool false, .slice none 0 0, .slice none 0 0] 24)).below b5
               replace y2 := (y2.alloc (.cells #[.bool false, .slice none 0 0, .slice none 0 0] 24)).below b5
               replace y3 := (y3.alloc (.cells #[.bool false, .slice none 0 0, .slice none 0 0] 24)).below b5
               replace g1 := (g1.alloc (.cells #[.bool false, .slice none 0 0, .slice none 0 0] 24)).below b5
               replace f4 := (f4.alloc (.cells #[.bool false, .slice none 0 0, .slice none 0 0] 24)).below b5
               replace yv := bthen (below_alloc yv (.cells #[.bool false, .slice none 0 0, .slice none 0 0] 24)) b5
               replace yu := bthen (below_alloc yu (.cells #[.bool false, .slice none 0 0, .slice none 0 0] 24)) b5
               (try have t0 := zb.c0)
               (try have t1 := zb.c1)
               (try have t2 := zb.c2)
               (try have v0 := zb.fz 0)
               (try have v1 := zb.fz 1)
               (try have v2 := zb.fz 2)
               (try have my1 := y1.put (g' := _) (Nat.ne_of_lt (Nat.lt_of_lt_of_le x1.lt zg)) (.bool s5) (.slice A9 n9 c9) (.slice A10 n10 c10))
               (try have my2 := y2.put (g' := _) (Nat.ne_of_lt (Nat.lt_of_lt_of_le x2.lt zg)) (.bool s5) (.slice A9 n9 c9) (.slice A10 n10 c10))
               (try have my3 := y3.put (g' := _) (Nat.ne_of_lt (Nat.lt_of_lt_of_le x3.lt zg)) (.bool s5) (.slice A9 n9 c9) (.slice A10 n10 c10))
               (try have KF := And.intro my1.c0 (And.intro my1.c1 (And.intro my1.c2 (And.intro my2.c0 (And.intro my2.c1 (And.intro my2.c2 (And.intro my3.c0 (And.intro my3.c1 (my3.c2)))))))))
               (try unfold put3 at KF)))
        all_goals
          go_wp2_with fail
          go_meet
          first
            | exact BoxPost.put f5 zb yv zg
            | exact BoxPost.new f5 yv
    case rest =>
      obtain ⟨G12, s12, A23, n23, c23, A24, n24, c24, rfl, x12, f12, b5⟩ := hcut
      obtain ⟨V4, rfl⟩ : ∃ V4 : World, V4 = wc := ⟨_, rfl⟩
      replace x1 := x1.below b5
      replace x2 := x2.below b5
      replace x3 := x3.below b5
      replace h1 := h1.below b5
      replace h2 := h2.below b5
      replace h3 := h3.below b5
      replace x11 := x11.below b5
      replace f11 := f11.below b5
      replace uu := bthen uu b5
      have x1p0 := x1.c0
      have x1p1 := x1.c1
      have x1p2 := x1.c2
      have x2p0 := x2.c0
      have x2p1 := x2.c1
      have x2p2 := x2.c2
      have x3p0 := x3.c0
      have x3p1 := x3.c1
      have x3p2 := x3.c2
      clear x1p0 x1p1 x1p2 x2p0 x2p1 x2p2 x3p0 x3p1 x3p2
      go_upto_region 5 with fail
      go_cut [9] (fun sv wx => BoxPost (p * q * r) V4 sv wx)
      case first =>
        as_aux_lemma =>
          have y1 := x1.drew
          have y2 := x2.drew
          have y3 := x3.drew
          have g3 := h3.drew
          have yu := below_drew uu
          have yv := below_drew (Below.refl V4.heap.size V4)
          go_region_held3 (fun w' => w'.cell? ⟨w.heap.size, 0, none⟩ = some (.bool s1) ∧ w'.cell? ⟨w.heap.size, 1, none⟩ = some (.slice A1 n1 c1) ∧ w'.cell? ⟨w.heap.size, 2, none⟩ = some (.slice A2 n2 c2) ∧ w'.cell? ⟨w.heap.size + 1, 0, none⟩ = some (.bool s2) ∧ w'.cell? ⟨w.heap.size + 1, 1, none⟩ = some (.slice A3 n3 c3) ∧ w'.cell? ⟨w.heap.size + 1, 2, none⟩ = some (.slice A4 n4 c4) ∧ w'.cell? ⟨w.heap.size + 1 + 1, 0, none⟩ = some (.bool s3) ∧ w'.cell? ⟨w.heap.size + 1 + 1, 1, none⟩ = some (.slice A5 n5 c5) ∧ w'.cell? ⟨w.heap.size + 1 + 1, 2, none⟩ = some (.slice A6 n6 c6))
            (first | (with_reducible exact ⟨x1.c0, x1.c1, x1.c2, x2.c0, x2.c1, x2.c2, x3.c0, x3.c1, x3.c2⟩) | (with_reducible exact ⟨y1.c0, y1.c1, y1.c2, y2.c0, y2.c1, y2.c2, y3.c0, y3.c1, y3.c2⟩) | (with_reducible exact KF) | (with_reducible exact ⟨(y1.alloc _).c0, (y1.alloc _).c1, (y1.alloc _).c2, (y2.alloc _).c0, (y2.alloc _).c1, (y2.alloc _).c2, (y3.alloc _).c0, (y3.alloc _).c1, (y3.alloc _).c2⟩) | (with_reducible exact ⟨(x1.alloc _).drew.c0, (x1.alloc _).drew.c1, (x1.alloc _).drew.c2, (x2.alloc _).drew.c0, (x2.alloc _).drew.c1, (x2.alloc _).drew.c2, (x3.alloc _).drew.c0, (x3.alloc _).drew.c1, (x3.alloc _).drew.c2⟩) | go_keep)
            (first
              | (go_at_call 58
                 (with_reducible refine (Mpq.out _ yu).mono ?_)
                 rintro e w5 ⟨s4, A7, n7, c7, A8, n8, c8, rfl, f4, _, _, b5⟩
                 replace y1 := y1.below b5
                 replace y2 := y2.below b5
                 replace y3 := y3.below b5
                 replace g3 := g3.below b5
                 replace yu := bthen yu b5
                 replace yv := bthen yv b5
                 (try replace zb := zb.below b5)
                 have hn7 : n7 ≤ 1000 := by have := f4.lens; have := Lmpq.out; omega
                 have hn8 : n8 ≤ 1000 := by have := f4.lens; have := Lmpq.out; omega)
              | (go_at_call 58
                 (with_reducible refine (Mpq.out _ (below_drew (below_alloc uu (.cells #[.bool false, .slice none 0 0, .slice none 0 0] 24)))).mono ?_)
                 rintro e w5 ⟨s4, A7, n7, c7, A8, n8, c8, rfl, f4, _, _, b5⟩
                 have y1 := ((x1.alloc (.cells #[.bool false, .slice none 0 0, .slice none 0 0] 24)).drew).below b5
                 have y2 := ((x2.alloc (.cells #[.bool false, .slice none 0 0, .slice none 0 0] 24)).drew).below b5
                 have y3 := ((x3.alloc (.cells #[.bool false, .slice none 0 0, .slice none 0 0] 24)).drew).below b5
                 have g3 := ((h3.alloc (.cells #[.bool false, .slice none 0 0, .slice none 0 0] 24)).drew).below b5
                 have yv := bthen (below_drew (below_alloc (Below.refl V4.heap.size V4) (.cells #[.bool false, .slice none 0 0, .slice none 0 0] 24))) b5
                 have yu := bthen (below_drew (below_alloc uu (.cells #[.bool false, .slice none 0 0, .slice none 0 0] 24))) b5
                 have zg : V4.heap.size ≤ V4.heap.size := Nat.le_refl _
                 have zb := ((Bk.new V4 (.bool false) (.slice none 0 0) (.slice none 0 0) 24).drew).below b5
                 have hn7 : n7 ≤ 1000 := by have := f4.lens; have := Lmpq.out; omega
                 have hn8 : n8 ≤ 1000 := by have := f4.lens; have := Lmpq.out; omega)
              | (go_at_call 58
                 (with_reducible refine (Mul_any s4 s3 A7 A8 A5 A6 n7 n8 n5 n6 c7 c8 c5 c6 _ _ _ f4.rf g3 (by omega) (by omega) (by omega) (by omega)).mono ?_)
                 rintro e w6 ⟨s5, A9, n9, c9, A10, n10, c10, rfl, f5, _, _, b5⟩
                 replace y1 := y1.below b5
                 replace y2 := y2.below b5
                 replace y3 := y3.below b5
                 replace g3 := g3.below b5
                 replace f4 := f4.below b5
                 replace yu := bthen yu b5
                 replace yv := bthen yv b5
                 (try replace zb := zb.below b5)
                 (try have t0 := zb.c0)
                 (try have t1 := zb.c1)
                 (try have t2 := zb.c2)
                 (try have v0 := zb.fz 0)
                 (try have v1 := zb.fz 1)
                 (try have v2 := zb.fz 2)
                 (try have my1 := y1.put (g' := _) (Nat.ne_of_lt (Nat.lt_of_lt_of_le x1.lt zg)) (.bool s5) (.slice A9 n9 c9) (.slice A10 n10 c10))
                 (try have my2 := y2.put (g' := _) (Nat.ne_of_lt (Nat.lt_of_lt_of_le x2.lt zg)) (.bool s5) (.slice A9 n9 c9) (.slice A10 n10 c10))
                 (try have my3 := y3.put (g' := _) (Nat.ne_of_lt (Nat.lt_of_lt_of_le x3.lt zg)) (.bool s5) (.slice A9 n9 c9) (.slice A10 n10 c10))
                 (try have KF := And.intro my1.c0 (And.intro my1.c1 (And.intro my1.c2 (And.intro my2.c0 (And.intro my2.c1 (And.intro my2.c2 (And.intro my3.c0 (And.intro my3.c1 (my3.c2)))))))))
                 (try unfold put3 at KF))
              | (go_at_call 58
                 (with_reducible refine (Mul_any s4 s3 A7 A8 A5 A6 n7 n8 n5 n6 c7 c8 c5 c6 _ _ _ (f4.alloc (.cells #[.bool false, .slice none 0 0, .slice none 0 0] 24)).rf (g3.alloc (.cells #[.bool false, .slice none 0 0, .slice none 0 0] 24)) (by omega) (by omega) (by omega) (by omega)).mono ?_)
                 rintro e w6 ⟨s5, A9, n9, c9, A10, n10, c10, rfl, f5, _, _, b5⟩
                 have zg := yv.size
                 have zb := (Bk.new w5 (.bool false) (.slice none 0 0) (.slice none 0 0) 24).below b5
                 replace y1 := (y1.alloc (.cells #[.bool false, .slice none 0 0, .slice none 0 0] 24)).below b5
                 replace y2 := (y2.alloc (.cells #[.bool false, .slice none 0 0, .slice none 0 0] 24)).below b5
                 replace y3 := (y3.alloc (.cells #[.bool false, .slice none 0 0, .slice none 0 0] 24)).below b5
                 replace g3 := (g3.alloc (.cells #[.bool false, .slice none 0 0, .slice none 0 0] 24)).below b5
                 replace f4 := (f4.alloc (.cells #[.bool false, .slice none 0 0, .slice none 0 0] 24)).below b5
                 replace yv := bthen (below_alloc yv (.cells #[.bool false, .slice none 0 0, .slice none 0 0] 24)) b5
                 replace yu := bthen (below_alloc yu (.cells #[.bool false, .slice none 0 0, .slice none 0 0] 24)) b5
                 (try have t0 := zb.c0)
                 (try have t1 := zb.c1)
                 (try have t2 := zb.c2)
                 (try have v0 := zb.fz 0)
                 (try have v1 := zb.fz 1)
                 (try have v2 := zb.fz 2)
                 (try have my1 := y1.put (g' := _) (Nat.ne_of_lt (Nat.lt_of_lt_of_le x1.lt zg)) (.bool s5) (.slice A9 n9 c9) (.slice A10 n10 c10))
                 (try have my2 := y2.put (g' := _) (Nat.ne_of_lt (Nat.lt_of_lt_of_le x2.lt zg)) (.bool s5) (.slice A9 n9 c9) (.slice A10 n10 c10))
                 (try have my3 := y3.put (g' := _) (Nat.ne_of_lt (Nat.lt_of_lt_of_le x3.lt zg)) (.bool s5) (.slice A9 n9 c9) (.slice A10 n10 c10))
                 (try have KF := And.intro my1.c0 (And.intro my1.c1 (And.intro my1.c2 (And.intro my2.c0 (And.intro my2.c1 (And.intro my2.c2 (And.intro my3.c0 (And.intro my3.c1 (my3.c2)))))))))
                 (try unfold put3 at KF)))
          all_goals
            go_wp2_with fail
            go_meet
            first
              | exact BoxPost.put f5 zb yv zg
              | exact BoxPost.new f5 yv
      case rest =>
        obtain ⟨G13, s13, A25, n25, c25, A26, n26, c26, rfl, x13, f13, b5⟩ := hcut
        obtain ⟨V5, rfl⟩ : ∃ V5 : World, V5 = wc := ⟨_, rfl⟩
        replace x1 := x1.below b5
        replace x2 := x2.below b5
        replace x3 := x3.below b5
        replace h1 := h1.below b5
        replace h2 := h2.below b5
        replace h3 := h3.below b5
        replace x11 := x11.below b5
        replace f11 := f11.below b5
        replace x12 := x12.below b5
        replace f12 := f12.below b5
        replace uu := bthen uu b5
        have x1p0 := x1.c0
        have x1p1 := x1.c1
        have x1p2 := x1.c2
        have x2p0 := x2.c0
        have x2p1 := x2.c1
        have x2p2 := x2.c2
        have x3p0 := x3.c0
        have x3p1 := x3.c1
        have x3p2 := x3.c2
        clear x1p0 x1p1 x1p2 x2p0 x2p1 x2p2 x3p0 x3p1 x3p2
        go_upto_region 6 with fail
        go_cut [10] (fun sv wx => BoxPost (p * q * r) V5 sv wx)
        case first =>
          as_aux_lemma =>
            have y1 := x1.drew
            have y2 := x2.drew
            have y3 := x3.drew
            have g2 := h2.drew
            have yu := below_drew uu
            have yv := below_drew (Below.refl V5.heap.size V5)
            go_region_held3 (fun w' => w'.cell? ⟨w.heap.size, 0, none⟩ = some (.bool s1) ∧ w'.cell? ⟨w.heap.size, 1, none⟩ = some (.slice A1 n1 c1) ∧ w'.cell? ⟨w.heap.size, 2, none⟩ = some (.slice A2 n2 c2) ∧ w'.cell? ⟨w.heap.size + 1, 0, none⟩ = some (.bool s2) ∧ w'.cell? ⟨w.heap.size + 1, 1, none⟩ = some (.slice A3 n3 c3) ∧ w'.cell? ⟨w.heap.size + 1, 2, none⟩ = some (.slice A4 n4 c4) ∧ w'.cell? ⟨w.heap.size + 1 + 1, 0, none⟩ = some (.bool s3) ∧ w'.cell? ⟨w.heap.size + 1 + 1, 1, none⟩ = some (.slice A5 n5 c5) ∧ w'.cell? ⟨w.heap.size + 1 + 1, 2, none⟩ = some (.slice A6 n6 c6))
              (first | (with_reducible exact ⟨x1.c0, x1.c1, x1.c2, x2.c0, x2.c1, x2.c2, x3.c0, x3.c1, x3.c2⟩) | (with_reducible exact ⟨y1.c0, y1.c1, y1.c2, y2.c0, y2.c1, y2.c2, y3.c0, y3.c1, y3.c2⟩) | (with_reducible exact KF) | (with_reducible exact ⟨(y1.alloc _).c0, (y1.alloc _).c1, (y1.alloc _).c2, (y2.alloc _).c0, (y2.alloc _).c1, (y2.alloc _).c2, (y3.alloc _).c0, (y3.alloc _).c1, (y3.alloc _).c2⟩) | (with_reducible exact ⟨(x1.alloc _).drew.c0, (x1.alloc _).drew.c1, (x1.alloc _).drew.c2, (x2.alloc _).drew.c0, (x2.alloc _).drew.c1, (x2.alloc _).drew.c2, (x3.alloc _).drew.c0, (x3.alloc _).drew.c1, (x3.alloc _).drew.c2⟩) | go_keep)
              (first
                | (go_at_call 58
                   (with_reducible refine (Mpr.out _ yu).mono ?_)
                   rintro e w5 ⟨s4, A7, n7, c7, A8, n8, c8, rfl, f4, _, _, b5⟩
                   replace y1 := y1.below b5
                   replace y2 := y2.below b5
                   replace y3 := y3.below b5
                   replace g2 := g2.below b5
                   replace yu := bthen yu b5
                   replace yv := bthen yv b5
                   (try replace zb := zb.below b5)
                   have hn7 : n7 ≤ 1000 := by have := f4.lens; have := Lmpr.out; omega
                   have hn8 : n8 ≤ 1000 := by have := f4.lens; have := Lmpr.out; omega)
                | (go_at_call 58
                   (with_reducible refine (Mpr.out _ (below_drew (below_alloc uu (.cells #[.bool false, .slice none 0 0, .slice none 0 0] 24)))).mono ?_)
                   rintro e w5 ⟨s4, A7, n7, c7, A8, n8, c8, rfl, f4, _, _, b5⟩
                   have y1 := ((x1.alloc (.cells #[.bool false, .slice none 0 0, .slice none 0 0] 24)).drew).below b5
                   have y2 := ((x2.alloc (.cells #[.bool false, .slice none 0 0, .slice none 0 0] 24)).drew).below b5
                   have y3 := ((x3.alloc (.cells #[.bool false, .slice none 0 0, .slice none 0 0] 24)).drew).below b5
                   have g2 := ((h2.alloc (.cells #[.bool false, .slice none 0 0, .slice none 0 0] 24)).drew).below b5
                   have yv := bthen (below_drew (below_alloc (Below.refl V5.heap.size V5) (.cells #[.bool false, .slice none 0 0, .slice none 0 0] 24))) b5
                   have yu := bthen (below_drew (below_alloc uu (.cells #[.bool false, .slice none 0 0, .slice none 0 0] 24))) b5
                   have zg : V5.heap.size ≤ V5.heap.size := Nat.le_refl _
                   have zb := ((Bk.new V5 (.bool false) (.slice none 0 0) (.slice none 0 0) 24).drew).below b5
                   have hn7 : n7 ≤ 1000 := by have := f4.lens; have := Lmpr.out; omega
                   have hn8 : n8 ≤ 1000 := by have := f4.lens; have := Lmpr.out; omega)
                | (go_at_call 58
                   (with_reducible refine (Mul_any s2 s4 A3 A4 A7 A8 n3 n4 n7 n8 c3 c4 c7 c8 _ _ _ g2 f4.rf (by omega) (by omega) (by omega) (by omega)).mono ?_)
                   rintro e w6 ⟨s5, A9, n9, c9, A10, n10, c10, rfl, f5, _, _, b5⟩
                   rw [HM.out] at f5
                   replace y1 := y1.below b5
                   replace y2 := y2.below b5
                   replace y3 := y3.below b5
                   replace g2 := g2.below b5
                   replace f4 := f4.below b5
                   replace yu := bthen yu b5
                   replace yv := bthen yv b5
                   (try replace zb := zb.below b5)
                   (try have t0 := zb.c0)
                   (try have t1 := zb.c1)
                   (try have t2 := zb.c2)
                   (try have v0 := zb.fz 0)
                   (try have v1 := zb.fz 1)
                   (try have v2 := zb.fz 2)
                   (try have my1 := y1.put (g' := _) (Nat.ne_of_lt (Nat.lt_of_lt_of_le x1.lt zg)) (.bool s5) (.slice A9 n9 c9) (.slice A10 n10 c10))
                   (try have my2 := y2.put (g' := _) (Nat.ne_of_lt (Nat.lt_of_lt_of_le x2.lt zg)) (.bool s5) (.slice A9 n9 c9) (.slice A10 n10 c10))
                   (try have my3 := y3.put (g' := _) (Nat.ne_of_lt (Nat.lt_of_lt_of_le x3.lt zg)) (.bool s5) (.slice A9 n9 c9) (.slice A10 n10 c10))
                   (try have KF := And.intro my1.c0 (And.intro my1.c1 (And.intro my1.c2 (And.intro my2.c0 (And.intro my2.c1 (And.intro my2.c2 (And.intro my3.c0 (And.intro my3.c1 (my3.c2)))))))))
                   (try unfold put3 at KF))
                | (go_at_call 58
                   (with_reducible refine (Mul_any s2 s4 A3 A4 A7 A8 n3 n4 n7 n8 c3 c4 c7 c8 _ _ _ (g2.alloc (.cells #[.bool false, .slice none 0 0, .slice none 0 0] 24)) (f4.alloc (.cells #[.bool false, .slice none 0 0, .slice none 0 0] 24)).rf (by omega) (by omega) (by omega) (by omega)).mono ?_)
                   rintro e w6 ⟨s5, A9, n9, c9, A10, n10, c10, rfl, f5, _, _, b5⟩
                   rw [HM.out] at f5
                   have zg := yv.size
                   have zb := (Bk.new w5 (.bool false) (.slice none 0 0) (.slice none 0 0) 24).below b5
                   replace y1 := (y1.alloc (.cells #[.bool false, .slice none 0 0, .slice none 0 0] 24)).below b5
                   replace y2 := (y2.alloc (.cells #[.bool false, .slice none 0 0, .slice none 0 0] 24)).below b5
                   replace y3 := (y3.alloc (.cells #[.bool false, .slice none 0 0, .slice none 0 0] 24)).below b5
                   replace g2 := (g2.alloc (.cells #[.bool false, .slice none 0 0, .slice none 0 0] 24)).below b5
                   replace f4 := (f4.alloc (.cells #[.bool false, .slice none 0 0, .slice none 0 0] 24)).below b5
                   replace yv := bthen (below_alloc yv (.cells #[.bool false, .slice none 0 0, .slice none 0 0] 24)) b5
                   replace yu := bthen (below_alloc yu (.cells #[.bool false, .slice none 0 0, .slice none 0 0] 24)) b5
                   (try have t0 := zb.c0)
                   (try have t1 := zb.c1)
                   (try have t2 := zb.c2)
                   (try have v0 := zb.fz 0)
                   (try have v1 := zb.fz 1)
                   (try have v2 := zb.fz 2)
                   (try have my1 := y1.put (g' := _) (Nat.ne_of_lt (Nat.lt_of_lt_of_le x1.lt zg)) (.bool s5) (.slice A9 n9 c9) (.slice A10 n10 c10))
                   (try have my2 := y2.put (g' := _) (Nat.ne_of_lt (Nat.lt_of_lt_of_le x2.lt zg)) (.bool s5) (.slice A9 n9 c9) (.slice A10 n10 c10))
                   (try have my3 := y3.put (g' := _) (Nat.ne_of_lt (Nat.lt_of_lt_of_le x3.lt zg)) (.bool s5) (.slice A9 n9 c9) (.slice A10 n10 c10))
                   (try have KF := And.intro my1.c0 (And.intro my1.c1 (And.intro my1.c2 (And.intro my2.c0 (And.intro my2.c1 (And.intro my2.c2 (And.intro my3.c0 (And.intro my3.c1 (my3.c2)))))))))
                   (try unfold put3 at KF)))
            all_goals
              go_wp2_with fail
              go_meet
              first
                | exact BoxPost.put f5 zb yv zg
                | exact BoxPost.new f5 yv
        case rest =>
          obtain ⟨G14, s14, A27, n27, c27, A28, n28, c28, rfl, x14, f14, b5⟩ := hcut
          obtain ⟨V6, rfl⟩ : ∃ V6 : World, V6 = wc := ⟨_, rfl⟩
          replace x1 := x1.below b5
          replace x2 := x2.below b5
          replace x3 := x3.below b5
          replace h1 := h1.below b5
          replace h2 := h2.below b5
          replace h3 := h3.below b5
          replace x11 := x11.below b5
          replace f11 := f11.below b5
          replace x12 := x12.below b5
          replace f12 := f12.below b5
          replace x13 := x13.below b5
          replace f13 := f13.below b5
          replace uu := bthen uu b5
          have x1p0 := x1.c0
          have x1p1 := x1.c1
          have x1p2 := x1.c2
          have x2p0 := x2.c0
          have x2p1 := x2.c1
          have x2p2 := x2.c2
          have x3p0 := x3.c0
          have x3p1 := x3.c1
          have x3p2 := x3.c2
          clear x1p0 x1p1 x1p2 x2p0 x2p1 x2p2 x3p0 x3p1 x3p2
          go_upto_region 7 with fail
          go_cut [11] (fun sv wx => BoxPost (p * (q + r)) V6 sv wx)
          case first =>
            as_aux_lemma =>
              have y1 := x1.drew
              have y2 := x2.drew
              have y3 := x3.drew
              have g1 := h1.drew
              have yu := below_drew uu
              have yv := below_drew (Below.refl V6.heap.size V6)
              go_region_held3 (fun w' => w'.cell? ⟨w.heap.size, 0, none⟩ = some (.bool s1) ∧ w'.cell? ⟨w.heap.size, 1, none⟩ = some (.slice A1 n1 c1) ∧ w'.cell? ⟨w.heap.size, 2, none⟩ = some (.slice A2 n2 c2) ∧ w'.cell? ⟨w.heap.size + 1, 0, none⟩ = some (.bool s2) ∧ w'.cell? ⟨w.heap.size + 1, 1, none⟩ = some (.slice A3 n3 c3) ∧ w'.cell? ⟨w.heap.size + 1, 2, none⟩ = some (.slice A4 n4 c4) ∧ w'.cell? ⟨w.heap.size + 1 + 1, 0, none⟩ = some (.bool s3) ∧ w'.cell? ⟨w.heap.size + 1 + 1, 1, none⟩ = some (.slice A5 n5 c5) ∧ w'.cell? ⟨w.heap.size + 1 + 1, 2, none⟩ = some (.slice A6 n6 c6))
                (first | (with_reducible exact ⟨x1.c0, x1.c1, x1.c2, x2.c0, x2.c1, x2.c2, x3.c0, x3.c1, x3.c2⟩) | (with_reducible exact ⟨y1.c0, y1.c1, y1.c2, y2.c0, y2.c1, y2.c2, y3.c0, y3.c1, y3.c2⟩) | (with_reducible exact KF) | (with_reducible exact ⟨(y1.alloc _).c0, (y1.alloc _).c1, (y1.alloc _).c2, (y2.alloc _).c0, (y2.alloc _).c1, (y2.alloc _).c2, (y3.alloc _).c0, (y3.alloc _).c1, (y3.alloc _).c2⟩) | (with_reducible exact ⟨(x1.alloc _).drew.c0, (x1.alloc _).drew.c1, (x1.alloc _).drew.c2, (x2.alloc _).drew.c0, (x2.alloc _).drew.c1, (x2.alloc _).drew.c2, (x3.alloc _).drew.c0, (x3.alloc _).drew.c1, (x3.alloc _).drew.c2⟩) | go_keep)
                (first
                  | (go_at_call 52
                     (with_reducible refine (Aqr.out _ yu).mono ?_)
                     rintro e w5 ⟨s4, A7, n7, c7, A8, n8, c8, rfl, f4, _, _, b5⟩
                     replace y1 := y1.below b5
                     replace y2 := y2.below b5
                     replace y3 := y3.below b5
                     replace g1 := g1.below b5
                     replace yu := bthen yu b5
                     replace yv := bthen yv b5
                     (try replace zb := zb.below b5)
                     have hn7 : n7 ≤ 1000 := by have := f4.lens; have := Lqr.out; omega
                     have hn8 : n8 ≤ 1000 := by have := f4.lens; have := Lqr.out; omega)
                  | (go_at_call 52
                     (with_reducible refine (Aqr.out _ (below_drew (below_alloc uu (.cells #[.bool false, .slice none 0 0, .slice none 0 0] 24)))).mono ?_)
                     rintro e w5 ⟨s4, A7, n7, c7, A8, n8, c8, rfl, f4, _, _, b5⟩
                     have y1 := ((x1.alloc (.cells #[.bool false, .slice none 0 0, .slice none 0 0] 24)).drew).below b5
                     have y2 := ((x2.alloc (.cells #[.bool false, .slice none 0 0, .slice none 0 0] 24)).drew).below b5
                     have y3 := ((x3.alloc (.cells #[.bool false, .slice none 0 0, .slice none 0 0] 24)).drew).below b5
                     have g1 := ((h1.alloc (.cells #[.bool false, .slice none 0 0, .slice none 0 0] 24)).drew).below b5
                     have yv := bthen (below_drew (below_alloc (Below.refl V6.heap.size V6) (.cells #[.bool false, .slice none 0 0, .slice none 0 0] 24))) b5
                     have yu := bthen (below_drew (below_alloc uu (.cells #[.bool false, .slice none 0 0, .slice none 0 0] 24))) b5
                     have zg : V6.heap.size ≤ V6.heap.size := Nat.le_refl _
                     have zb := ((Bk.new V6 (.bool false) (.slice none 0 0) (.slice none 0 0) 24).drew).below b5
                     have hn7 : n7 ≤ 1000 := by have := f4.lens; have := Lqr.out; omega
                     have hn8 : n8 ≤ 1000 := by have := f4.lens; have := Lqr.out; omega)
                  | (go_at_call 58
                     (with_reducible refine (Mul_any s1 s4 A1 A2 A7 A8 n1 n2 n7 n8 c1 c2 c7 c8 _ _ _ g1 f4.rf (by omega) (by omega) (by omega) (by omega)).mono ?_)
                     rintro e w6 ⟨s5, A9, n9, c9, A10, n10, c10, rfl, f5, _, _, b5⟩
                     replace y1 := y1.below b5
                     replace y2 := y2.below b5
                     replace y3 := y3.below b5
                     replace g1 := g1.below b5
                     replace f4 := f4.below b5
                     replace yu := bthen yu b5
                     replace yv := bthen yv b5
                     (try replace zb := zb.below b5)
                     (try have t0 := zb.c0)
                     (try have t1 := zb.c1)
                     (try have t2 := zb.c2)
                     (try have v0 := zb.fz 0)
                     (try have v1 := zb.fz 1)
                     (try have v2 := zb.fz 2)
                     (try have my1 := y1.put (g' := _) (Nat.ne_of_lt (Nat.lt_of_lt_of_le x1.lt zg)) (.bool s5) (.slice A9 n9 c9) (.slice A10 n10 c10))
                     (try have my2 := y2.put (g' := _) (Nat.ne_of_lt (Nat.lt_of_lt_of_le x2.lt zg)) (.bool s5) (.slice A9 n9 c9) (.slice A10 n10 c10))
                     (try have my3 := y3.put (g' := _) (Nat.ne_of_lt (Nat.lt_of_lt_of_le x3.lt zg)) (.bool s5) (.slice A9 n9 c9) (.slice A10 n10 c10))
                     (try have KF := And.intro my1.c0 (And.intro my1.c1 (And.intro my1.c2 (And.intro my2.c0 (And.intro my2.c1 (And.intro my2.c2 (And.intro my3.c0 (And.intro my3.c1 (my3.c2)))))))))
                     (try unfold put3 at KF))
                  | (go_at_call 58
                     (with_reducible refine (Mul_any s1 s4 A1 A2 A7 A8 n1 n2 n7 n8 c1 c2 c7 c8 _ _ _ (g1.alloc (.cells #[.bool false, .slice none 0 0, .slice none 0 0] 24)) (f4.alloc (.cells #[.bool false, .slice none 0 0, .slice none 0 0] 24)).rf (by omega) (by omega) (by omega) (by omega)).mono ?_)
                     rintro e w6 ⟨s5, A9, n9, c9, A10, n10, c10, rfl, f5, _, _, b5⟩
                     have zg := yv.size
                     have zb := (Bk.new w5 (.bool false) (.slice none 0 0) (.slice none 0 0) 24).below b5
                     replace y1 := (y1.alloc (.cells #[.bool false, .slice none 0 0, .slice none 0 0] 24)).below b5
                     replace y2 := (y2.alloc (.cells #[.bool false, .slice none 0 0, .slice none 0 0] 24)).below b5
                     replace y3 := (y3.alloc (.cells #[.bool false, .slice none 0 0, .slice none 0 0] 24)).below b5
                     replace g1 := (g1.alloc (.cells #[.bool false, .slice none 0 0, .slice none 0 0] 24)).below b5
                     replace f4 := (f4.alloc (.cells #[.bool false, .slice none 0 0, .slice none 0 0] 24)).below b5
                     replace yv := bthen (below_alloc yv (.cells #[.bool false, .slice none 0 0, .slice none 0 0] 24)) b5
                     replace yu := bthen (below_alloc yu (.cells #[.bool false, .slice none 0 0, .slice none 0 0] 24)) b5
                     (try have t0 := zb.c0)
                     (try have t1 := zb.c1)
                     (try have t2 := zb.c2)
                     (try have v0 := zb.fz 0)
                     (try have v1 := zb.fz 1)
                     (try have v2 := zb.fz 2)
                     (try have my1 := y1.put (g' := _) (Nat.ne_of_lt (Nat.lt_of_lt_of_le x1.lt zg)) (.bool s5) (.slice A9 n9 c9) (.slice A10 n10 c10))
                     (try have my2 := y2.put (g' := _) (Nat.ne_of_lt (Nat.lt_of_lt_of_le x2.lt zg)) (.bool s5) (.slice A9 n9 c9) (.slice A10 n10 c10))
                     (try have my3 := y3.put (g' := _) (Nat.ne_of_lt (Nat.lt_of_lt_of_le x3.lt zg)) (.bool s5) (.slice A9 n9 c9) (.slice A10 n10 c10))
                     (try have KF := And.intro my1.c0 (And.intro my1.c1 (And.intro my1.c2 (And.intro my2.c0 (And.intro my2.c1 (And.intro my2.c2 (And.intro my3.c0 (And.intro my3.c1 (my3.c2)))))))))
                     (try unfold put3 at KF)))
              all_goals
                go_wp2_with fail
                go_meet
                first
                  | exact BoxPost.put f5 zb yv zg
                  | exact BoxPost.new f5 yv
          case rest =>
            obtain ⟨G15, s15, A29, n29, c29, A30, n30, c30, rfl, x15, f15, b5⟩ := hcut
            obtain ⟨V7, rfl⟩ : ∃ V7 : World, V7 = wc := ⟨_, rfl⟩
            replace x1 := x1.below b5
            replace x2 := x2.below b5
            replace x3 := x3.below b5
            replace h1 := h1.below b5
            replace h2 := h2.below b5
            replace h3 := h3.below b5
            replace x11 := x11.below b5
            replace f11 := f11.below b5
            replace x12 := x12.below b5
            replace f12 := f12.below b5
            replace x13 := x13.below b5
            replace f13 := f13.below b5
            replace x14 := x14.below b5
            replace f14 := f14.below b5
            replace uu := bthen uu b5
            have x1p0 := x1.c0
            have x1p1 := x1.c1
            have x1p2 := x1.c2
            have x2p0 := x2.c0
            have x2p1 := x2.c1
            have x2p2 := x2.c2
            have x3p0 := x3.c0
            have x3p1 := x3.c1
            have x3p2 := x3.c2
            clear x1p0 x1p1 x1p2 x2p0 x2p1 x2p2 x3p0 x3p1 x3p2
            go_upto_region 8 with fail
            go_cut [12] (fun sv wx => BoxPost (p * (q + r)) V7 sv wx)
            case first =>
              as_aux_lemma =>
                have y1 := x1.drew
                have y2 := x2.drew
                have y3 := x3.drew
                have yu := below_drew uu
                have yv := below_drew (Below.refl V7.heap.size V7)
                go_region_held3 (fun w' => w'.cell? ⟨w.heap.size, 0, none⟩ = some (.bool s1) ∧ w'.cell? ⟨w.heap.size, 1, none⟩ = some (.slice A1 n1 c1) ∧ w'.cell? ⟨w.heap.size, 2, none⟩ = some (.slice A2 n2 c2) ∧ w'.cell? ⟨w.heap.size + 1, 0, none⟩ = some (.bool s2) ∧ w'.cell? ⟨w.heap.size + 1, 1, none⟩ = some (.slice A3 n3 c3) ∧ w'.cell? ⟨w.heap.size + 1, 2, none⟩ = some (.slice A4 n4 c4) ∧ w'.cell? ⟨w.heap.size + 1 + 1, 0, none⟩ = some (.bool s3) ∧ w'.cell? ⟨w.heap.size + 1 + 1, 1, none⟩ = some (.slice A5 n5 c5) ∧ w'.cell? ⟨w.heap.size + 1 + 1, 2, none⟩ = some (.slice A6 n6 c6))
                  (first | (with_reducible exact ⟨x1.c0, x1.c1, x1.c2, x2.c0, x2.c1, x2.c2, x3.c0, x3.c1, x3.c2⟩) | (with_reducible exact ⟨y1.c0, y1.c1, y1.c2, y2.c0, y2.c1, y2.c2, y3.c0, y3.c1, y3.c2⟩) | (with_reducible exact KF) | (with_reducible exact ⟨(y1.alloc _).c0, (y1.alloc _).c1, (y1.alloc _).c2, (y2.alloc _).c0, (y2.alloc _).c1, (y2.alloc _).c2, (y3.alloc _).c0, (y3.alloc _).c1, (y3.alloc _).c2⟩) | (with_reducible exact ⟨(x1.alloc _).drew.c0, (x1.alloc _).drew.c1, (x1.alloc _).drew.c2, (x2.alloc _).drew.c0, (x2.alloc _).drew.c1, (x2.alloc _).drew.c2, (x3.alloc _).drew.c0, (x3.alloc _).drew.c1, (x3.alloc _).drew.c2⟩) | go_keep)
                  (first
                    | (go_at_call 58
                       (with_reducible refine (Mpq.out _ yu).mono ?_)
                       rintro e w5 ⟨s4, A7, n7, c7, A8, n8, c8, rfl, f4, _, _, b5⟩
                       replace y1 := y1.below b5
                       replace y2 := y2.below b5
                       replace y3 := y3.below b5
                       replace yu := bthen yu b5
                       replace yv := bthen yv b5
                       (try replace zb := zb.below b5)
                       have hn7 : n7 ≤ 1000 := by have := f4.lens; have := Lmpq.out; omega
                       have hn8 : n8 ≤ 1000 := by have := f4.lens; have := Lmpq.out; omega)
                    | (go_at_call 58
                       (with_reducible refine (Mpq.out _ (below_drew (below_alloc uu (.cells #[.bool false, .slice none 0 0, .slice none 0 0] 24)))).mono ?_)
                       rintro e w5 ⟨s4, A7, n7, c7, A8, n8, c8, rfl, f4, _, _, b5⟩
                       have y1 := ((x1.alloc (.cells #[.bool false, .slice none 0 0, .slice none 0 0] 24)).drew).below b5
                       have y2 := ((x2.alloc (.cells #[.bool false, .slice none 0 0, .slice none 0 0] 24)).drew).below b5
                       have y3 := ((x3.alloc (.cells #[.bool false, .slice none 0 0, .slice none 0 0] 24)).drew).below b5
                       have yv := bthen (below_drew (below_alloc (Below.refl V7.heap.size V7) (.cells #[.bool false, .slice none 0 0, .slice none 0 0] 24))) b5
                       have yu := bthen (below_drew (below_alloc uu (.cells #[.bool false, .slice none 0 0, .slice none 0 0] 24))) b5
                       have zg : V7.heap.size ≤ V7.heap.size := Nat.le_refl _
                       have zb := ((Bk.new V7 (.bool false) (.slice none 0 0) (.slice none 0 0) 24).drew).below b5
                       have hn7 : n7 ≤ 1000 := by have := f4.lens; have := Lmpq.out; omega
                       have hn8 : n8 ≤ 1000 := by have := f4.lens; have := Lmpq.out; omega)
                    | (go_at_call 58
                       (with_reducible refine (Mrp.out _ yu).mono ?_)
                       rintro e w6 ⟨s5, A9, n9, c9, A10, n10, c10, rfl, f5, _, _, b5⟩
                       replace y1 := y1.below b5
                       replace y2 := y2.below b5
                       replace y3 := y3.below b5
                       replace f4 := f4.below b5
                       replace yu := bthen yu b5
                       replace yv := bthen yv b5
                       (try replace zb := zb.below b5)
                       have hn9 : n9 ≤ 1000 := by have := f5.lens; have := Lmrp.out; omega
                       have hn10 : n10 ≤ 1000 := by have := f5.lens; have := Lmrp.out; omega)
                    | (go_at_call 58
                       (with_reducible refine (Mrp.out _ (below_alloc yu (.cells #[.bool false, .slice none 0 0, .slice none 0 0] 24))).mono ?_)
                       rintro e w6 ⟨s5, A9, n9, c9, A10, n10, c10, rfl, f5, _, _, b5⟩
                       have zg := yv.size
                       have zb := (Bk.new w5 (.bool false) (.slice none 0 0) (.slice none 0 0) 24).below b5
                       replace y1 := (y1.alloc (.cells #[.bool false, .slice none 0 0, .slice none 0 0] 24)).below b5
                       replace y2 := (y2.alloc (.cells #[.bool false, .slice none 0 0, .slice none 0 0] 24)).below b5
                       replace y3 := (y3.alloc (.cells #[.bool false, .slice none 0 0, .slice none 0 0] 24)).below b5
                       replace f4 := (f4.alloc (.cells #[.bool false, .slice none 0 0, .slice none 0 0] 24)).below b5
                       replace yv := bthen (below_alloc yv (.cells #[.bool false, .slice none 0 0, .slice none 0 0] 24)) b5
                       replace yu := bthen (below_alloc yu (.cells #[.bool false, .slice none 0 0, .slice none 0 0] 24)) b5
                       have hn9 : n9 ≤ 1000 := by have := f5.lens; have := Lmrp.out; omega
                       have hn10 : n10 ≤ 1000 := by have := f5.lens; have := Lmrp.out; omega)
                    | (go_at_call 52
                       (with_reducible refine (Add_any s4 s5 A7 A8 A9 A10 n7 n8 n9 n10 c7 c8 c9 c10 _ _ _ f4.rf f5.rf (by omega) (by omega) (by omega) (by omega)).mono ?_)
                       rintro e w7 ⟨s6, A11, n11, c11, A12, n12, c12, rfl, f6, _, _, b5⟩
                       rw [HD.out] at f6
                       replace y1 := y1.below b5
                       replace y2 := y2.below b5
                       replace y3 := y3.below b5
                       replace f4 := f4.below b5
                       replace f5 := f5.below b5
                       replace yu := bthen yu b5
                       replace yv := bthen yv b5
                       (try replace zb := zb.below b5)
                       (try have t0 := zb.c0)
                       (try have t1 := zb.c1)
                       (try have t2 := zb.c2)
                       (try have v0 := zb.fz 0)
                       (try have v1 := zb.fz 1)
                       (try have v2 := zb.fz 2)
                       (try have my1 := y1.put (g' := _) (Nat.ne_of_lt (Nat.lt_of_lt_of_le x1.lt zg)) (.bool s6) (.slice A11 n11 c11) (.slice A12 n12 c12))
                       (try have my2 := y2.put (g' := _) (Nat.ne_of_lt (Nat.lt_of_lt_of_le x2.lt zg)) (.bool s6) (.slice A11 n11 c11) (.slice A12 n12 c12))
                       (try have my3 := y3.put (g' := _) (Nat.ne_of_lt (Nat.lt_of_lt_of_le x3.lt zg)) (.bool s6) (.slice A11 n11 c11) (.slice A12 n12 c12))
                       (try have KF := And.intro my1.c0 (And.intro my1.c1 (And.intro my1.c2 (And.intro my2.c0 (And.intro my2.c1 (And.intro my2.c2 (And.intro my3.c0 (And.intro my3.c1 (my3.c2)))))))))
                       (try unfold put3 at KF))
                    | (go_at_call 52
                       (with_reducible refine (Add_any s4 s5 A7 A8 A9 A10 n7 n8 n9 n10 c7 c8 c9 c10 _ _ _ (f4.alloc (.cells #[.bool false, .slice none 0 0, .slice none 0 0] 24)).rf (f5.alloc (.cells #[.bool false, .slice none 0 0, .slice none 0 0] 24)).rf (by omega) (by omega) (by omega) (by omega)).mono ?_)
                       rintro e w7 ⟨s6, A11, n11, c11, A12, n12, c12, rfl, f6, _, _, b5⟩
                       rw [HD.out] at f6
                       have zg := yv.size
                       have zb := (Bk.new w6 (.bool false) (.slice none 0 0) (.slice none 0 0) 24).below b5
                       replace y1 := (y1.alloc (.cells #[.bool false, .slice none 0 0, .slice none 0 0] 24)).below b5
                       replace y2 := (y2.alloc (.cells #[.bool false, .slice none 0 0, .slice none 0 0] 24)).below b5
                       replace y3 := (y3.alloc (.cells #[.bool false, .slice none 0 0, .slice none 0 0] 24)).below b5
                       replace f4 := (f4.alloc (.cells #[.bool false, .slice none 0 0, .slice none 0 0] 24)).below b5
                       replace f5 := (f5.alloc (.cells #[.bool false, .slice none 0 0, .slice none 0 0] 24)).below b5
                       replace yv := bthen (below_alloc yv (.cells #[.bool false, .slice none 0 0, .slice none 0 0] 24)) b5
                       replace yu := bthen (below_alloc yu (.cells #[.bool false, .slice none 0 0, .slice none 0 0] 24)) b5
                       (try have t0 := zb.c0)
                       (try have t1 := zb.c1)
                       (try have t2 := zb.c2)
                       (try have v0 := zb.fz 0)
                       (try have v1 := zb.fz 1)
                       (try have v2 := zb.fz 2)
                       (try have my1 := y1.put (g' := _) (Nat.ne_of_lt (Nat.lt_of_lt_of_le x1.lt zg)) (.bool s6) (.slice A11 n11 c11) (.slice A12 n12 c12))
                       (try have my2 := y2.put (g' := _) (Nat.ne_of_lt (Nat.lt_of_lt_of_le x2.lt zg)) (.bool s6) (.slice A11 n11 c11) (.slice A12 n12 c12))
                       (try have my3 := y3.put (g' := _) (Nat.ne_of_lt (Nat.lt_of_lt_of_le x3.lt zg)) (.bool s6) (.slice A11 n11 c11) (.slice A12 n12 c12))
                       (try have KF := And.intro my1.c0 (And.intro my1.c1 (And.intro my1.c2 (And.intro my2.c0 (And.intro my2.c1 (And.intro my2.c2 (And.intro my3.c0 (And.intro my3.c1 (my3.c2)))))))))
                       (try unfold put3 at KF)))
                all_goals
                  go_wp2_with fail
                  go_meet
                  first
                    | exact BoxPost.put f6 zb yv zg
                    | exact BoxPost.new f6 yv
            case rest =>
              obtain ⟨G16, s16, A31, n31, c31, A32, n32, c32, rfl, x16, f16, b5⟩ := hcut
              obtain ⟨V8, rfl⟩ : ∃ V8 : World, V8 = wc := ⟨_, rfl⟩
              replace x1 := x1.below b5
              replace x2 := x2.below b5
              replace x3 := x3.below b5
              replace h1 := h1.below b5
              replace h2 := h2.below b5
              replace h3 := h3.below b5
              replace x11 := x11.below b5
              replace f11 := f11.below b5
              replace x12 := x12.below b5
              replace f12 := f12.below b5
              replace x13 := x13.below b5
              replace f13 := f13.below b5
              replace x14 := x14.below b5
              replace f14 := f14.below b5
              replace x15 := x15.below b5
              replace f15 := f15.below b5
              replace uu := bthen uu b5
              have x1p0 := x1.c0
              have x1p1 := x1.c1
              have x1p2 := x1.c2
              have x2p0 := x2.c0
              have x2p1 := x2.c1
              have x2p2 := x2.c2
              have x3p0 := x3.c0
              have x3p1 := x3.c1
              have x3p2 := x3.c2
              clear x1p0 x1p1 x1p2 x2p0 x2p1 x2p2 x3p0 x3p1 x3p2
              have hn21 : n21 ≤ 1000 := by have := f11.lens; have := Lx.out; omega
              have hn22 : n22 ≤ 1000 := by have := f11.lens; have := Lx.out; omega
              have hn23 : n23 ≤ 1000 := by have := f12.lens; have := Lx.out; omega
              have hn24 : n24 ≤ 1000 := by have := f12.lens; have := Lx.out; omega
              have hn25 : n25 ≤ 1000 := by have := f13.lens; have := Lm.out; omega
              have hn26 : n26 ≤ 1000 := by have := f13.lens; have := Lm.out; omega
              have hn27 : n27 ≤ 1000 := by have := f14.lens; have := Lm.out; omega
              have hn28 : n28 ≤ 1000 := by have := f14.lens; have := Lm.out; omega
              have hn29 : n29 ≤ 1000 := by have := f15.lens; have := Ld.out; omega
              have hn30 : n30 ≤ 1000 := by have := f15.lens; have := Ld.out; omega
              have hn31 : n31 ≤ 1000 := by have := f16.lens; have := Ld.out; omega
              have hn32 : n32 ≤ 1000 := by have := f16.lens; have := Ld.out; omega
              have y1 := x1.drew
              have y2 := x2.drew
              have y3 := x3.drew
              have y11 := x11.drew
              have y12 := x12.drew
              have y13 := x13.drew
              have y14 := x14.drew
              have y15 := x15.drew
              have y16 := x16.drew
              have g11 := f11.below (below_drew (Below.refl _ V8))
              have g12 := f12.below (below_drew (Below.refl _ V8))
              have g13 := f13.below (below_drew (Below.refl _ V8))
              have g14 := f14.below (below_drew (Below.refl _ V8))
              have g15 := f15.below (below_drew (Below.refl _ V8))
              have g16 := f16.below (below_drew (Below.refl _ V8))
              have g2 := h2.drew
              have yu := below_drew uu
              go_wp2_with fail
              go_region_held3 (fun w' => w'.cell? ⟨w.heap.size, 0, none⟩ = some (.bool s1) ∧ w'.cell? ⟨w.heap.size, 1, none⟩ = some (.slice A1 n1 c1) ∧ w'.cell? ⟨w.heap.size, 2, none⟩ = some (.slice A2 n2 c2) ∧ w'.cell? ⟨w.heap.size + 1, 0, none⟩ = some (.bool s2) ∧ w'.cell? ⟨w.heap.size + 1, 1, none⟩ = some (.slice A3 n3 c3) ∧ w'.cell? ⟨w.heap.size + 1, 2, none⟩ = some (.slice A4 n4 c4) ∧ w'.cell? ⟨w.heap.size + 1 + 1, 0, none⟩ = some (.bool s3) ∧ w'.cell? ⟨w.heap.size + 1 + 1, 1, none⟩ = some (.slice A5 n5 c5) ∧ w'.cell? ⟨w.heap.size + 1 + 1, 2, none⟩ = some (.slice A6 n6 c6) ∧ w'.cell? ⟨G11, 0, none⟩ = some (.bool s11) ∧ w'.cell? ⟨G11, 1, none⟩ = some (.slice A21 n21 c21) ∧ w'.cell? ⟨G11, 2, none⟩ = some (.slice A22 n22 c22) ∧ w'.cell? ⟨G12, 0, none⟩ = some (.bool s12) ∧ w'.cell? ⟨G12, 1, none⟩ = some (.slice A23 n23 c23) ∧ w'.cell? ⟨G12, 2, none⟩ = some (.slice A24 n24 c24) ∧ w'.cell? ⟨G13, 0, none⟩ = some (.bool s13) ∧ w'.cell? ⟨G13, 1, none⟩ = some (.slice A25 n25 c25) ∧ w'.cell? ⟨G13, 2, none⟩ = some (.slice A26 n26 c26) ∧ w'.cell? ⟨G14, 0, none⟩ = some (.bool s14) ∧ w'.cell? ⟨G14, 1, none⟩ = some (.slice A27 n27 c27) ∧ w'.cell? ⟨G14, 2, none⟩ = some (.slice A28 n28 c28) ∧ w'.cell? ⟨G15, 0, none⟩ = some (.bool s15) ∧ w'.cell? ⟨G15, 1, none⟩ = some (.slice A29 n29 c29) ∧ w'.cell? ⟨G15, 2, none⟩ = some (.slice A30 n30 c30) ∧ w'.cell? ⟨G16, 0, none⟩ = some (.bool s16) ∧ w'.cell? ⟨G16, 1, none⟩ = some (.slice A31 n31 c31) ∧ w'.cell? ⟨G16, 2, none⟩ = some (.slice A32 n32 c32))
                (first | (with_reducible exact ⟨x1.c0, x1.c1, x1.c2, x2.c0, x2.c1, x2.c2, x3.c0, x3.c1, x3.c2, x11.c0, x11.c1, x11.c2, x12.c0, x12.c1, x12.c2, x13.c0, x13.c1, x13.c2, x14.c0, x14.c1, x14.c2, x15.c0, x15.c1, x15.c2, x16.c0, x16.c1, x16.c2⟩) | (with_reducible exact ⟨y1.c0, y1.c1, y1.c2, y2.c0, y2.c1, y2.c2, y3.c0, y3.c1, y3.c2, y11.c0, y11.c1, y11.c2, y12.c0, y12.c1, y12.c2, y13.c0, y13.c1, y13.c2, y14.c0, y14.c1, y14.c2, y15.c0, y15.c1, y15.c2, y16.c0, y16.c1, y16.c2⟩) | go_keep)
                (first
                  | (go_at_call 22
                     (with_reducible refine (SameFr_any s11 s12 A21 A22 A23 A24 n21 n22 n23 n24 c21 c22 c23 c24 _ _ _ g11 g12 (by omega) (by omega) (by omega) (by omega) true (decide_eq_true rfl).symm).mono ?_)
                     rintro e w5 ⟨rfl, b5⟩
                     replace y1 := y1.below b5
                     replace y2 := y2.below b5
                     replace y3 := y3.below b5
                     replace y11 := y11.below b5
                     replace y12 := y12.below b5
                     replace y13 := y13.below b5
                     replace y14 := y14.below b5
                     replace y15 := y15.below b5
                     replace y16 := y16.below b5
                     replace g11 := g11.below b5
                     replace g12 := g12.below b5
                     replace g13 := g13.below b5
                     replace g14 := g14.below b5
                     replace g15 := g15.below b5
                     replace g16 := g16.below b5
                     replace g2 := g2.below b5
                     replace yu := bthen yu b5)
                  | (go_at_call 22
                     (with_reducible refine (SameFr_any s13 s14 A25 A26 A27 A28 n25 n26 n27 n28 c25 c26 c27 c28 _ _ _ g13 g14 (by omega) (by omega) (by omega) (by omega) true (decide_eq_true rfl).symm).mono ?_)
                     rintro e w5 ⟨rfl, b5⟩
                     replace y1 := y1.below b5
                     replace y2 := y2.below b5
                     replace y3 := y3.below b5
                     replace y11 := y11.below b5
                     replace y12 := y12.below b5
                     replace y13 := y13.below b5
                     replace y14 := y14.below b5
                     replace y15 := y15.below b5
                     replace y16 := y16.below b5
                     replace g11 := g11.below b5
                     replace g12 := g12.below b5
                     replace g13 := g13.below b5
                     replace g14 := g14.below b5
                     replace g15 := g15.below b5
                     replace g16 := g16.below b5
                     replace g2 := g2.below b5
                     replace yu := bthen yu b5)
                  | (go_at_call 22
                     (with_reducible refine (SameFr_any s15 s16 A29 A30 A31 A32 n29 n30 n31 n32 c29 c30 c31 c32 _ _ _ g15 g16 (by omega) (by omega) (by omega) (by omega) true (decide_eq_true rfl).symm).mono ?_)
                     rintro e w5 ⟨rfl, b5⟩
                     replace y1 := y1.below b5
                     replace y2 := y2.below b5
                     replace y3 := y3.below b5
                     replace y11 := y11.below b5
                     replace y12 := y12.below b5
                     replace y13 := y13.below b5
                     replace y14 := y14.below b5
                     replace y15 := y15.below b5
                     replace y16 := y16.below b5
                     replace g11 := g11.below b5
                     replace g12 := g12.below b5
                     replace g13 := g13.below b5
                     replace g14 := g14.below b5
                     replace g15 := g15.below b5
                     replace g16 := g16.below b5
                     replace g2 := g2.below b5
                     replace yu := bthen yu b5)
                  | (go_at_call 52
                     (with_reducible refine (Apq.out _ yu).mono ?_)
                     rintro e w5 ⟨s4, A7, n7, c7, A8, n8, c8, rfl, f4, _, _, b5⟩
                     replace y1 := y1.below b5
                     replace y2 := y2.below b5
                     replace y3 := y3.below b5
                     replace y11 := y11.below b5
                     replace y12 := y12.below b5
                     replace y13 := y13.below b5
                     replace y14 := y14.below b5
                     replace y15 := y15.below b5
                     replace y16 := y16.below b5
                     replace g11 := g11.below b5
                     replace g12 := g12.below b5
                     replace g13 := g13.below b5
                     replace g14 := g14.below b5
                     replace g15 := g15.below b5
                     replace g16 := g16.below b5
                     replace g2 := g2.below b5
                     replace yu := bthen yu b5
                     have hn7 : n7 ≤ 1000 := by have := f4.lens; have := Lpq.out; omega
                     have hn8 : n8 ≤ 1000 := by have := f4.lens; have := Lpq.out; omega)
                  | (go_at_call 54
                     (with_reducible refine (Sub_any s4 s2 A7 A8 A3 A4 n7 n8 n3 n4 c7 c8 c3 c4 _ _ _ f4.rf g2 (by omega) (by omega) (by omega) (by omega)).mono ?_)
                     rintro e w5 ⟨s5, A9, n9, c9, A10, n10, c10, rfl, f5, _, _, b5⟩
                     rw [HS.out] at f5
                     replace y1 := y1.below b5
                     replace y2 := y2.below b5
                     replace y3 := y3.below b5
                     replace y11 := y11.below b5
                     replace y12 := y12.below b5
                     replace y13 := y13.below b5
                     replace y14 := y14.below b5
                     replace y15 := y15.below b5
                     replace y16 := y16.below b5
                     replace g11 := g11.below b5
                     replace g12 := g12.below b5
                     replace g13 := g13.below b5
                     replace g14 := g14.below b5
                     replace g15 := g15.below b5
                     replace g16 := g16.below b5
                     replace g2 := g2.below b5
                     replace yu := bthen yu b5
                     have hn9 : n9 ≤ 1000 := by have := f5.lens; have := Lp.out; omega
                     have hn10 : n10 ≤ 1000 := by have := f5.lens; have := Lp.out; omega)
                  | (go_at_call 59
                     (with_reducible refine (Cp.out _ yu).mono ?_)
                     rintro e w5 ⟨s6, A11, n11, c11, A12, n12, c12, rfl, f6, _, _, b5⟩
                     replace y1 := y1.below b5
                     replace y2 := y2.below b5
                     replace y3 := y3.below b5
                     replace y11 := y11.below b5
                     replace y12 := y12.below b5
                     replace y13 := y13.below b5
                     replace y14 := y14.below b5
                     replace y15 := y15.below b5
                     replace y16 := y16.below b5
                     replace g11 := g11.below b5
                     replace g12 := g12.below b5
                     replace g13 := g13.below b5
                     replace g14 := g14.below b5
                     replace g15 := g15.below b5
                     replace g16 := g16.below b5
                     replace g2 := g2.below b5
                     replace f5 := f5.below b5
                     replace yu := bthen yu b5
                     have hn11 : n11 ≤ 1000 := by have := f6.lens; have := Lp.out; omega
                     have hn12 : n12 ≤ 1000 := by have := f6.lens; have := Lp.out; omega)
                  | (go_at_call 22
                     (with_reducible refine (SameFr_any s5 s6 A9 A10 A11 A12 n9 n10 n11 n12 c9 c10 c11 c12 _ _ _ f5 f6 (by omega) (by omega) (by omega) (by omega) true (decide_eq_true rfl).symm).mono ?_)
                     rintro e w5 ⟨rfl, b5⟩
                     replace y1 := y1.below b5
                     replace y2 := y2.below b5
                     replace y3 := y3.below b5
                     replace y11 := y11.below b5
                     replace y12 := y12.below b5
                     replace y13 := y13.below b5
                     replace y14 := y14.below b5
                     replace y15 := y15.below b5
                     replace y16 := y16.below b5
                     replace g11 := g11.below b5
                     replace g12 := g12.below b5
                     replace g13 := g13.below b5
                     replace g14 := g14.below b5
                     replace g15 := g15.below b5
                     replace g16 := g16.below b5
                     replace g2 := g2.below b5
                     replace yu := bthen yu b5)
                  | (go_at_call 54
                     (with_reducible refine (Spp.out _ yu).mono ?_)
                     rintro e w5 ⟨s7, A13, n13, c13, A14, n14, c14, rfl, f7, _, _, b5⟩
                     rw [HO.out] at f7
                     replace y1 := y1.below b5
                     replace y2 := y2.below b5
                     replace y3 := y3.below b5
                     replace y11 := y11.below b5
                     replace y12 := y12.below b5
                     replace y13 := y13.below b5
                     replace y14 := y14.below b5
                     replace y15 := y15.below b5
                     replace y16 := y16.below b5
                     replace g11 := g11.below b5
                     replace g12 := g12.below b5
                     replace g13 := g13.below b5
                     replace g14 := g14.below b5
                     replace g15 := g15.below b5
                     replace g16 := g16.below b5
                     replace g2 := g2.below b5
                     replace yu := bthen yu b5
                     have hn13 : n13 ≤ 1000 := by have := f7.lens; have := Lz.out; omega
                     have hn14 : n14 ≤ 1000 := by have := f7.lens; have := Lz.out; omega)
                  | (go_at_call 50
                     (with_reducible refine (sgn_eq (Sign_any s7 A13 A14 n13 n14 c13 c14 0 _ f7.rf (by omega) (by omega)) (show sgn 0 = 0 from rfl)).mono ?_)
                     rintro e w5 ⟨rfl, b5⟩
                     replace y1 := y1.below b5
                     replace y2 := y2.below b5
                     replace y3 := y3.below b5
                     replace y11 := y11.below b5
                     replace y12 := y12.below b5
                     replace y13 := y13.below b5
                     replace y14 := y14.below b5
                     replace y15 := y15.below b5
                     replace y16 := y16.below b5
                     replace g11 := g11.below b5
                     replace g12 := g12.below b5
                     replace g13 := g13.below b5
                     replace g14 := g14.below b5
                     replace g15 := g15.below b5
                     replace g16 := g16.below b5
                     replace g2 := g2.below b5
                     replace yu := bthen yu b5))
              have x1 := y1
              have x2 := y2
              have x3 := y3
              have uu := yu
              have h2 := g2
              clear y1 y2 y3 y11 y12 y13 y14 y15 y16 g11 g12 g13 g14 g15 g16 g2 yu
              have x1p0 := x1.c0
              have x1p1 := x1.c1
              have x1p2 := x1.c2
              have x2p0 := x2.c0
              have x2p1 := x2.c1
              have x2p2 := x2.c2
              have x3p0 := x3.c0
              have x3p1 := x3.c1
              have x3p2 := x3.c2
              go_wp2_with fail
              refine (Sq.out _ uu).mono ?_
              rintro e w9 ⟨rfl, b5⟩
              replace uu := bthen uu b5
              have htx := ht.on (bthen xb uu)
              go_wp2_with fail
              refine (known_any _ htx).mono ?_
              rintro e w10 ⟨rfl, b6⟩
              go_wp2_with fail
              go_ret
              exact ⟨rfl, bthen (bthen xb uu) b6⟩

set_option maxHeartbeats 20000000 in
theorem FracField_yes (s1 : Bool) (A1 A2 : Option Addr) (n1 n2 c1 c2 : Nat) (s2 : Bool) (A3 A4 : Option Addr) (n3 n4 c3 c4 : Nat) (s3 : Bool) (A5 A6 : Option Addr) (n5 n6 c5 c6 : Nat) (p q r : Rat) (w : World) (h1 : Rf w s1 A1 n1 c1 A2 n2 c2 p) (h2 : Rf w s2 A3 n3 c3 A4 n4 c4 q) (h3 : Rf w s3 A5 n5 c5 A6 n6 c6 r) (ht : Tab w)
    (l1 : n1 ≤ 6) (l2 : n2 ≤ 6) (l3 : n3 ≤ 6) (l4 : n4 ≤ 6) (l5 : n5 ≤ 6) (l6 : n6 ≤ 6) (hz : q ≠ 0) :
    Calls Tryd.prog 15 #[.agg #[.bool s1, .slice A1 n1 c1, .slice A2 n2 c2], .agg #[.bool s2, .slice A3 n3 c3, .slice A4 n4 c4], .agg #[.bool s3, .slice A5 n5 c5, .slice A6 n6 c6]] w (ValPost (.bool true) w) := by
  have hp := h1.len
  have hq := h2.len
  have hr := h3.len
  have HX : Hid (p + (r + q) = p + q + r) := Lib.hid (by grind)
  have HM : Hid (q * (p * r) = p * q * r) := Lib.hid (by grind)
  have HD : Hid (p * q + r * p = p * (q + r)) := Lib.hid (by grind)
  have HS : Hid (p + q - q = p) := Lib.hid (by grind)
  have HO : Hid (p - p = 0) := Lib.hid (by grind)
  have Lpq : Hid (ln (p + q) ≤ 1000 ∧ ld (p + q) ≤ 1000) := Lib.hid (by have := ln_add p q; omega)
  have Lrq : Hid (ln (r + q) ≤ 1000 ∧ ld (r + q) ≤ 1000) := Lib.hid (by have := ln_add r q; omega)
  have Lqr : Hid (ln (q + r) ≤ 1000 ∧ ld (q + r) ≤ 1000) := Lib.hid (by have := ln_add q r; omega)
  have Lmpq : Hid (ln (p * q) ≤ 1000 ∧ ld (p * q) ≤ 1000) := Lib.hid (by have := ln_mul p q; omega)
  have Lmpr : Hid (ln (p * r) ≤ 1000 ∧ ld (p * r) ≤ 1000) := Lib.hid (by have := ln_mul p r; omega)
  have Lmrp : Hid (ln (r * p) ≤ 1000 ∧ ld (r * p) ≤ 1000) := Lib.hid (by have := ln_mul r p; omega)
  have Lp : Hid (ln (p) ≤ 1000 ∧ ld (p) ≤ 1000) := Lib.hid (by skip; omega)
  have Lx : Hid (ln (p + q + r) ≤ 1000 ∧ ld (p + q + r) ≤ 1000) := Lib.hid (by have := ln_add p q; have := ln_add (p + q) r; omega)
  have Lm : Hid (ln (p * q * r) ≤ 1000 ∧ ld (p * q * r) ≤ 1000) := Lib.hid (by have := ln_mul p q; have := ln_mul (p * q) r; omega)
  have Ld : Hid (ln (p * (q + r)) ≤ 1000 ∧ ld (p * (q + r)) ≤ 1000) := Lib.hid (by have := ln_add q r; have := ln_mul p (q + r); omega)
  have Lz : Hid (ln ((0 : Rat)) ≤ 1000 ∧ ld ((0 : Rat)) ≤ 1000) := Lib.hid (by have := ln_zero; omega)
  have Lone : Hid (ln ((1 : Rat)) ≤ 1000 ∧ ld ((1 : Rat)) ≤ 1000) := Lib.hid (by have := ln_one; omega)
  obtain ⟨u, HU, x1, x2, x3, xb⟩ := boxes3 w (.bool s1) (.slice A1 n1 c1) (.slice A2 n2 c2) (.bool s2) (.slice A3 n3 c3) (.slice A4 n4 c4) (.bool s3) (.slice A5 n5 c5) (.slice A6 n6 c6) 24 24 24
  replace h1 := h1.below xb
  replace h2 := h2.below xb
  replace h3 := h3.below xb
  have Apq : Hid (∀ w', Below u.heap.size u w' → Calls Tryd.prog 52 #[.agg #[.bool s1, .slice A1 n1 c1, .slice A2 n2 c2], .agg #[.bool s2, .slice A3 n3 c3, .slice A4 n4 c4]] w' (FrPost (p + q) w')) := Lib.hid (fun w' hb => Add_any s1 s2 A1 A2 A3 A4 n1 n2 n3 n4 c1 c2 c3 c4 p q w' (h1.below hb) (h2.below hb) (by omega) (by omega) (by omega) (by omega))
  have Arq : Hid (∀ w', Below u.heap.size u w' → Calls Tryd.prog 52 #[.agg #[.bool s3, .slice A5 n5 c5, .slice A6 n6 c6], .agg #[.bool s2, .slice A3 n3 c3, .slice A4 n4 c4]] w' (FrPost (r + q) w')) := Lib.hid (fun w' hb => Add_any s3 s2 A5 A6 A3 A4 n5 n6 n3 n4 c5 c6 c3 c4 r q w' (h3.below hb) (h2.below hb) (by omega) (by omega) (by omega) (by omega))
  have Aqr : Hid (∀ w', Below u.heap.size u w' → Calls Tryd.prog 52 #[.agg #[.bool s2, .slice A3 n3 c3, .slice A4 n4 c4], .agg #[.bool s3, .slice A5 n5 c5, .slice A6 n6 c6]] w' (FrPost (q + r) w')) := Lib.hid (fun w' hb => Add_any s2 s3 A3 A4 A5 A6 n3 n4 n5 n6 c3 c4 c5 c6 q r w' (h2.below hb) (h3.below hb) (by omega) (by omega) (by omega) (by omega))
  have Mpq : Hid (∀ w', Below u.heap.size u w' → Calls Tryd.prog 58 #[.agg #[.bool s1, .slice A1 n1 c1, .slice A2 n2 c2], .agg #[.bool s2, .slice A3 n3 c3, .slice A4 n4 c4]] w' (FrPost (p * q) w')) := Lib.hid (fun w' hb => Mul_any s1 s2 A1 A2 A3 A4 n1 n2 n3 n4 c1 c2 c3 c4 p q w' (h1.below hb) (h2.below hb) (by omega) (by omega) (by omega) (by omega))
  have Mpr : Hid (∀ w', Below u.heap.size u w' → Calls Tryd.prog 58 #[.agg #[.bool s1, .slice A1 n1 c1, .slice A2 n2 c2], .agg #[.bool s3, .slice A5 n5 c5, .slice A6 n6 c6]] w' (FrPost (p * r) w')) := Lib.hid (fun w' hb => Mul_any s1 s3 A1 A2 A5 A6 n1 n2 n5 n6 c1 c2 c5 c6 p r w' (h1.below hb) (h3.below hb) (by omega) (by omega) (by omega) (by omega))
  have Mrp : Hid (∀ w', Below u.heap.size u w' → Calls Tryd.prog 58 #[.agg #[.bool s3, .slice A5 n5 c5, .slice A6 n6 c6], .agg #[.bool s1, .slice A1 n1 c1, .slice A2 n2 c2]] w' (FrPost (r * p) w')) := Lib.hid (fun w' hb => Mul_any s3 s1 A5 A6 A1 A2 n5 n6 n1 n2 c5 c6 c1 c2 r p w' (h3.below hb) (h1.below hb) (by omega) (by omega) (by omega) (by omega))
  have Spp : Hid (∀ w', Below u.heap.size u w' → Calls Tryd.prog 54 #[.agg #[.bool s1, .slice A1 n1 c1, .slice A2 n2 c2], .agg #[.bool s1, .slice A1 n1 c1, .slice A2 n2 c2]] w' (FrPost (p - p) w')) := Lib.hid (fun w' hb => Sub_any s1 s1 A1 A2 A1 A2 n1 n2 n1 n2 c1 c2 c1 c2 p p w' (h1.below hb) (h1.below hb) (by omega) (by omega) (by omega) (by omega))
  have Cp : Hid (∀ w', Below u.heap.size u w' → Calls Tryd.prog 59 #[.agg #[.bool s1, .slice A1 n1 c1, .slice A2 n2 c2]] w' (FrPost p w')) := Lib.hid (fun w' hb => Canon_any s1 A1 A2 n1 n2 c1 c2 p w' (h1.below hb) (by omega) (by omega))
  have HQ : Hid (p * q / q = p) := Lib.hid (by grind)
  have HQ1 : Hid (q / q = 1) := Lib.hid (by grind)
  have hrq : rn q ≠ 0 := fun e => hz (rn_zero.1 e)
  have HRQ := Lib.hid hrq
  have Dqq : Hid (∀ w', Below u.heap.size u w' → Calls Tryd.prog 57 #[.agg #[.bool s2, .slice A3 n3 c3, .slice A4 n4 c4], .agg #[.bool s2, .slice A3 n3 c3, .slice A4 n4 c4]] w' (FrEPost 1 0 w')) := Lib.hid (fun w' hb => by
    rw [← HQ1.out]
    exact Div_yes s2 s2 A3 A4 A3 A4 n3 n4 n3 n4 c3 c4 c3 c4 q q w' (h2.below hb) (h2.below hb) (by omega) (by omega) (by omega) (by omega) hrq)
  have Hsg : Hid (∃ k, sgn q = k ∧ (k == 0) = false) := Lib.hid ⟨_, rfl, beq_eq_false_iff_ne.2 (fun e => hz ((sgn_zero_iff q).1 e))⟩
  obtain ⟨kq, hkq, hk0⟩ := Hsg.out
  clear hrq
  have Sq : Hid (∀ w', Below u.heap.size u w' → Calls Tryd.prog 50 #[.agg #[.bool s2, .slice A3 n3 c3, .slice A4 n4 c4]] w' (ValPost (.int .i64 kq) w')) := Lib.hid (fun w' hb => by
    have := Sign_any s2 A3 A4 n3 n4 c3 c4 q w' (h2.below hb) (by omega) (by omega)
    rwa [hkq] at this)
  replace hkq := Lib.hid hkq
  replace hz := Lib.hid hz
  have uu := Below.refl u.heap.size u
  have x1p0 := x1.c0
  have x1p1 := x1.c1
  have x1p2 := x1.c2
  have x2p0 := x2.c0
  have x2p1 := x2.c1
  have x2p2 := x2.c2
  have x3p0 := x3.c0
  have x3p1 := x3.c1
  have x3p2 := x3.c2
  rw [HU.out] at x1p0 x1p1 x1p2 x2p0 x2p1 x2p2 x3p0 x3p1 x3p2
  clear hp hq hr
  go_enter Tryd.func15, Tryd.ntmps15
  go_upto_region 3 with fail
  rw [← HU.out]
  go_cut [7] (fun sv wx => BoxPost (p + q + r) u sv wx)
  case first =>
    as_aux_lemma =>
      clear x1p0 x1p1 x1p2 x2p0 x2p1 x2p2 x3p0 x3p1 x3p2
      have y1 := x1.drew
      have y2 := x2.drew
      have y3 := x3.drew
      have g3 := h3.drew
      have yu := below_drew uu
      have yv := below_drew (Below.refl u.heap.size u)
      go_region_held3 (fun w' => w'.cell? ⟨w.heap.size, 0, none⟩ = some (.bool s1) ∧ w'.cell? ⟨w.heap.size, 1, none⟩ = some (.slice A1 n1 c1) ∧ w'.cell? ⟨w.heap.size, 2, none⟩ = some (.slice A2 n2 c2) ∧ w'.cell? ⟨w.heap.size + 1, 0, none⟩ = some (.bool s2) ∧ w'.cell? ⟨w.heap.size + 1, 1, none⟩ = some (.slice A3 n3 c3) ∧ w'.cell? ⟨w.heap.size + 1, 2, none⟩ = some (.slice A4 n4 c4) ∧ w'.cell? ⟨w.heap.size + 1 + 1, 0, none⟩ = some (.bool s3) ∧ w'.cell? ⟨w.heap.size + 1 + 1, 1, none⟩ = some (.slice A5 n5 c5) ∧ w'.cell? ⟨w.heap.size + 1 + 1, 2, none⟩ = some (.slice A6 n6 c6))
        (first | (with_reducible exact ⟨x1.c0, x1.c1, x1.c2, x2.c0, x2.c1, x2.c2, x3.c0, x3.c1, x3.c2⟩) | (with_reducible exact ⟨y1.c0, y1.c1, y1.c2, y2.c0, y2.c1, y2.c2, y3.c0, y3.c1, y3.c2⟩) | (with_reducible exact KF) | (with_reducible exact ⟨(y1.alloc _).c0, (y1.alloc _).c1, (y1.alloc _).c2, (y2.alloc _).c0, (y2.alloc _).c1, (y2.alloc _).c2, (y3.alloc _).c0, (y3.alloc _).c1, (y3.alloc _).c2⟩) | (with_reducible exact ⟨(x1.alloc _).drew.c0, (x1.alloc _).drew.c1, (x1.alloc _).drew.c2, (x2.alloc _).drew.c0, (x2.alloc _).drew.c1, (x2.alloc _).drew.c2, (x3.alloc _).drew.c0, (x3.alloc _).drew.c1, (x3.alloc _).drew.c2⟩) | go_keep)
        (first
          | (go_at_call 52
             (with_reducible refine (Apq.out _ yu).mono ?_)
             rintro e w5 ⟨s4, A7, n7, c7, A8, n8, c8, rfl, f4, _, _, b5⟩
             replace y1 := y1.below b5
             replace y2 := y2.below b5
             replace y3 := y3.below b5
             replace g3 := g3.below b5
             replace yu := bthen yu b5
             replace yv := bthen yv b5
             (try replace zb := zb.below b5)
             have hn7 : n7 ≤ 1000 := by have := f4.lens; have := Lpq.out; omega
             have hn8 : n8 ≤ 1000 := by have := f4.lens; have := Lpq.out; omega)
          | (go_at_call 52
             (with_reducible refine (Apq.out _ (below_drew (below_alloc uu (.cells #[.bool false, .slice none 0 0, .slice none 0 0] 24)))).mono ?_)
             rintro e w5 ⟨s4, A7, n7, c7, A8, n8, c8, rfl, f4, _, _, b5⟩
             have y1 := ((x1.alloc (.cells #[.bool false, .slice none 0 0, .slice none 0 0] 24)).drew).below b5
             have y2 := ((x2.alloc (.cells #[.bool false, .slice none 0 0, .slice none 0 0] 24)).drew).below b5
             have y3 := ((x3.alloc (.cells #[.bool false, .slice none 0 0, .slice none 0 0] 24)).drew).below b5
             have g3 := ((h3.alloc (.cells #[.bool false, .slice none 0 0, .slice none 0 0] 24)).drew).below b5
             have yv := bthen (below_drew (below_alloc (Below.refl u.heap.size u) (.cells #[.bool false, .slice none 0 0, .slice none 0 0] 24))) b5
             have yu := bthen (below_drew (below_alloc uu (.cells #[.bool false, .slice none 0 0, .slice none 0 0] 24))) b5
             have zg : u.heap.size ≤ u.heap.size := Nat.le_refl _
             have zb := ((Bk.new u (.bool false) (.slice none 0 0) (.slice none 0 0) 24).drew).below b5
             have hn7 : n7 ≤ 1000 := by have := f4.lens; have := Lpq.out; omega
             have hn8 : n8 ≤ 1000 := by have := f4.lens; have := Lpq.out; omega)
          | (go_at_call 52
             (with_reducible refine (Add_any s4 s3 A7 A8 A5 A6 n7 n8 n5 n6 c7 c8 c5 c6 _ _ _ f4.rf g3 (by omega) (by omega) (by omega) (by omega)).mono ?_)
             rintro e w6 ⟨s5, A9, n9, c9, A10, n10, c10, rfl, f5, _, _, b5⟩
             replace y1 := y1.below b5
             replace y2 := y2.below b5
             replace y3 := y3.below b5
             replace g3 := g3.below b5
             replace f4 := f4.below b5
             replace yu := bthen yu b5
             replace yv := bthen yv b5
             (try replace zb := zb.below b5)
             (try have t0 := zb.c0)
             (try have t1 := zb.c1)
             (try have t2 := zb.c2)
             (try have v0 := zb.fz 0)
             (try have v1 := zb.fz 1)
             (try have v2 := zb.fz 2)
             (try have my1 := y1.put (g' := _) (Nat.ne_of_lt (Nat.lt_of_lt_of_le x1.lt zg)) (.bool s5) (.slice A9 n9 c9) (.slice A10 n10 c10))
             (try have my2 := y2.put (g' := _) (Nat.ne_of_lt (Nat.lt_of_lt_of_le x2.lt zg)) (.bool s5) (.slice A9 n9 c9) (.slice A10 n10 c10))
             (try have my3 := y3.put (g' := _) (Nat.ne_of_lt (Nat.lt_of_lt_of_le x3.lt zg)) (.bool s5) (.slice A9 n9 c9) (.slice A10 n10 c10))
             (try have KF := And.intro my1.c0 (And.intro my1.c1 (And.intro my1.c2 (And.intro my2.c0 (And.intro my2.c1 (And.intro my2.c2 (And.intro my3.c0 (And.intro my3.c1 (my3.c2)))))))))
             (try unfold put3 at KF))
          | (go_at_call 52
             (with_reducible refine (Add_any s4 s3 A7 A8 A5 A6 n7 n8 n5 n6 c7 c8 c5 c6 _ _ _ (f4.alloc (.cells #[.bool false, .slice none 0 0, .slice none 0 0] 24)).rf (g3.alloc (.cells #[.bool false, .slice none 0 0, .slice none 0 0] 24)) (by omega) (by omega) (by omega) (by omega)).mono ?_)
             rintro e w6 ⟨s5, A9, n9, c9, A10, n10, c10, rfl, f5, _, _, b5⟩
             have zg := yv.size
             have zb := (Bk.new w5 (.bool false) (.slice none 0 0) (.slice none 0 0) 24).below b5
             replace y1 := (y1.alloc (.cells #[.bool false, .slice none 0 0, .slice none 0 0] 24)).below b5
             replace y2 := (y2.alloc (.cells #[.bool false, .slice none 0 0, .slice none 0 0] 24)).below b5
             replace y3 := (y3.alloc (.cells #[.bool false, .slice none 0 0, .slice none 0 0] 24)).below b5
             replace g3 := (g3.alloc (.cells #[.bool false, .slice none 0 0, .slice none 0 0] 24)).below b5
             replace f4 := (f4.alloc (.cells #[.bool false, .slice none 0 0, .slice none 0 0] 24)).below b5
             replace yv := bthen (below_alloc yv (.cells #[.bool false, .slice none 0 0, .slice none 0 0] 24)) b5
             replace yu := bthen (below_alloc yu (.cells #[.bool false, .slice none 0 0, .slice none 0 0] 24)) b5
             (try have t0 := zb.c0)
             (try have t1 := zb.c1)
             (try have t2 := zb.c2)
             (try have v0 := zb.fz 0)
             (try have v1 := zb.fz 1)
             (try have v2 := zb.fz 2)
             (try have my1 := y1.put (g' := _) (Nat.ne_of_lt (Nat.lt_of_lt_of_le x1.lt zg)) (.bool s5) (.slice A9 n9 c9) (.slice A10 n10 c10))
             (try have my2 := y2.put (g' := _) (Nat.ne_of_lt (Nat.lt_of_lt_of_le x2.lt zg)) (.bool s5) (.slice A9 n9 c9) (.slice A10 n10 c10))
             (try have my3 := y3.put (g' := _) (Nat.ne_of_lt (Nat.lt_of_lt_of_le x3.lt zg)) (.bool s5) (.slice A9 n9 c9) (.slice A10 n10 c10))
             (try have KF := And.intro my1.c0 (And.intro my1.c1 (And.intro my1.c2 (And.intro my2.c0 (And.intro my2.c1 (And.intro my2.c2 (And.intro my3.c0 (And.intro my3.c1 (my3.c2)))))))))
             (try unfold put3 at KF)))
      all_goals
        go_wp2_with fail
        go_meet
        first
          | exact BoxPost.put f5 zb yv zg
          | exact BoxPost.new f5 yv
  case rest =>
    clear x1p0 x1p1 x1p2 x2p0 x2p1 x2p2 x3p0 x3p1 x3p2
    obtain ⟨G11, s11, A21, n21, c21, A22, n22, c22, rfl, x11, f11, b5⟩ := hcut
    obtain ⟨V3, rfl⟩ : ∃ V3 : World, V3 = wc := ⟨_, rfl⟩
    replace x1 := x1.below b5
    replace x2 := x2.below b5
    replace x3 := x3.below b5
    replace h1 := h1.below b5
    replace h2 := h2.below b5
    replace h3 := h3.below b5
    replace uu := bthen uu b5
    have x1p0 := x1.c0
    have x1p1 := x1.c1
    have x1p2 := x1.c2
    have x2p0 := x2.c0
    have x2p1 := x2.c1
    have x2p2 := x2.c2
    have x3p0 := x3.c0
    have x3p1 := x3.c1
    have x3p2 := x3.c2
    clear x1p0 x1p1 x1p2 x2p0 x2p1 x2p2 x3p0 x3p1 x3p2
    go_upto_region 4 with fail
    go_cut [8] (fun sv wx => BoxPost (p + q + r) V3 sv wx)
    case first =>
      as_aux_lemma =>
        have y1 := x1.drew
        have y2 := x2.drew
        have y3 := x3.drew
        have g1 := h1.drew
        have yu := below_drew uu
        have yv := below_drew (Below.refl V3.heap.size V3)
        go_region_held3 (fun w' => w'.cell? ⟨w.heap.size, 0, none⟩ = some (.bool s1) ∧ w'.cell? ⟨w.heap.size, 1, none⟩ = some (.slice A1 n1 c1) ∧ w'.cell? ⟨w.heap.size, 2, none⟩ = some (.slice A2 n2 c2) ∧ w'.cell? ⟨w.heap.size + 1, 0, none⟩ = some (.bool s2) ∧ w'.cell? ⟨w.heap.size + 1, 1, none⟩ = some (.slice A3 n3 c3) ∧ w'.cell? ⟨w.heap.size + 1, 2, none⟩ = some (.slice A4 n4 c4) ∧ w'.cell? ⟨w.heap.size + 1 + 1, 0, none⟩ = some (.bool s3) ∧ w'.cell? ⟨w.heap.size + 1 + 1, 1, none⟩ = some (.slice A5 n5 c5) ∧ w'.cell? ⟨w.heap.size + 1 + 1, 2, none⟩ = some (.slice A6 n6 c6))
          (first | (with_reducible exact ⟨x1.c0, x1.c1, x1.c2, x2.c0, x2.c1, x2.c2, x3.c0, x3.c1, x3.c2⟩) | (with_reducible exact ⟨y1.c0, y1.c1, y1.c2, y2.c0, y2.c1, y2.c2, y3.c0, y3.c1, y3.c2⟩) | (with_reducible exact KF) | (with_reducible exact ⟨(y1.alloc _).c0, (y1.alloc _).c1, (y1.alloc _).c2, (y2.alloc _).c0, (y2.alloc _).c1, (y2.alloc _).c2, (y3.alloc _).c0, (y3.alloc _).c1, (y3.alloc _).c2⟩) | (with_reducible exact ⟨(x1.alloc _).drew.c0, (x1.alloc _).drew.c1, (x1.alloc _).drew.c2, (x2.alloc _).drew.c0, (x2.alloc _).drew.c1, (x2.alloc _).drew.c2, (x3.alloc _).drew.c0, (x3.alloc _).drew.c1, (x3.alloc _).drew.c2⟩) | go_keep)
          (first
            | (go_at_call 52
               (with_reducible refine (Arq.out _ yu).mono ?_)
               rintro e w5 ⟨s4, A7, n7, c7, A8, n8, c8, rfl, f4, _, _, b5⟩
               replace y1 := y1.below b5
               replace y2 := y2.below b5
               replace y3 := y3.below b5
               replace g1 := g1.below b5
               replace yu := bthen yu b5
               replace yv := bthen yv b5
               (try replace zb := zb.below b5)
               have hn7 : n7 ≤ 1000 := by have := f4.lens; have := Lrq.out; omega
               have hn8 : n8 ≤ 1000 := by have := f4.lens; have := Lrq.out; omega)
            | (go_at_call 52
               (with_reducible refine (Arq.out _ (below_drew (below_alloc uu (.cells #[.bool false, .slice none 0 0, .slice none 0 0] 24)))).mono ?_)
               rintro e w5 ⟨s4, A7, n7, c7, A8, n8, c8, rfl, f4, _, _, b5⟩
               have y1 := ((x1.alloc (.cells #[.bool false, .slice none 0 0, .slice none 0 0] 24)).drew).below b5
               have y2 := ((x2.alloc (.cells #[.bool false, .slice none 0 0, .slice none 0 0] 24)).drew).below b5
               have y3 := ((x3.alloc (.cells #[.bool false, .slice none 0 0, .slice none 0 0] 24)).drew).below b5
               have g1 := ((h1.alloc (.cells #[.bool false, .slice none 0 0, .slice none 0 0] 24)).drew).below b5
               have yv := bthen (below_drew (below_alloc (Below.refl V3.heap.size V3) (.cells #[.bool false, .slice none 0 0, .slice none 0 0] 24))) b5
               have yu := bthen (below_drew (below_alloc uu (.cells #[.bool false, .slice none 0 0, .slice none 0 0] 24))) b5
               have zg : V3.heap.size ≤ V3.heap.size := Nat.le_refl _
               have zb := ((Bk.new V3 (.bool false) (.slice none 0 0) (.slice none 0 0) 24).drew).below b5
               have hn7 : n7 ≤ 1000 := by have := f4.lens; have := Lrq.out; omega
               have hn8 : n8 ≤ 1000 := by have := f4.lens; have := Lrq.out; omega)
            | (go_at_call 52
               (with_reducible refine (Add_any s1 s4 A1 A2 A7 A8 n1 n2 n7 n8 c1 c2 c7 c8 _ _ _ g1 f4.rf (by omega) (by omega) (by omega) (by omega)).mono ?_)
               rintro e w6 ⟨s5, A9, n9, c9, A10, n10, c10, rfl, f5, _, _, b5⟩
               rw [HX.out] at f5
               replace y1 := y1.below b5
               replace y2 := y2.below b5
               replace y3 := y3.below b5
               replace g1 := g1.below b5
               replace f4 := f4.below b5
               replace yu := bthen yu b5
               replace yv := bthen yv b5
               (try replace zb := zb.below b5)
               (try have t0 := zb.c0)
               (try have t1 := zb.c1)
               (try have t2 := zb.c2)
               (try have v0 := zb.fz 0)
               (try have v1 := zb.fz 1)
               (try have v2 := zb.fz 2)
               (try have my1 := y1.put (g' := _) (Nat.ne_of_lt (Nat.lt_of_lt_of_le x1.lt zg)) (.bool s5) (.slice A9 n9 c9) (.slice A10 n10 c10))
               (try have my2 := y2.put (g' := _) (Nat.ne_of_lt (Nat.lt_of_lt_of_le x2.lt zg)) (.bool s5) (.slice A9 n9 c9) (.slice A10 n10 c10))
               (try have my3 := y3.put (g' := _) (Nat.ne_of_lt (Nat.lt_of_lt_of_le x3.lt zg)) (.bool s5) (.slice A9 n9 c9) (.slice A10 n10 c10))
               (try have KF := And.intro my1.c0 (And.intro my1.c1 (And.intro my1.c2 (And.intro my2.c0 (And.intro my2.c1 (And.intro my2.c2 (And.intro my3.c0 (And.intro my3.c1 (my3.c2)))))))))
               (try unfold put3 at KF))
            | (go_at_call 52
               (with_reducible refine (Add_any s1 s4 A1 A2 A7 A8 n1 n2 n7 n8 c1 c2 c7 c8 _ _ _ (g1.alloc (.cells #[.bool false, .slice none 0 0, .slice none 0 0] 24)) (f4.alloc (.cells #[.bool false, .slice none 0 0, .slice none 0 0] 24)).rf (by omega) (by omega) (by omega) (by omega)).mono ?_)
               rintro e w6 ⟨s5, A9, n9, c9, A10, n10, c10, rfl, f5, _, _, b5⟩
               rw [HX.out] at f5
               have zg := yv.size
               have zb := (Bk.new w5 (.bool false) (.slice none 0 0) (.slice none 0 0) 24).below b5
               replace y1 := (y1.alloc (.cells #[.bool false, .slice none 0 0, .slice none 0 0] 24)).below b5
               replace y2 := (y2.alloc (.cells #[.bool false, .slice none 0 0, .slice none 0 0] 24)).below b5
               replace y3 := (y3.alloc (.cells #[.bool false, .slice none 0 0, .slice none 0 0] 24)).below b5
               replace g1 := (g1.alloc (.cells #[.bool false, .slice none 0 0, .slice none 0 0] 24)).below b5
               replace f4 := (f4.alloc (.cells #[.bool false, .slice none 0 0, .slice none 0 0] 24)).below b5
               replace yv := bthen (below_alloc yv (.cells #[.bool false, .slice none 0 0, .slice none 0 0] 24)) b5
               replace yu := bthen (below_alloc yu (.cells #[.bool false, .slice none 0 0, .slice none 0 0] 24)) b5
               (try have t0 := zb.c0)
               (try have t1 := zb.c1)
               (try have t2 := zb.c2)
               (try have v0 := zb.fz 0)
               (try have v1 := zb.fz 1)
               (try have v2 := zb.fz 2)
               (try have my1 := y1.put (g' := _) (Nat.ne_of_lt (Nat.lt_of_lt_of_le x1.lt zg)) (.bool s5) (.slice A9 n9 c9) (.slice A10 n10 c10))
               (try have my2 := y2.put (g' := _) (Nat.ne_of_lt (Nat.lt_of_lt_of_le x2.lt zg)) (.bool s5) (.slice A9 n9 c9) (.slice A10 n10 c10))
               (try have my3 := y3.put (g' := _) (Nat.ne_of_lt (Nat.lt_of_lt_of_le x3.lt zg)) (.bool s5) (.slice A9 n9 c9) (.slice A10 n10 c10))
               (try have KF := And.intro my1.c0 (And.intro my1.c1 (And.intro my1.c2 (And.intro my2.c0 (And.intro my2.c1 (And.intro my2.c2 (And.intro my3.c0 (And.intro my3.c1 (my3.c2)))))))))
               (try unfold put3 at KF)))
        all_goals
          go_wp2_with fail
          go_meet
          first
            | exact BoxPost.put f5 zb yv zg
            | exact BoxPost.new f5 yv
    case rest =>
      obtain ⟨G12, s12, A23, n23, c23, A24, n24, c24, rfl, x12, f12, b5⟩ := hcut
      obtain ⟨V4, rfl⟩ : ∃ V4 : World, V4 = wc := ⟨_, rfl⟩
      replace x1 := x1.below b5
      replace x2 := x2.below b5
      replace x3 := x3.below b5
      replace h1 := h1.below b5
      replace h2 := h2.below b5
      replace h3 := h3.below b5
      replace x11 := x11.below b5
      replace f11 := f11.below b5
      replace uu := bthen uu b5
      have x1p0 := x1.c0
      have x1p1 := x1.c1
      have x1p2 := x1.c2
      have x2p0 := x2.c0
      have x2p1 := x2.c1
      have x2p2 := x2.c2
      have x3p0 := x3.c0
      have x3p1 := x3.c1
      have x3p2 := x3.c2
      clear x1p0 x1p1 x1p2 x2p0 x2p1 x2p2 x3p0 x3p1 x3p2
      go_upto_region 5 with fail
      go_cut [9] (fun sv wx => BoxPost (p * q * r) V4 sv wx)
      case first =>
        as_aux_lemma =>
          have y1 := x1.drew
          have y2 := x2.drew
          have y3 := x3.drew
          have g3 := h3.drew
          have yu := below_drew uu
          have yv := below_drew (Below.refl V4.heap.size V4)
          go_region_held3 (fun w' => w'.cell? ⟨w.heap.size, 0, none⟩ = some (.bool s1) ∧ w'.cell? ⟨w.heap.size, 1, none⟩ = some (.slice A1 n1 c1) ∧ w'.cell? ⟨w.heap.size, 2, none⟩ = some (.slice A2 n2 c2) ∧ w'.cell? ⟨w.heap.size + 1, 0, none⟩ = some (.bool s2) ∧ w'.cell? ⟨w.heap.size + 1, 1, none⟩ = some (.slice A3 n3 c3) ∧ w'.cell? ⟨w.heap.size + 1, 2, none⟩ = some (.slice A4 n4 c4) ∧ w'.cell? ⟨w.heap.size + 1 + 1, 0, none⟩ = some (.bool s3) ∧ w'.cell? ⟨w.heap.size + 1 + 1, 1, none⟩ = some (.slice A5 n5 c5) ∧ w'.cell? ⟨w.heap.size + 1 + 1, 2, none⟩ = some (.slice A6 n6 c6))
            (first | (with_reducible exact ⟨x1.c0, x1.c1, x1.c2, x2.c0, x2.c1, x2.c2, x3.c0, x3.c1, x3.c2⟩) | (with_reducible exact ⟨y1.c0, y1.c1, y1.c2, y2.c0, y2.c1, y2.c2, y3.c0, y3.c1, y3.c2⟩) | (with_reducible exact KF) | (with_reducible exact ⟨(y1.alloc _).c0, (y1.alloc _).c1, (y1.alloc _).c2, (y2.alloc _).c0, (y2.alloc _).c1, (y2.alloc _).c2, (y3.alloc _).c0, (y3.alloc _).c1, (y3.alloc _).c2⟩) | (with_reducible exact ⟨(x1.alloc _).drew.c0, (x1.alloc _).drew.c1, (x1.alloc _).drew.c2, (x2.alloc _).drew.c0, (x2.alloc _).drew.c1, (x2.alloc _).drew.c2, (x3.alloc _).drew.c0, (x3.alloc _).drew.c1, (x3.alloc _).drew.c2⟩) | go_keep)
            (first
              | (go_at_call 58
                 (with_reducible refine (Mpq.out _ yu).mono ?_)
                 rintro e w5 ⟨s4, A7, n7, c7, A8, n8, c8, rfl, f4, _, _, b5⟩
                 replace y1 := y1.below b5
                 replace y2 := y2.below b5
                 replace y3 := y3.below b5
                 replace g3 := g3.below b5
                 replace yu := bthen yu b5
                 replace yv := bthen yv b5
                 (try replace zb := zb.below b5)
                 have hn7 : n7 ≤ 1000 := by have := f4.lens; have := Lmpq.out; omega
                 have hn8 : n8 ≤ 1000 := by have := f4.lens; have := Lmpq.out; omega)
              | (go_at_call 58
                 (with_reducible refine (Mpq.out _ (below_drew (below_alloc uu (.cells #[.bool false, .slice none 0 0, .slice none 0 0] 24)))).mono ?_)
                 rintro e w5 ⟨s4, A7, n7, c7, A8, n8, c8, rfl, f4, _, _, b5⟩
                 have y1 := ((x1.alloc (.cells #[.bool false, .slice none 0 0, .slice none 0 0] 24)).drew).below b5
                 have y2 := ((x2.alloc (.cells #[.bool false, .slice none 0 0, .slice none 0 0] 24)).drew).below b5
                 have y3 := ((x3.alloc (.cells #[.bool false, .slice none 0 0, .slice none 0 0] 24)).drew).below b5
                 have g3 := ((h3.alloc (.cells #[.bool false, .slice none 0 0, .slice none 0 0] 24)).drew).below b5
                 have yv := bthen (below_drew (below_alloc (Below.refl V4.heap.size V4) (.cells #[.bool false, .slice none 0 0, .slice none 0 0] 24))) b5
                 have yu := bthen (below_drew (below_alloc uu (.cells #[.bool false, .slice none 0 0, .slice none 0 0] 24))) b5
                 have zg : V4.heap.size ≤ V4.heap.size := Nat.le_refl _
                 have zb := ((Bk.new V4 (.bool false) (.slice none 0 0) (.slice none 0 0) 24).drew).below b5
                 have hn7 : n7 ≤ 1000 := by have := f4.lens; have := Lmpq.out; omega
                 have hn8 : n8 ≤ 1000 := by have := f4.lens; have := Lmpq.out; omega)
              | (go_at_call 58
                 (with_reducible refine (Mul_any s4 s3 A7 A8 A5 A6 n7 n8 n5 n6 c7 c8 c5 c6 _ _ _ f4.rf g3 (by omega) (by omega) (by omega) (by omega)).mono ?_)
                 rintro e w6 ⟨s5, A9, n9, c9, A10, n10, c10, rfl, f5, _, _, b5⟩
                 replace y1 := y1.below b5
                 replace y2 := y2.below b5
                 replace y3 := y3.below b5
                 replace g3 := g3.below b5
                 replace f4 := f4.below b5
                 replace yu := bthen yu b5
                 replace yv := bthen yv b5
                 (try replace zb := zb.below b5)
                 (try have t0 := zb.c0)
                 (try have t1 := zb.c1)
                 (try have t2 := zb.c2)
                 (try have v0 := zb.fz 0)
                 (try have v1 := zb.fz 1)
                 (try have v2 := zb.fz 2)
                 (try have my1 := y1.put (g' := _) (Nat.ne_of_lt (Nat.lt_of_lt_of_le x1.lt zg)) (.bool s5) (.slice A9 n9 c9) (.slice A10 n10 c10))
                 (try have my2 := y2.put (g' := _) (Nat.ne_of_lt (Nat.lt_of_lt_of_le x2.lt zg)) (.bool s5) (.slice A9 n9 c9) (.slice A10 n10 c10))
                 (try have my3 := y3.put (g' := _) (Nat.ne_of_lt (Nat.lt_of_lt_of_le x3.lt zg)) (.bool s5) (.slice A9 n9 c9) (.slice A10 n10 c10))
                 (try have KF := And.intro my1.c0 (And.intro my1.c1 (And.intro my1.c2 (And.intro my2.c0 (And.intro my2.c1 (And.intro my2.c2 (And.intro my3.c0 (And.intro my3.c1 (my3.c2)))))))))
                 (try unfold put3 at KF))
              | (go_at_call 58
                 (with_reducible refine (Mul_any s4 s3 A7 A8 A5 A6 n7 n8 n5 n6 c7 c8 c5 c6 _ _ _ (f4.alloc (.cells #[.bool false, .slice none 0 0, .slice none 0 0] 24)).rf (g3.alloc (.cells #[.bool false, .slice none 0 0, .slice none 0 0] 24)) (by omega) (by omega) (by omega) (by omega)).mono ?_)
                 rintro e w6 ⟨s5, A9, n9, c9, A10, n10, c10, rfl, f5, _, _, b5⟩
                 have zg := yv.size
                 have zb := (Bk.new w5 (.bool false) (.slice none 0 0) (.slice none 0 0) 24).below b5
                 replace y1 := (y1.alloc (.cells #[.bool false, .slice none 0 0, .slice none 0 0] 24)).below b5
                 replace y2 := (y2.alloc (.cells #[.bool false, .slice none 0 0, .slice none 0 0] 24)).below b5
                 replace y3 := (y3.alloc (.cells #[.bool false, .slice none 0 0, .slice none 0 0] 24)).below b5
                 replace g3 := (g3.alloc (.cells #[.bool false, .slice none 0 0, .slice none 0 0] 24)).below b5
                 replace f4 := (f4.alloc (.cells #[.bool false, .slice none 0 0, .slice none 0 0] 24)).below b5
                 replace yv := bthen (below_alloc yv (.cells #[.bool false, .slice none 0 0, .slice none 0 0] 24)) b5
                 replace yu := bthen (below_alloc yu (.cells #[.bool false, .slice none 0 0, .slice none 0 0] 24)) b5
                 (try have t0 := zb.c0)
                 (try have t1 := zb.c1)
                 (try have t2 := zb.c2)
                 (try have v0 := zb.fz 0)
                 (try have v1 := zb.fz 1)
                 (try have v2 := zb.fz 2)
                 (try have my1 := y1.put (g' := _) (Nat.ne_of_lt (Nat.lt_of_lt_of_le x1.lt zg)) (.bool s5) (.slice A9 n9 c9) (.slice A10 n10 c10))
                 (try have my2 := y2.put (g' := _) (Nat.ne_of_lt (Nat.lt_of_lt_of_le x2.lt zg)) (.bool s5) (.slice A9 n9 c9) (.slice A10 n10 c10))
                 (try have my3 := y3.put (g' := _) (Nat.ne_of_lt (Nat.lt_of_lt_of_le x3.lt zg)) (.bool s5) (.slice A9 n9 c9) (.slice A10 n10 c10))
                 (try have KF := And.intro my1.c0 (And.intro my1.c1 (And.intro my1.c2 (And.intro my2.c0 (And.intro my2.c1 (And.intro my2.c2 (And.intro my3.c0 (And.intro my3.c1 (my3.c2)))))))))
                 (try unfold put3 at KF)))
          all_goals
            go_wp2_with fail
            go_meet
            first
              | exact BoxPost.put f5 zb yv zg
              | exact BoxPost.new f5 yv
      case rest =>
        obtain ⟨G13, s13, A25, n25, c25, A26, n26, c26, rfl, x13, f13, b5⟩ := hcut
        obtain ⟨V5, rfl⟩ : ∃ V5 : World, V5 = wc := ⟨_, rfl⟩
        replace x1 := x1.below b5
        replace x2 := x2.below b5
        replace x3 := x3.below b5
        replace h1 := h1.below b5
        replace h2 := h2.below b5
        replace h3 := h3.below b5
        replace x11 := x11.below b5
        replace f11 := f11.below b5
        replace x12 := x12.below b5
        replace f12 := f12.below b5
        replace uu := bthen uu b5
        have x1p0 := x1.c0
        have x1p1 := x1.c1
        have x1p2 := x1.c2
        have x2p0 := x2.c0
        have x2p1 := x2.c1
        have x2p2 := x2.c2
        have x3p0 := x3.c0
        have x3p1 := x3.c1
        have x3p2 := x3.c2
        clear x1p0 x1p1 x1p2 x2p0 x2p1 x2p2 x3p0 x3p1 x3p2
        go_upto_region 6 with fail
        go_cut [10] (fun sv wx => BoxPost (p * q * r) V5 sv wx)
        case first =>
          as_aux_lemma =>
            have y1 := x1.drew
            have y2 := x2.drew
            have y3 := x3.drew
            have g2 := h2.drew
            have yu := below_drew uu
            have yv := below_drew (Below.refl V5.heap.size V5)
            go_region_held3 (fun w' => w'.cell? ⟨w.heap.size, 0, none⟩ = some (.bool s1) ∧ w'.cell? ⟨w.heap.size, 1, none⟩ = some (.slice A1 n1 c1) ∧ w'.cell? ⟨w.heap.size, 2, none⟩ = some (.slice A2 n2 c2) ∧ w'.cell? ⟨w.heap.size + 1, 0, none⟩ = some (.bool s2) ∧ w'.cell? ⟨w.heap.size + 1, 1, none⟩ = some (.slice A3 n3 c3) ∧ w'.cell? ⟨w.heap.size + 1, 2, none⟩ = some (.slice A4 n4 c4) ∧ w'.cell? ⟨w.heap.size + 1 + 1, 0, none⟩ = some (.bool s3) ∧ w'.cell? ⟨w.heap.size + 1 + 1, 1, none⟩ = some (.slice A5 n5 c5) ∧ w'.cell? ⟨w.heap.size + 1 + 1, 2, none⟩ = some (.slice A6 n6 c6))
              (first | (with_reducible exact ⟨x1.c0, x1.c1, x1.c2, x2.c0, x2.c1, x2.c2, x3.c0, x3.c1, x3.c2⟩) | (with_reducible exact ⟨y1.c0, y1.c1, y1.c2, y2.c0, y2.c1, y2.c2, y3.c0, y3.c1, y3.c2⟩) | (with_reducible exact KF) | (with_reducible exact ⟨(y1.alloc _).c0, (y1.alloc _).c1, (y1.alloc _).c2, (y2.alloc _).c0, (y2.alloc _).c1, (y2.alloc _).c2, (y3.alloc _).c0, (y3.alloc _).c1, (y3.alloc _).c2⟩) | (with_reducible exact ⟨(x1.alloc _).drew.c0, (x1.alloc _).drew.c1, (x1.alloc _).drew.c2, (x2.alloc _).drew.c0, (x2.alloc _).drew.c1, (x2.alloc _).drew.c2, (x3.alloc _).drew.c0, (x3.alloc _).drew.c1, (x3.alloc _).drew.c2⟩) | go_keep)
              (first
                | (go_at_call 58
                   (with_reducible refine (Mpr.out _ yu).mono ?_)
                   rintro e w5 ⟨s4, A7, n7, c7, A8, n8, c8, rfl, f4, _, _, b5⟩
                   replace y1 := y1.below b5
                   replace y2 := y2.below b5
                   replace y3 := y3.below b5
                   replace g2 := g2.below b5
                   replace yu := bthen yu b5
                   replace yv := bthen yv b5
                   (try replace zb := zb.below b5)
                   have hn7 : n7 ≤ 1000 := by have := f4.lens; have := Lmpr.out; omega
                   have hn8 : n8 ≤ 1000 := by have := f4.lens; have := Lmpr.out; omega)
                | (go_at_call 58
                   (with_reducible refine (Mpr.out _ (below_drew (below_alloc uu (.cells #[.bool false, .slice none 0 0, .slice none 0 0] 24)))).mono ?_)
                   rintro e w5 ⟨s4, A7, n7, c7, A8, n8, c8, rfl, f4, _, _, b5⟩
                   have y1 := ((x1.alloc (.cells #[.bool false, .slice none 0 0, .slice none 0 0] 24)).drew).below b5
                   have y2 := ((x2.alloc (.cells #[.bool false, .slice none 0 0, .slice none 0 0] 24)).drew).below b5
                   have y3 := ((x3.alloc (.cells #[.bool false, .slice none 0 0, .slice none 0 0] 24)).drew).below b5
                   have g2 := ((h2.alloc (.cells #[.bool false, .slice none 0 0, .slice none 0 0] 24)).drew).below b5
                   have yv := bthen (below_drew (below_alloc (Below.refl V5.heap.size V5) (.cells #[.bool false, .slice none 0 0, .slice none 0 0] 24))) b5
                   have yu := bthen (below_drew (below_alloc uu (.cells #[.bool false, .slice none 0 0, .slice none 0 0] 24))) b5
                   have zg : V5.heap.size ≤ V5.heap.size := Nat.le_refl _
                   have zb := ((Bk.new V5 (.bool false) (.slice none 0 0) (.slice none 0 0) 24).drew).below b5
                   have hn7 : n7 ≤ 1000 := by have := f4.lens; have := Lmpr.out; omega
                   have hn8 : n8 ≤ 1000 := by have := f4.lens; have := Lmpr.out; omega)
                | (go_at_call 58
                   (with_reducible refine (Mul_any s2 s4 A3 A4 A7 A8 n3 n4 n7 n8 c3 c4 c7 c8 _ _ _ g2 f4.rf (by omega) (by omega) (by omega) (by omega)).mono ?_)
                   rintro e w6 ⟨s5, A9, n9, c9, A10, n10, c10, rfl, f5, _, _, b5⟩
                   rw [HM.out] at f5
                   replace y1 := y1.below b5
                   replace y2 := y2.below b5
                   replace y3 := y3.below b5
                   replace g2 := g2.below b5
                   replace f4 := f4.below b5
                   replace yu := bthen yu b5
                   replace yv := bthen yv b5
                   (try replace zb := zb.below b5)
                   (try have t0 := zb.c0)
                   (try have t1 := zb.c1)
                   (try have t2 := zb.c2)
                   (try have v0 := zb.fz 0)
                   (try have v1 := zb.fz 1)
                   (try have v2 := zb.fz 2)
                   (try have my1 := y1.put (g' := _) (Nat.ne_of_lt (Nat.lt_of_lt_of_le x1.lt zg)) (.bool s5) (.slice A9 n9 c9) (.slice A10 n10 c10))
                   (try have my2 := y2.put (g' := _) (Nat.ne_of_lt (Nat.lt_of_lt_of_le x2.lt zg)) (.bool s5) (.slice A9 n9 c9) (.slice A10 n10 c10))
                   (try have my3 := y3.put (g' := _) (Nat.ne_of_lt (Nat.lt_of_lt_of_le x3.lt zg)) (.bool s5) (.slice A9 n9 c9) (.slice A10 n10 c10))
                   (try have KF := And.intro my1.c0 (And.intro my1.c1 (And.intro my1.c2 (And.intro my2.c0 (And.intro my2.c1 (And.intro my2.c2 (And.intro my3.c0 (And.intro my3.c1 (my3.c2)))))))))
                   (try unfold put3 at KF))
                | (go_at_call 58
                   (with_reducible refine (Mul_any s2 s4 A3 A4 A7 A8 n3 n4 n7 n8 c3 c4 c7 c8 _ _ _ (g2.alloc (.cells #[.bool false, .slice none 0 0, .slice none 0 0] 24)) (f4.alloc (.cells #[.bool false, .slice none 0 0, .slice none 0 0] 24)).rf (by omega) (by omega) (by omega) (by omega)).mono ?_)
                   rintro e w6 ⟨s5, A9, n9, c9, A10, n10, c10, rfl, f5, _, _, b5⟩
                   rw [HM.out] at f5
                   have zg := yv.size
                   have zb := (Bk.new w5 (.bool false) (.slice none 0 0) (.slice none 0 0) 24).below b5
                   replace y1 := (y1.alloc (.cells #[.bool false, .slice none 0 0, .slice none 0 0] 24)).below b5
                   replace y2 := (y2.alloc (.cells #[.bool false, .slice none 0 0, .slice none 0 0] 24)).below b5
                   replace y3 := (y3.alloc (.cells #[.bool false, .slice none 0 0, .slice none 0 0] 24)).below b5
                   replace g2 := (g2.alloc (.cells #[.bool false, .slice none 0 0, .slice none 0 0] 24)).below b5
                   replace f4 := (f4.alloc (.cells #[.bool false, .slice none 0 0, .slice none 0 0] 24)).below b5
                   replace yv := bthen (below_alloc yv (.cells #[.bool false, .slice none 0 0, .slice none 0 0] 24)) b5
                   replace yu := bthen (below_alloc yu (.cells #[.bool false, .slice none 0 0, .slice none 0 0] 24)) b5
                   (try have t0 := zb.c0)
                   (try have t1 := zb.c1)
                   (try have t2 := zb.c2)
                   (try have v0 := zb.fz 0)
                   (try have v1 := zb.fz 1)
                   (try have v2 := zb.fz 2)
                   (try have my1 := y1.put (g' := _) (Nat.ne_of_lt (Nat.lt_of_lt_of_le x1.lt zg)) (.bool s5) (.slice A9 n9 c9) (.slice A10 n10 c10))
                   (try have my2 := y2.put (g' := _) (Nat.ne_of_lt (Nat.lt_of_lt_of_le x2.lt zg)) (.bool s5) (.slice A9 n9 c9) (.slice A10 n10 c10))
                   (try have my3 := y3.put (g' := _) (Nat.ne_of_lt (Nat.lt_of_lt_of_le x3.lt zg)) (.bool s5) (.slice A9 n9 c9) (.slice A10 n10 c10))
                   (try have KF := And.intro my1.c0 (And.intro my1.c1 (And.intro my1.c2 (And.intro my2.c0 (And.intro my2.c1 (And.intro my2.c2 (And.intro my3.c0 (And.intro my3.c1 (my3.c2)))))))))
                   (try unfold put3 at KF)))
            all_goals
              go_wp2_with fail
              go_meet
              first
                | exact BoxPost.put f5 zb yv zg
                | exact BoxPost.new f5 yv
        case rest =>
          obtain ⟨G14, s14, A27, n27, c27, A28, n28, c28, rfl, x14, f14, b5⟩ := hcut
          obtain ⟨V6, rfl⟩ : ∃ V6 : World, V6 = wc := ⟨_, rfl⟩
          replace x1 := x1.below b5
          replace x2 := x2.below b5
          replace x3 := x3.below b5
          replace h1 := h1.below b5
          replace h2 := h2.below b5
          replace h3 := h3.below b5
          replace x11 := x11.below b5
          replace f11 := f11.below b5
          replace x12 := x12.below b5
          replace f12 := f12.below b5
          replace x13 := x13.below b5
          replace f13 := f13.below b5
          replace uu := bthen uu b5
          have x1p0 := x1.c0
          have x1p1 := x1.c1
          have x1p2 := x1.c2
          have x2p0 := x2.c0
          have x2p1 := x2.c1
          have x2p2 := x2.c2
          have x3p0 := x3.c0
          have x3p1 := x3.c1
          have x3p2 := x3.c2
          clear x1p0 x1p1 x1p2 x2p0 x2p1 x2p2 x3p0 x3p1 x3p2
          go_upto_region 7 with fail
          go_cut [11] (fun sv wx => BoxPost (p * (q + r)) V6 sv wx)
          case first =>
            as_aux_lemma =>
              have y1 := x1.drew
              have y2 := x2.drew
              have y3 := x3.drew
              have g1 := h1.drew
              have yu := below_drew uu
              have yv := below_drew (Below.refl V6.heap.size V6)
              go_region_held3 (fun w' => w'.cell? ⟨w.heap.size, 0, none⟩ = some (.bool s1) ∧ w'.cell? ⟨w.heap.size, 1, none⟩ = some (.slice A1 n1 c1) ∧ w'.cell? ⟨w.heap.size, 2, none⟩ = some (.slice A2 n2 c2) ∧ w'.cell? ⟨w.heap.size + 1, 0, none⟩ = some (.bool s2) ∧ w'.cell? ⟨w.heap.size + 1, 1, none⟩ = some (.slice A3 n3 c3) ∧ w'.cell? ⟨w.heap.size + 1, 2, none⟩ = some (.slice A4 n4 c4) ∧ w'.cell? ⟨w.heap.size + 1 + 1, 0, none⟩ = some (.bool s3) ∧ w'.cell? ⟨w.heap.size + 1 + 1, 1, none⟩ = some (.slice A5 n5 c5) ∧ w'.cell? ⟨w.heap.size + 1 + 1, 2, none⟩ = some (.slice A6 n6 c6))
                (first | (with_reducible exact ⟨x1.c0, x1.c1, x1.c2, x2.c0, x2.c1, x2.c2, x3.c0, x3.c1, x3.c2⟩) | (with_reducible exact ⟨y1.c0, y1.c1, y1.c2, y2.c0, y2.c1, y2.c2, y3.c0, y3.c1, y3.c2⟩) | (with_reducible exact KF) | (with_reducible exact ⟨(y1.alloc _).c0, (y1.alloc _).c1, (y1.alloc _).c2, (y2.alloc _).c0, (y2.alloc _).c1, (y2.alloc _).c2, (y3.alloc _).c0, (y3.alloc _).c1, (y3.alloc _).c2⟩) | (with_reducible exact ⟨(x1.alloc _).drew.c0, (x1.alloc _).drew.c1, (x1.alloc _).drew.c2, (x2.alloc _).drew.c0, (x2.alloc _).drew.c1, (x2.alloc _).drew.c2, (x3.alloc _).drew.c0, (x3.alloc _).drew.c1, (x3.alloc _).drew.c2⟩) | go_keep)
                (first
                  | (go_at_call 52
                     (with_reducible refine (Aqr.out _ yu).mono ?_)
                     rintro e w5 ⟨s4, A7, n7, c7, A8, n8, c8, rfl, f4, _, _, b5⟩
                     replace y1 := y1.below b5
                     replace y2 := y2.below b5
                     replace y3 := y3.below b5
                     replace g1 := g1.below b5
                     replace yu := bthen yu b5
                     replace yv := bthen yv b5
                     (try replace zb := zb.below b5)
                     have hn7 : n7 ≤ 1000 := by have := f4.lens; have := Lqr.out; omega
                     have hn8 : n8 ≤ 1000 := by have := f4.lens; have := Lqr.out; omega)
                  | (go_at_call 52
                     (with_reducible refine (Aqr.out _ (below_drew (below_alloc uu (.cells #[.bool false, .slice none 0 0, .slice none 0 0] 24)))).mono ?_)
                     rintro e w5 ⟨s4, A7, n7, c7, A8, n8, c8, rfl, f4, _, _, b5⟩
                     have y1 := ((x1.alloc (.cells #[.bool false, .slice none 0 0, .slice none 0 0] 24)).drew).below b5
                     have y2 := ((x2.alloc (.cells #[.bool false, .slice none 0 0, .slice none 0 0] 24)).drew).below b5
                     have y3 := ((x3.alloc (.cells #[.bool false, .slice none 0 0, .slice none 0 0] 24)).drew).below b5
                     have g1 := ((h1.alloc (.cells #[.bool false, .slice none 0 0, .slice none 0 0] 24)).drew).below b5
                     have yv := bthen (below_drew (below_alloc (Below.refl V6.heap.size V6) (.cells #[.bool false, .slice none 0 0, .slice none 0 0] 24))) b5
                     have yu := bthen (below_drew (below_alloc uu (.cells #[.bool false, .slice none 0 0, .slice none 0 0] 24))) b5
                     have zg : V6.heap.size ≤ V6.heap.size := Nat.le_refl _
                     have zb := ((Bk.new V6 (.bool false) (.slice none 0 0) (.slice none 0 0) 24).drew).below b5
                     have hn7 : n7 ≤ 1000 := by have := f4.lens; have := Lqr.out; omega
                     have hn8 : n8 ≤ 1000 := by have := f4.lens; have := Lqr.out; omega)
                  | (go_at_call 58
                     (with_reducible refine (Mul_any s1 s4 A1 A2 A7 A8 n1 n2 n7 n8 c1 c2 c7 c8 _ _ _ g1 f4.rf (by omega) (by omega) (by omega) (by omega)).mono ?_)
                     rintro e w6 ⟨s5, A9, n9, c9, A10, n10, c10, rfl, f5, _, _, b5⟩
                     replace y1 := y1.below b5
                     replace y2 := y2.below b5
                     replace y3 := y3.below b5
                     replace g1 := g1.below b5
                     replace f4 := f4.below b5
                     replace yu := bthen yu b5
                     replace yv := bthen yv b5
                     (try replace zb := zb.below b5)
                     (try have t0 := zb.c0)
                     (try have t1 := zb.c1)
                     (try have t2 := zb.c2)
                     (try have v0 := zb.fz 0)
                     (try have v1 := zb.fz 1)
                     (try have v2 := zb.fz 2)
                     (try have my1 := y1.put (g' := _) (Nat.ne_of_lt (Nat.lt_of_lt_of_le x1.lt zg)) (.bool s5) (.slice A9 n9 c9) (.slice A10 n10 c10))
                     (try have my2 := y2.put (g' := _) (Nat.ne_of_lt (Nat.lt_of_lt_of_le x2.lt zg)) (.bool s5) (.slice A9 n9 c9) (.slice A10 n10 c10))
                     (try have my3 := y3.put (g' := _) (Nat.ne_of_lt (Nat.lt_of_lt_of_le x3.lt zg)) (.bool s5) (.slice A9 n9 c9) (.slice A10 n10 c10))
                     (try have KF := And.intro my1.c0 (And.intro my1.c1 (And.intro my1.c2 (And.intro my2.c0 (And.intro my2.c1 (And.intro my2.c2 (And.intro my3.c0 (And.intro my3.c1 (my3.c2)))))))))
                     (try unfold put3 at KF))
                  | (go_at_call 58
                     (with_reducible refine (Mul_any s1 s4 A1 A2 A7 A8 n1 n2 n7 n8 c1 c2 c7 c8 _ _ _ (g1.alloc (.cells #[.bool false, .slice none 0 0, .slice none 0 0] 24)) (f4.alloc (.cells #[.bool false, .slice none 0 0, .slice none 0 0] 24)).rf (by omega) (by omega) (by omega) (by omega)).mono ?_)
                     rintro e w6 ⟨s5, A9, n9, c9, A10, n10, c10, rfl, f5, _, _, b5⟩
                     have zg := yv.size
                     have zb := (Bk.new w5 (.bool false) (.slice none 0 0) (.slice none 0 0) 24).below b5
                     replace y1 := (y1.alloc (.cells #[.bool false, .slice none 0 0, .slice none 0 0] 24)).below b5
                     replace y2 := (y2.alloc (.cells #[.bool false, .slice none 0 0, .slice none 0 0] 24)).below b5
                     replace y3 := (y3.alloc (.cells #[.bool false, .slice none 0 0, .slice none 0 0] 24)).below b5
                     replace g1 := (g1.alloc (.cells #[.bool false, .slice none 0 0, .slice none 0 0] 24)).below b5
                     replace f4 := (f4.alloc (.cells #[.bool false, .slice none 0 0, .slice none 0 0] 24)).below b5
                     replace yv := bthen (below_alloc yv (.cells #[.bool false, .slice none 0 0, .slice none 0 0] 24)) b5
                     replace yu := bthen (below_alloc yu (.cells #[.bool false, .slice none 0 0, .slice none 0 0] 24)) b5
                     (try have t0 := zb.c0)
                     (try have t1 := zb.c1)
                     (try have t2 := zb.c2)
                     (try have v0 := zb.fz 0)
                     (try have v1 := zb.fz 1)
                     (try have v2 := zb.fz 2)
                     (try have my1 := y1.put (g' := _) (Nat.ne_of_lt (Nat.lt_of_lt_of_le x1.lt zg)) (.bool s5) (.slice A9 n9 c9) (.slice A10 n10 c10))
                     (try have my2 := y2.put (g' := _) (Nat.ne_of_lt (Nat.lt_of_lt_of_le x2.lt zg)) (.bool s5) (.slice A9 n9 c9) (.slice A10 n10 c10))
                     (try have my3 := y3.put (g' := _) (Nat.ne_of_lt (Nat.lt_of_lt_of_le x3.lt zg)) (.bool s5) (.slice A9 n9 c9) (.slice A10 n10 c10))
                     (try have KF := And.intro my1.c0 (And.intro my1.c1 (And.intro my1.c2 (And.intro my2.c0 (And.intro my2.c1 (And.intro my2.c2 (And.intro my3.c0 (And.intro my3.c1 (my3.c2)))))))))
                     (try unfold put3 at KF)))
              all_goals
                go_wp2_with fail
                go_meet
                first
                  | exact BoxPost.put f5 zb yv zg
                  | exact BoxPost.new f5 yv
          case rest =>
            obtain ⟨G15, s15, A29, n29, c29, A30, n30, c30, rfl, x15, f15, b5⟩ := hcut
            obtain ⟨V7, rfl⟩ : ∃ V7 : World, V7 = wc := ⟨_, rfl⟩
            replace x1 := x1.below b5
            replace x2 := x2.below b5
            replace x3 := x3.below b5
            replace h1 := h1.below b5
            replace h2 := h2.below b5
            replace h3 := h3.below b5
            replace x11 := x11.below b5
            replace f11 := f11.below b5
            replace x12 := x12.below b5
            replace f12 := f12.below b5
            replace x13 := x13.below b5
            replace f13 := f13.below b5
            replace x14 := x14.below b5
            replace f14 := f14.below b5
            replace uu := bthen uu b5
            have x1p0 := x1.c0
            have x1p1 := x1.c1
            have x1p2 := x1.c2
            have x2p0 := x2.c0
            have x2p1 := x2.c1
            have x2p2 := x2.c2
            have x3p0 := x3.c0
            have x3p1 := x3.c1
            have x3p2 := x3.c2
            clear x1p0 x1p1 x1p2 x2p0 x2p1 x2p2 x3p0 x3p1 x3p2
            go_upto_region 8 with fail
            go_cut [12] (fun sv wx => BoxPost (p * (q + r)) V7 sv wx)
            case first =>
              as_aux_lemma =>
                have y1 := x1.drew
                have y2 := x2.drew
                have y3 := x3.drew
                have yu := below_drew uu
                have yv := below_drew (Below.refl V7.heap.size V7)
                go_region_held3 (fun w' => w'.cell? ⟨w.heap.size, 0, none⟩ = some (.bool s1) ∧ w'.cell? ⟨w.heap.size, 1, none⟩ = some (.slice A1 n1 c1) ∧ w'.cell? ⟨w.heap.size, 2, none⟩ = some (.slice A2 n2 c2) ∧ w'.cell? ⟨w.heap.size + 1, 0, none⟩ = some (.bool s2) ∧ w'.cell? ⟨w.heap.size + 1, 1, none⟩ = some (.slice A3 n3 c3) ∧ w'.cell? ⟨w.heap.size + 1, 2, none⟩ = some (.slice A4 n4 c4) ∧ w'.cell? ⟨w.heap.size + 1 + 1, 0, none⟩ = some (.bool s3) ∧ w'.cell? ⟨w.heap.size + 1 + 1, 1, none⟩ = some (.slice A5 n5 c5) ∧ w'.cell? ⟨w.heap.size + 1 + 1, 2, none⟩ = some (.slice A6 n6 c6))
                  (first | (with_reducible exact ⟨x1.c0, x1.c1, x1.c2, x2.c0, x2.c1, x2.c2, x3.c0, x3.c1, x3.c2⟩) | (with_reducible exact ⟨y1.c0, y1.c1, y1.c2, y2.c0, y2.c1, y2.c2, y3.c0, y3.c1, y3.c2⟩) | (with_reducible exact KF) | (with_reducible exact ⟨(y1.alloc _).c0, (y1.alloc _).c1, (y1.alloc _).c2, (y2.alloc _).c0, (y2.alloc _).c1, (y2.alloc _).c2, (y3.alloc _).c0, (y3.alloc _).c1, (y3.alloc _).c2⟩) | (with_reducible exact ⟨(x1.alloc _).drew.c0, (x1.alloc _).drew.c1, (x1.alloc _).drew.c2, (x2.alloc _).drew.c0, (x2.alloc _).drew.c1, (x2.alloc _).drew.c2, (x3.alloc _).drew.c0, (x3.alloc _).drew.c1, (x3.alloc _).drew.c2⟩) | go_keep)
                  (first
                    | (go_at_call 58
                       (with_reducible refine (Mpq.out _ yu).mono ?_)
                       rintro e w5 ⟨s4, A7, n7, c7, A8, n8, c8, rfl, f4, _, _, b5⟩
                       replace y1 := y1.below b5
                       replace y2 := y2.below b5
                       replace y3 := y3.below b5
                       replace yu := bthen yu b5
                       replace yv := bthen yv b5
                       (try replace zb := zb.below b5)
                       have hn7 : n7 ≤ 1000 := by have := f4.lens; have := Lmpq.out; omega
                       have hn8 : n8 ≤ 1000 := by have := f4.lens; have := Lmpq.out; omega)
                    | (go_at_call 58
                       (with_reducible refine (Mpq.out _ (below_drew (below_alloc uu (.cells #[.bool false, .slice none 0 0, .slice none 0 0] 24)))).mono ?_)
                       rintro e w5 ⟨s4, A7, n7, c7, A8, n8, c8, rfl, f4, _, _, b5⟩
                       have y1 := ((x1.alloc (.cells #[.bool false, .slice none 0 0, .slice none 0 0] 24)).drew).below b5
                       have y2 := ((x2.alloc (.cells #[.bool false, .slice none 0 0, .slice none 0 0] 24)).drew).below b5
                       have y3 := ((x3.alloc (.cells #[.bool false, .slice none 0 0, .slice none 0 0] 24)).drew).below b5
                       have yv := bthen (below_drew (below_alloc (Below.refl V7.heap.size V7) (.cells #[.bool false, .slice none 0 0, .slice none 0 0] 24))) b5
                       have yu := bthen (below_drew (below_alloc uu (.cells #[.bool false, .slice none 0 0, .slice none 0 0] 24))) b5
                       have zg : V7.heap.size ≤ V7.heap.size := Nat.le_refl _
                       have zb := ((Bk.new V7 (.bool false) (.slice none 0 0) (.slice none 0 0) 24).drew).below b5
                       have hn7 : n7 ≤ 1000 := by have := f4.lens; have := Lmpq.out; omega
                       have hn8 : n8 ≤ 1000 := by have := f4.lens; have := Lmpq.out; omega)
                    | (go_at_call 58
                       (with_reducible refine (Mrp.out _ yu).mono ?_)
                       rintro e w6 ⟨s5, A9, n9, c9, A10, n10, c10, rfl, f5, _, _, b5⟩
                       replace y1 := y1.below b5
                       replace y2 := y2.below b5
                       replace y3 := y3.below b5
                       replace f4 := f4.below b5
                       replace yu := bthen yu b5
                       replace yv := bthen yv b5
                       (try replace zb := zb.below b5)
                       have hn9 : n9 ≤ 1000 := by have := f5.lens; have := Lmrp.out; omega
                       have hn10 : n10 ≤ 1000 := by have := f5.lens; have := Lmrp.out; omega)
                    | (go_at_call 58
                       (with_reducible refine (Mrp.out _ (below_alloc yu (.cells #[.bool false, .slice none 0 0, .slice none 0 0] 24))).mono ?_)
                       rintro e w6 ⟨s5, A9, n9, c9, A10, n10, c10, rfl, f5, _, _, b5⟩
                       have zg := yv.size
                       have zb := (Bk.new w5 (.bool false) (.slice none 0 0) (.slice none 0 0) 24).below b5
                       replace y1 := (y1.alloc (.cells #[.bool false, .slice none 0 0, .slice none 0 0] 24)).below b5
                       replace y2 := (y2.alloc (.cells #[.bool false, .slice none 0 0, .slice none 0 0] 24)).below b5
                       replace y3 := (y3.alloc (.cells #[.bool false, .slice none 0 0, .slice none 0 0] 24)).below b5
                       replace f4 := (f4.alloc (.cells #[.bool false, .slice none 0 0, .slice none 0 0] 24)).below b5
                       replace yv := bthen (below_alloc yv (.cells #[.bool false, .slice none 0 0, .slice none 0 0] 24)) b5
                       replace yu := bthen (below_alloc yu (.cells #[.bool false, .slice none 0 0, .slice none 0 0] 24)) b5
                       have hn9 : n9 ≤ 1000 := by have := f5.lens; have := Lmrp.out; omega
                       have hn10 : n10 ≤ 1000 := by have := f5.lens; have := Lmrp.out; omega)
                    | (go_at_call 52
                       (with_reducible refine (Add_any s4 s5 A7 A8 A9 A10 n7 n8 n9 n10 c7 c8 c9 c10 _ _ _ f4.rf f5.rf (by omega) (by omega) (by omega) (by omega)).mono ?_)
                       rintro e w7 ⟨s6, A11, n11, c11, A12, n12, c12, rfl, f6, _, _, b5⟩
                       rw [HD.out] at f6
                       replace y1 := y1.below b5
                       replace y2 := y2.below b5
                       replace y3 := y3.below b5
                       replace f4 := f4.below b5
                       replace f5 := f5.below b5
                       replace yu := bthen yu b5
                       replace yv := bthen yv b5
                       (try replace zb := zb.below b5)
                       (try have t0 := zb.c0)
                       (try have t1 := zb.c1)
                       (try have t2 := zb.c2)
                       (try have v0 := zb.fz 0)
                       (try have v1 := zb.fz 1)
                       (try have v2 := zb.fz 2)
                       (try have my1 := y1.put (g' := _) (Nat.ne_of_lt (Nat.lt_of_lt_of_le x1.lt zg)) (.bool s6) (.slice A11 n11 c11) (.slice A12 n12 c12))
                       (try have my2 := y2.put (g' := _) (Nat.ne_of_lt (Nat.lt_of_lt_of_le x2.lt zg)) (.bool s6) (.slice A11 n11 c11) (.slice A12 n12 c12))
                       (try have my3 := y3.put (g' := _) (Nat.ne_of_lt (Nat.lt_of_lt_of_le x3.lt zg)) (.bool s6) (.slice A11 n11 c11) (.slice A12 n12 c12))
                       (try have KF := And.intro my1.c0 (And.intro my1.c1 (And.intro my1.c2 (And.intro my2.c0 (And.intro my2.c1 (And.intro my2.c2 (And.intro my3.c0 (And.intro my3.c1 (my3.c2)))))))))
                       (try unfold put3 at KF))
                    | (go_at_call 52
                       (with_reducible refine (Add_any s4 s5 A7 A8 A9 A10 n7 n8 n9 n10 c7 c8 c9 c10 _ _ _ (f4.alloc (.cells #[.bool false, .slice none 0 0, .slice none 0 0] 24)).rf (f5.alloc (.cells #[.bool false, .slice none 0 0, .slice none 0 0] 24)).rf (by omega) (by omega) (by omega) (by omega)).mono ?_)
                       rintro e w7 ⟨s6, A11, n11, c11, A12, n12, c12, rfl, f6, _, _, b5⟩
                       rw [HD.out] at f6
                       have zg := yv.size
                       have zb := (Bk.new w6 (.bool false) (.slice none 0 0) (.slice none 0 0) 24).below b5
                       replace y1 := (y1.alloc (.cells #[.bool false, .slice none 0 0, .slice none 0 0] 24)).below b5
                       replace y2 := (y2.alloc (.cells #[.bool false, .slice none 0 0, .slice none 0 0] 24)).below b5
                       replace y3 := (y3.alloc (.cells #[.bool false, .slice none 0 0, .slice none 0 0] 24)).below b5
                       replace f4 := (f4.alloc (.cells #[.bool false, .slice none 0 0, .slice none 0 0] 24)).below b5
                       replace f5 := (f5.alloc (.cells #[.bool false, .slice none 0 0, .slice none 0 0] 24)).below b5
                       replace yv := bthen (below_alloc yv (.cells #[.bool false, .slice none 0 0, .slice none 0 0] 24)) b5
                       replace yu := bthen (below_alloc yu (.cells #[.bool false, .slice none 0 0, .slice none 0 0] 24)) b5
                       (try have t0 := zb.c0)
                       (try have t1 := zb.c1)
                       (try have t2 := zb.c2)
                       (try have v0 := zb.fz 0)
                       (try have v1 := zb.fz 1)
                       (try have v2 := zb.fz 2)
                       (try have my1 := y1.put (g' := _) (Nat.ne_of_lt (Nat.lt_of_lt_of_le x1.lt zg)) (.bool s6) (.slice A11 n11 c11) (.slice A12 n12 c12))
                       (try have my2 := y2.put (g' := _) (Nat.ne_of_lt (Nat.lt_of_lt_of_le x2.lt zg)) (.bool s6) (.slice A11 n11 c11) (.slice A12 n12 c12))
                       (try have my3 := y3.put (g' := _) (Nat.ne_of_lt (Nat.lt_of_lt_of_le x3.lt zg)) (.bool s6) (.slice A11 n11 c11) (.slice A12 n12 c12))
                       (try have KF := And.intro my1.c0 (And.intro my1.c1 (And.intro my1.c2 (And.intro my2.c0 (And.intro my2.c1 (And.intro my2.c2 (And.intro my3.c0 (And.intro my3.c1 (my3.c2)))))))))
                       (try unfold put3 at KF)))
                all_goals
                  go_wp2_with fail
                  go_meet
                  first
                    | exact BoxPost.put f6 zb yv zg
                    | exact BoxPost.new f6 yv
            case rest =>
              obtain ⟨G16, s16, A31, n31, c31, A32, n32, c32, rfl, x16, f16, b5⟩ := hcut
              obtain ⟨V8, rfl⟩ : ∃ V8 : World, V8 = wc := ⟨_, rfl⟩
              replace x1 := x1.below b5
              replace x2 := x2.below b5
              replace x3 := x3.below b5
              replace h1 := h1.below b5
              replace h2 := h2.below b5
              replace h3 := h3.below b5
              replace x11 := x11.below b5
              replace f11 := f11.below b5
              replace x12 := x12.below b5
              replace f12 := f12.below b5
              replace x13 := x13.below b5
              replace f13 := f13.below b5
              replace x14 := x14.below b5
              replace f14 := f14.below b5
              replace x15 := x15.below b5
              replace f15 := f15.below b5
              replace uu := bthen uu b5
              have x1p0 := x1.c0
              have x1p1 := x1.c1
              have x1p2 := x1.c2
              have x2p0 := x2.c0
              have x2p1 := x2.c1
              have x2p2 := x2.c2
              have x3p0 := x3.c0
              have x3p1 := x3.c1
              have x3p2 := x3.c2
              clear x1p0 x1p1 x1p2 x2p0 x2p1 x2p2 x3p0 x3p1 x3p2
              have hn21 : n21 ≤ 1000 := by have := f11.lens; have := Lx.out; omega
              have hn22 : n22 ≤ 1000 := by have := f11.lens; have := Lx.out; omega
              have hn23 : n23 ≤ 1000 := by have := f12.lens; have := Lx.out; omega
              have hn24 : n24 ≤ 1000 := by have := f12.lens; have := Lx.out; omega
              have hn25 : n25 ≤ 1000 := by have := f13.lens; have := Lm.out; omega
              have hn26 : n26 ≤ 1000 := by have := f13.lens; have := Lm.out; omega
              have hn27 : n27 ≤ 1000 := by have := f14.lens; have := Lm.out; omega
              have hn28 : n28 ≤ 1000 := by have := f14.lens; have := Lm.out; omega
              have hn29 : n29 ≤ 1000 := by have := f15.lens; have := Ld.out; omega
              have hn30 : n30 ≤ 1000 := by have := f15.lens; have := Ld.out; omega
              have hn31 : n31 ≤ 1000 := by have := f16.lens; have := Ld.out; omega
              have hn32 : n32 ≤ 1000 := by have := f16.lens; have := Ld.out; omega
              have y1 := x1.drew
              have y2 := x2.drew
              have y3 := x3.drew
              have y11 := x11.drew
              have y12 := x12.drew
              have y13 := x13.drew
              have y14 := x14.drew
              have y15 := x15.drew
              have y16 := x16.drew
              have g11 := f11.below (below_drew (Below.refl _ V8))
              have g12 := f12.below (below_drew (Below.refl _ V8))
              have g13 := f13.below (below_drew (Below.refl _ V8))
              have g14 := f14.below (below_drew (Below.refl _ V8))
              have g15 := f15.below (below_drew (Below.refl _ V8))
              have g16 := f16.below (below_drew (Below.refl _ V8))
              have g2 := h2.drew
              have yu := below_drew uu
              go_wp2_with fail
              go_region_held3 (fun w' => w'.cell? ⟨w.heap.size, 0, none⟩ = some (.bool s1) ∧ w'.cell? ⟨w.heap.size, 1, none⟩ = some (.slice A1 n1 c1) ∧ w'.cell? ⟨w.heap.size, 2, none⟩ = some (.slice A2 n2 c2) ∧ w'.cell? ⟨w.heap.size + 1, 0, none⟩ = some (.bool s2) ∧ w'.cell? ⟨w.heap.size + 1, 1, none⟩ = some (.slice A3 n3 c3) ∧ w'.cell? ⟨w.heap.size + 1, 2, none⟩ = some (.slice A4 n4 c4) ∧ w'.cell? ⟨w.heap.size + 1 + 1, 0, none⟩ = some (.bool s3) ∧ w'.cell? ⟨w.heap.size + 1 + 1, 1, none⟩ = some (.slice A5 n5 c5) ∧ w'.cell? ⟨w.heap.size + 1 + 1, 2, none⟩ = some (.slice A6 n6 c6) ∧ w'.cell? ⟨G11, 0, none⟩ = some (.bool s11) ∧ w'.cell? ⟨G11, 1, none⟩ = some (.slice A21 n21 c21) ∧ w'.cell? ⟨G11, 2, none⟩ = some (.slice A22 n22 c22) ∧ w'.cell? ⟨G12, 0, none⟩ = some (.bool s12) ∧ w'.cell? ⟨G12, 1, none⟩ = some (.slice A23 n23 c23) ∧ w'.cell? ⟨G12, 2, none⟩ = some (.slice A24 n24 c24) ∧ w'.cell? ⟨G13, 0, none⟩ = some (.bool s13) ∧ w'.cell? ⟨G13, 1, none⟩ = some (.slice A25 n25 c25) ∧ w'.cell? ⟨G13, 2, none⟩ = some (.slice A26 n26 c26) ∧ w'.cell? ⟨G14, 0, none⟩ = some (.bool s14) ∧ w'.cell? ⟨G14, 1, none⟩ = some (.slice A27 n27 c27) ∧ w'.cell? ⟨G14, 2, none⟩ = some (.slice A28 n28 c28) ∧ w'.cell? ⟨G15, 0, none⟩ = some (.bool s15) ∧ w'.cell? ⟨G15, 1, none⟩ = some (.slice A29 n29 c29) ∧ w'.cell? ⟨G15, 2, none⟩ = some (.slice A30 n30 c30) ∧ w'.cell? ⟨G16, 0, none⟩ = some (.bool s16) ∧ w'.cell? ⟨G16, 1, none⟩ = some (.slice A31 n31 c31) ∧ w'.cell? ⟨G16, 2, none⟩ = some (.slice A32 n32 c32))
                (first | (with_reducible exact ⟨x1.c0, x1.c1, x1.c2, x2.c0, x2.c1, x2.c2, x3.c0, x3.c1, x3.c2, x11.c0, x11.c1, x11.c2, x12.c0, x12.c1, x12.c2, x13.c0, x13.c1, x13.c2, x14.c0, x14.c1, x14.c2, x15.c0, x15.c1, x15.c2, x16.c0, x16.c1, x16.c2⟩) | (with_reducible exact ⟨y1.c0, y1.c1, y1.c2, y2.c0, y2.c1, y2.c2, y3.c0, y3.c1, y3.c2, y11.c0, y11.c1, y11.c2, y12.c0, y12.c1, y12.c2, y13.c0, y13.c1, y13.c2, y14.c0, y14.c1, y14.c2, y15.c0, y15.c1, y15.c2, y16.c0, y16.c1, y16.c2⟩) | go_keep)
                (first
                  | (go_at_call 22
                     (with_reducible refine (SameFr_any s11 s12 A21 A22 A23 A24 n21 n22 n23 n24 c21 c22 c23 c24 _ _ _ g11 g12 (by omega) (by omega) (by omega) (by omega) true (decide_eq_true rfl).symm).mono ?_)
                     rintro e w5 ⟨rfl, b5⟩
                     replace y1 := y1.below b5
                     replace y2 := y2.below b5
                     replace y3 := y3.below b5
                     replace y11 := y11.below b5
                     replace y12 := y12.below b5
                     replace y13 := y13.below b5
                     replace y14 := y14.below b5
                     replace y15 := y15.below b5
                     replace y16 := y16.below b5
                     replace g11 := g11.below b5
                     replace g12 := g12.below b5
                     replace g13 := g13.below b5
                     replace g14 := g14.below b5
                     replace g15 := g15.below b5
                     replace g16 := g16.below b5
                     replace g2 := g2.below b5
                     replace yu := bthen yu b5)
                  | (go_at_call 22
                     (with_reducible refine (SameFr_any s13 s14 A25 A26 A27 A28 n25 n26 n27 n28 c25 c26 c27 c28 _ _ _ g13 g14 (by omega) (by omega) (by omega) (by omega) true (decide_eq_true rfl).symm).mono ?_)
                     rintro e w5 ⟨rfl, b5⟩
                     replace y1 := y1.below b5
                     replace y2 := y2.below b5
                     replace y3 := y3.below b5
                     replace y11 := y11.below b5
                     replace y12 := y12.below b5
                     replace y13 := y13.below b5
                     replace y14 := y14.below b5
                     replace y15 := y15.below b5
                     replace y16 := y16.below b5
                     replace g11 := g11.below b5
                     replace g12 := g12.below b5
                     replace g13 := g13.below b5
                     replace g14 := g14.below b5
                     replace g15 := g15.below b5
                     replace g16 := g16.below b5
                     replace g2 := g2.below b5
                     replace yu := bthen yu b5)
                  | (go_at_call 22
                     (with_reducible refine (SameFr_any s15 s16 A29 A30 A31 A32 n29 n30 n31 n32 c29 c30 c31 c32 _ _ _ g15 g16 (by omega) (by omega) (by omega) (by omega) true (decide_eq_true rfl).symm).mono ?_)
                     rintro e w5 ⟨rfl, b5⟩
                     replace y1 := y1.below b5
                     replace y2 := y2.below b5
                     replace y3 := y3.below b5
                     replace y11 := y11.below b5
                     replace y12 := y12.below b5
                     replace y13 := y13.below b5
                     replace y14 := y14.below b5
                     replace y15 := y15.below b5
                     replace y16 := y16.below b5
                     replace g11 := g11.below b5
                     replace g12 := g12.below b5
                     replace g13 := g13.below b5
                     replace g14 := g14.below b5
                     replace g15 := g15.below b5
                     replace g16 := g16.below b5
                     replace g2 := g2.below b5
                     replace yu := bthen yu b5)
                  | (go_at_call 52
                     (with_reducible refine (Apq.out _ yu).mono ?_)
                     rintro e w5 ⟨s4, A7, n7, c7, A8, n8, c8, rfl, f4, _, _, b5⟩
                     replace y1 := y1.below b5
                     replace y2 := y2.below b5
                     replace y3 := y3.below b5
                     replace y11 := y11.below b5
                     replace y12 := y12.below b5
                     replace y13 := y13.below b5
                     replace y14 := y14.below b5
                     replace y15 := y15.below b5
                     replace y16 := y16.below b5
                     replace g11 := g11.below b5
                     replace g12 := g12.below b5
                     replace g13 := g13.below b5
                     replace g14 := g14.below b5
                     replace g15 := g15.below b5
                     replace g16 := g16.below b5
                     replace g2 := g2.below b5
                     replace yu := bthen yu b5
                     have hn7 : n7 ≤ 1000 := by have := f4.lens; have := Lpq.out; omega
                     have hn8 : n8 ≤ 1000 := by have := f4.lens; have := Lpq.out; omega)
                  | (go_at_call 54
                     (with_reducible refine (Sub_any s4 s2 A7 A8 A3 A4 n7 n8 n3 n4 c7 c8 c3 c4 _ _ _ f4.rf g2 (by omega) (by omega) (by omega) (by omega)).mono ?_)
                     rintro e w5 ⟨s5, A9, n9, c9, A10, n10, c10, rfl, f5, _, _, b5⟩
                     rw [HS.out] at f5
                     replace y1 := y1.below b5
                     replace y2 := y2.below b5
                     replace y3 := y3.below b5
                     replace y11 := y11.below b5
                     replace y12 := y12.below b5
                     replace y13 := y13.below b5
                     replace y14 := y14.below b5
                     replace y15 := y15.below b5
                     replace y16 := y16.below b5
                     replace g11 := g11.below b5
                     replace g12 := g12.below b5
                     replace g13 := g13.below b5
                     replace g14 := g14.below b5
                     replace g15 := g15.below b5
                     replace g16 := g16.below b5
                     replace g2 := g2.below b5
                     replace yu := bthen yu b5
                     have hn9 : n9 ≤ 1000 := by have := f5.lens; have := Lp.out; omega
                     have hn10 : n10 ≤ 1000 := by have := f5.lens; have := Lp.out; omega)
                  | (go_at_call 59
                     (with_reducible refine (Cp.out _ yu).mono ?_)
                     rintro e w5 ⟨s6, A11, n11, c11, A12, n12, c12, rfl, f6, _, _, b5⟩
                     replace y1 := y1.below b5
                     replace y2 := y2.below b5
                     replace y3 := y3.below b5
                     replace y11 := y11.below b5
                     replace y12 := y12.below b5
                     replace y13 := y13.below b5
                     replace y14 := y14.below b5
                     replace y15 := y15.below b5
                     replace y16 := y16.below b5
                     replace g11 := g11.below b5
                     replace g12 := g12.below b5
                     replace g13 := g13.below b5
                     replace g14 := g14.below b5
                     replace g15 := g15.below b5
                     replace g16 := g16.below b5
                     replace g2 := g2.below b5
                     replace f5 := f5.below b5
                     replace yu := bthen yu b5
                     have hn11 : n11 ≤ 1000 := by have := f6.lens; have := Lp.out; omega
                     have hn12 : n12 ≤ 1000 := by have := f6.lens; have := Lp.out; omega)
                  | (go_at_call 22
                     (with_reducible refine (SameFr_any s5 s6 A9 A10 A11 A12 n9 n10 n11 n12 c9 c10 c11 c12 _ _ _ f5 f6 (by omega) (by omega) (by omega) (by omega) true (decide_eq_true rfl).symm).mono ?_)
                     rintro e w5 ⟨rfl, b5⟩
                     replace y1 := y1.below b5
                     replace y2 := y2.below b5
                     replace y3 := y3.below b5
                     replace y11 := y11.below b5
                     replace y12 := y12.below b5
                     replace y13 := y13.below b5
                     replace y14 := y14.below b5
                     replace y15 := y15.below b5
                     replace y16 := y16.below b5
                     replace g11 := g11.below b5
                     replace g12 := g12.below b5
                     replace g13 := g13.below b5
                     replace g14 := g14.below b5
                     replace g15 := g15.below b5
                     replace g16 := g16.below b5
                     replace g2 := g2.below b5
                     replace yu := bthen yu b5)
                  | (go_at_call 54
                     (with_reducible refine (Spp.out _ yu).mono ?_)
                     rintro e w5 ⟨s7, A13, n13, c13, A14, n14, c14, rfl, f7, _, _, b5⟩
                     rw [HO.out] at f7
                     replace y1 := y1.below b5
                     replace y2 := y2.below b5
                     replace y3 := y3.below b5
                     replace y11 := y11.below b5
                     replace y12 := y12.below b5
                     replace y13 := y13.below b5
                     replace y14 := y14.below b5
                     replace y15 := y15.below b5
                     replace y16 := y16.below b5
                     replace g11 := g11.below b5
                     replace g12 := g12.below b5
                     replace g13 := g13.below b5
                     replace g14 := g14.below b5
                     replace g15 := g15.below b5
                     replace g16 := g16.below b5
                     replace g2 := g2.below b5
                     replace yu := bthen yu b5
                     have hn13 : n13 ≤ 1000 := by have := f7.lens; have := Lz.out; omega
                     have hn14 : n14 ≤ 1000 := by have := f7.lens; have := Lz.out; omega)
                  | (go_at_call 50
                     (with_reducible refine (sgn_eq (Sign_any s7 A13 A14 n13 n14 c13 c14 0 _ f7.rf (by omega) (by omega)) (show sgn 0 = 0 from rfl)).mono ?_)
                     rintro e w5 ⟨rfl, b5⟩
                     replace y1 := y1.below b5
                     replace y2 := y2.below b5
                     replace y3 := y3.below b5
                     replace y11 := y11.below b5
                     replace y12 := y12.below b5
                     replace y13 := y13.below b5
                     replace y14 := y14.below b5
                     replace y15 := y15.below b5
                     replace y16 := y16.below b5
                     replace g11 := g11.below b5
                     replace g12 := g12.below b5
                     replace g13 := g13.below b5
                     replace g14 := g14.below b5
                     replace g15 := g15.below b5
                     replace g16 := g16.below b5
                     replace g2 := g2.below b5
                     replace yu := bthen yu b5))
              have x1 := y1
              have x2 := y2
              have x3 := y3
              have uu := yu
              have h2 := g2
              clear y1 y2 y3 y11 y12 y13 y14 y15 y16 g11 g12 g13 g14 g15 g16 g2 yu
              have x1p0 := x1.c0
              have x1p1 := x1.c1
              have x1p2 := x1.c2
              have x2p0 := x2.c0
              have x2p1 := x2.c1
              have x2p2 := x2.c2
              have x3p0 := x3.c0
              have x3p1 := x3.c1
              have x3p2 := x3.c2
              go_wp2_with fail
              refine (Sq.out _ uu).mono ?_
              rintro e w9 ⟨rfl, b5⟩
              clear x1p0 x1p1 x1p2 x2p0 x2p1 x2p2 x3p0 x3p1 x3p2
              replace x1 := x1.below b5
              replace x2 := x2.below b5
              replace x3 := x3.below b5
              replace h2 := h2.below b5
              replace uu := bthen uu b5
              obtain ⟨V9, rfl⟩ : ∃ V9 : World, V9 = w9 := ⟨_, rfl⟩
              have x1p0 := x1.c0
              have x1p1 := x1.c1
              have x1p2 := x1.c2
              have x2p0 := x2.c0
              have x2p1 := x2.c1
              have x2p2 := x2.c2
              have x3p0 := x3.c0
              have x3p1 := x3.c1
              have x3p2 := x3.c2
              clear x1p0 x1p1 x1p2 x2p0 x2p1 x2p2 x3p0 x3p1 x3p2
              go_upto_region 13 with fail
              go_cut [13, 14] (fun sv se wx => se = .int .i64 0 ∧ BoxPost (p) V9 sv wx)
              case first =>
                as_aux_lemma =>
                  have y1 := x1.drew
                  have y2 := x2.drew
                  have g2 := h2.drew
                  have yu := below_drew uu
                  have yv := below_drew (Below.refl V9.heap.size V9)
                  go_region_held3 (fun w' => w'.cell? ⟨w.heap.size, 0, none⟩ = some (.bool s1) ∧ w'.cell? ⟨w.heap.size, 1, none⟩ = some (.slice A1 n1 c1) ∧ w'.cell? ⟨w.heap.size, 2, none⟩ = some (.slice A2 n2 c2) ∧ w'.cell? ⟨w.heap.size + 1, 0, none⟩ = some (.bool s2) ∧ w'.cell? ⟨w.heap.size + 1, 1, none⟩ = some (.slice A3 n3 c3) ∧ w'.cell? ⟨w.heap.size + 1, 2, none⟩ = some (.slice A4 n4 c4))
                    (first | (with_reducible exact ⟨x1.c0, x1.c1, x1.c2, x2.c0, x2.c1, x2.c2⟩) | (with_reducible exact ⟨y1.c0, y1.c1, y1.c2, y2.c0, y2.c1, y2.c2⟩) | (with_reducible exact KF) | (with_reducible exact ⟨(y1.alloc _).c0, (y1.alloc _).c1, (y1.alloc _).c2, (y2.alloc _).c0, (y2.alloc _).c1, (y2.alloc _).c2⟩) | (with_reducible exact ⟨(x1.alloc _).drew.c0, (x1.alloc _).drew.c1, (x1.alloc _).drew.c2, (x2.alloc _).drew.c0, (x2.alloc _).drew.c1, (x2.alloc _).drew.c2⟩) | go_keep)
                    (first
                      | (go_at_call 58
                         (with_reducible refine (Mpq.out _ yu).mono ?_)
                         rintro e w5 ⟨s4, A7, n7, c7, A8, n8, c8, rfl, f4, _, _, b5⟩
                         replace y1 := y1.below b5
                         replace y2 := y2.below b5
                         replace g2 := g2.below b5
                         replace yu := bthen yu b5
                         replace yv := bthen yv b5
                         (try replace zb := zb.below b5)
                         have hn7 : n7 ≤ 1000 := by have := f4.lens; have := Lmpq.out; omega
                         have hn8 : n8 ≤ 1000 := by have := f4.lens; have := Lmpq.out; omega)
                      | (go_at_call 58
                         (with_reducible refine (Mpq.out _ (below_drew (below_alloc uu (.cells #[.bool false, .slice none 0 0, .slice none 0 0] 24)))).mono ?_)
                         rintro e w5 ⟨s4, A7, n7, c7, A8, n8, c8, rfl, f4, _, _, b5⟩
                         have y1 := ((x1.alloc (.cells #[.bool false, .slice none 0 0, .slice none 0 0] 24)).drew).below b5
                         have y2 := ((x2.alloc (.cells #[.bool false, .slice none 0 0, .slice none 0 0] 24)).drew).below b5
                         have g2 := ((h2.alloc (.cells #[.bool false, .slice none 0 0, .slice none 0 0] 24)).drew).below b5
                         have yv := bthen (below_drew (below_alloc (Below.refl V9.heap.size V9) (.cells #[.bool false, .slice none 0 0, .slice none 0 0] 24))) b5
                         have yu := bthen (below_drew (below_alloc uu (.cells #[.bool false, .slice none 0 0, .slice none 0 0] 24))) b5
                         have zg : V9.heap.size ≤ V9.heap.size := Nat.le_refl _
                         have zb := ((Bk.new V9 (.bool false) (.slice none 0 0) (.slice none 0 0) 24).drew).below b5
                         have hn7 : n7 ≤ 1000 := by have := f4.lens; have := Lmpq.out; omega
                         have hn8 : n8 ≤ 1000 := by have := f4.lens; have := Lmpq.out; omega)
                      | (go_at_call 57
                         (with_reducible refine (Div_yes s4 s2 A7 A8 A3 A4 n7 n8 n3 n4 c7 c8 c3 c4 _ _ _ f4.rf g2 (by omega) (by omega) (by omega) (by omega) HRQ.out).mono ?_)
                         rintro e w6 ⟨s5, A9, n9, c9, A10, n10, c10, rfl, f5, _, _, b5⟩
                         rw [HQ.out] at f5
                         replace y1 := y1.below b5
                         replace y2 := y2.below b5
                         replace g2 := g2.below b5
                         replace f4 := f4.below b5
                         replace yu := bthen yu b5
                         replace yv := bthen yv b5
                         (try replace zb := zb.below b5)
                         (try have t0 := zb.c0)
                         (try have t1 := zb.c1)
                         (try have t2 := zb.c2)
                         (try have v0 := zb.fz 0)
                         (try have v1 := zb.fz 1)
                         (try have v2 := zb.fz 2)
                         (try have my1 := y1.put (g' := _) (Nat.ne_of_lt (Nat.lt_of_lt_of_le x1.lt zg)) (.bool s5) (.slice A9 n9 c9) (.slice A10 n10 c10))
                         (try have my2 := y2.put (g' := _) (Nat.ne_of_lt (Nat.lt_of_lt_of_le x2.lt zg)) (.bool s5) (.slice A9 n9 c9) (.slice A10 n10 c10))
                         (try have KF := And.intro my1.c0 (And.intro my1.c1 (And.intro my1.c2 (And.intro my2.c0 (And.intro my2.c1 (my2.c2))))))
                         (try unfold put3 at KF))
                      | (go_at_call 57
                         (with_reducible refine (Div_yes s4 s2 A7 A8 A3 A4 n7 n8 n3 n4 c7 c8 c3 c4 _ _ _ (f4.alloc (.cells #[.bool false, .slice none 0 0, .slice none 0 0] 24)).rf (g2.alloc (.cells #[.bool false, .slice none 0 0, .slice none 0 0] 24)) (by omega) (by omega) (by omega) (by omega) HRQ.out).mono ?_)
                         rintro e w6 ⟨s5, A9, n9, c9, A10, n10, c10, rfl, f5, _, _, b5⟩
                         rw [HQ.out] at f5
                         have zg := yv.size
                         have zb := (Bk.new w5 (.bool false) (.slice none 0 0) (.slice none 0 0) 24).below b5
                         replace y1 := (y1.alloc (.cells #[.bool false, .slice none 0 0, .slice none 0 0] 24)).below b5
                         replace y2 := (y2.alloc (.cells #[.bool false, .slice none 0 0, .slice none 0 0] 24)).below b5
                         replace g2 := (g2.alloc (.cells #[.bool false, .slice none 0 0, .slice none 0 0] 24)).below b5
                         replace f4 := (f4.alloc (.cells #[.bool false, .slice none 0 0, .slice none 0 0] 24)).below b5
                         replace yv := bthen (below_alloc yv (.cells #[.bool false, .slice none 0 0, .slice none 0 0] 24)) b5
                         replace yu := bthen (below_alloc yu (.cells #[.bool false, .slice none 0 0, .slice none 0 0] 24)) b5
                         (try have t0 := zb.c0)
                         (try have t1 := zb.c1)
                         (try have t2 := zb.c2)
                         (try have v0 := zb.fz 0)
                         (try have v1 := zb.fz 1)
                         (try have v2 := zb.fz 2)
                         (try have my1 := y1.put (g' := _) (Nat.ne_of_lt (Nat.lt_of_lt_of_le x1.lt zg)) (.bool s5) (.slice A9 n9 c9) (.slice A10 n10 c10))
                         (try have my2 := y2.put (g' := _) (Nat.ne_of_lt (Nat.lt_of_lt_of_le x2.lt zg)) (.bool s5) (.slice A9 n9 c9) (.slice A10 n10 c10))
                         (try have KF := And.intro my1.c0 (And.intro my1.c1 (And.intro my1.c2 (And.intro my2.c0 (And.intro my2.c1 (my2.c2))))))
                         (try unfold put3 at KF)))
                  all_goals
                    go_wp2_with fail
                    go_meet
                    first
                      | exact ⟨rfl, BoxPost.put f5 zb yv zg⟩
                      | exact ⟨rfl, BoxPost.new f5 yv⟩
              case rest =>
                obtain ⟨rfl, G17, s17, A33, n33, c33, A34, n34, c34, rfl, x17, f17, b5⟩ := hcut
                obtain ⟨V10, rfl⟩ : ∃ V10 : World, V10 = wc := ⟨_, rfl⟩
                replace x1 := x1.below b5
                replace x2 := x2.below b5
                replace x3 := x3.below b5
                replace h2 := h2.below b5
                replace uu := bthen uu b5
                have x1p0 := x1.c0
                have x1p1 := x1.c1
                have x1p2 := x1.c2
                have x2p0 := x2.c0
                have x2p1 := x2.c1
                have x2p2 := x2.c2
                have x3p0 := x3.c0
                have x3p1 := x3.c1
                have x3p2 := x3.c2
                go_wp2_with fail
                refine (Dqq.out _ uu).mono ?_
                rintro e w11 ⟨s18, A35, n35, c35, A36, n36, c36, rfl, f18, _, _, b5⟩
                obtain ⟨u18, HU18, x18, xb18⟩ := boxes1 w11 (.bool s18) (.slice A35 n35 c35) (.slice A36 n36 c36) 24
                replace f18 := f18.below xb18
                replace f17 := (f17.below b5).below xb18
                replace x17 := (x17.below b5).below xb18
                replace x1 := (x1.below b5).below xb18
                replace uu := bthen (bthen uu b5) xb18
                have hn33 : n33 ≤ 1000 := by have := f17.lens; have := Lp.out; omega
                have hn34 : n34 ≤ 1000 := by have := f17.lens; have := Lp.out; omega
                have hn35 : n35 ≤ 1000 := by have := f18.lens; have := Lone.out; omega
                have hn36 : n36 ≤ 1000 := by have := f18.lens; have := Lone.out; omega
                clear x1p0 x1p1 x1p2 x2p0 x2p1 x2p2 x3p0 x3p1 x3p2
                have y1 := x1.drew
                have y17 := x17.drew
                have y18 := x18.drew
                have g17 := f17.below (below_drew (Below.refl _ u18))
                have g18 := f18.below (below_drew (Below.refl _ u18))
                have yu := below_drew uu
                go_wp2_with fail
                rw [← HU18.out]
                go_region_held3 (fun w' => w'.cell? ⟨w.heap.size, 0, none⟩ = some (.bool s1) ∧ w'.cell? ⟨w.heap.size, 1, none⟩ = some (.slice A1 n1 c1) ∧ w'.cell? ⟨w.heap.size, 2, none⟩ = some (.slice A2 n2 c2) ∧ w'.cell? ⟨G17, 0, none⟩ = some (.bool s17) ∧ w'.cell? ⟨G17, 1, none⟩ = some (.slice A33 n33 c33) ∧ w'.cell? ⟨G17, 2, none⟩ = some (.slice A34 n34 c34) ∧ w'.cell? ⟨w11.heap.size, 0, none⟩ = some (.bool s18) ∧ w'.cell? ⟨w11.heap.size, 1, none⟩ = some (.slice A35 n35 c35) ∧ w'.cell? ⟨w11.heap.size, 2, none⟩ = some (.slice A36 n36 c36))
                  (first | (with_reducible exact ⟨x1.c0, x1.c1, x1.c2, x17.c0, x17.c1, x17.c2, x18.c0, x18.c1, x18.c2⟩) | (with_reducible exact ⟨y1.c0, y1.c1, y1.c2, y17.c0, y17.c1, y17.c2, y18.c0, y18.c1, y18.c2⟩) | go_keep)
                  (first
                    | (go_at_call 59
                       (with_reducible refine (Cp.out _ yu).mono ?_)
                       rintro e w5 ⟨s6, A11, n11, c11, A12, n12, c12, rfl, f6, _, _, b5⟩
                       replace y1 := y1.below b5
                       replace y17 := y17.below b5
                       replace y18 := y18.below b5
                       replace g17 := g17.below b5
                       replace g18 := g18.below b5
                       replace yu := bthen yu b5
                       have hn11 : n11 ≤ 1000 := by have := f6.lens; have := Lp.out; omega
                       have hn12 : n12 ≤ 1000 := by have := f6.lens; have := Lp.out; omega)
                    | (go_at_call 22
                       (with_reducible refine (SameFr_any s17 s6 A33 A34 A11 A12 n33 n34 n11 n12 c33 c34 c11 c12 _ _ _ g17 f6 (by omega) (by omega) (by omega) (by omega) true (decide_eq_true rfl).symm).mono ?_)
                       rintro e w5 ⟨rfl, b5⟩
                       replace y1 := y1.below b5
                       replace y17 := y17.below b5
                       replace y18 := y18.below b5
                       replace g17 := g17.below b5
                       replace g18 := g18.below b5
                       replace yu := bthen yu b5)
                    | (go_at_call 60
                       (with_reducible refine (Of_any 1 _ (by omega) (by omega)).mono ?_)
                       rintro e w5 ⟨s7, A13, n13, c13, A14, n14, c14, rfl, f7, _, _, b5⟩
                       rw [Rat.intCast_one] at f7
                       replace y1 := y1.below b5
                       replace y17 := y17.below b5
                       replace y18 := y18.below b5
                       replace g17 := g17.below b5
                       replace g18 := g18.below b5
                       replace yu := bthen yu b5
                       have hn13 : n13 ≤ 1000 := by have := f7.lens; have := Lone.out; omega
                       have hn14 : n14 ≤ 1000 := by have := f7.lens; have := Lone.out; omega)
                    | (go_at_call 22
                       (with_reducible refine (SameFr_any s18 s7 A35 A36 A13 A14 n35 n36 n13 n14 c35 c36 c13 c14 _ _ _ g18 f7 (by omega) (by omega) (by omega) (by omega) true (decide_eq_true rfl).symm).mono ?_)
                       rintro e w5 ⟨rfl, b5⟩
                       replace y1 := y1.below b5
                       replace y17 := y17.below b5
                       replace y18 := y18.below b5
                       replace g17 := g17.below b5
                       replace g18 := g18.below b5
                       replace yu := bthen yu b5
                       have htx := ht.on (bthen xb yu))
                    | (go_at_call 20
                       (with_reducible refine (known_any _ htx).mono ?_)
                       rintro e w5 ⟨rfl, b5⟩
                       replace y1 := y1.below b5
                       replace y17 := y17.below b5
                       replace y18 := y18.below b5
                       replace g17 := g17.below b5
                       replace g18 := g18.below b5
                       replace yu := bthen yu b5))
                go_wp2_with fail
                go_ret
                exact ⟨rfl, bthen xb yu⟩
theorem FracField_any (s1 : Bool) (A1 A2 : Option Addr) (n1 n2 c1 c2 : Nat) (s2 : Bool) (A3 A4 : Option Addr) (n3 n4 c3 c4 : Nat) (s3 : Bool) (A5 A6 : Option Addr) (n5 n6 c5 c6 : Nat) (p q r : Rat) (w : World) (h1 : Rf w s1 A1 n1 c1 A2 n2 c2 p) (h2 : Rf w s2 A3 n3 c3 A4 n4 c4 q) (h3 : Rf w s3 A5 n5 c5 A6 n6 c6 r) (ht : Tab w) :
    Calls Tryd.prog 15 #[.agg #[.bool s1, .slice A1 n1 c1, .slice A2 n2 c2], .agg #[.bool s2, .slice A3 n3 c3, .slice A4 n4 c4], .agg #[.bool s3, .slice A5 n5 c5, .slice A6 n6 c6]] w (ValPost (.bool true) w) := by
  by_cases hc : 6 < n1 ∨ 6 < n2 ∨ 6 < n3 ∨ 6 < n4 ∨ 6 < n5 ∨ 6 < n6
  · exact FracField_no s1 A1 A2 n1 n2 c1 c2 s2 A3 A4 n3 n4 c3 c4 s3 A5 A6 n5 n6 c5 c6 w ht hc
  by_cases hz : q = 0
  · exact FracField_zero s1 A1 A2 n1 n2 c1 c2 s2 A3 A4 n3 n4 c3 c4 s3 A5 A6 n5 n6 c5 c6 p q r w h1 h2 h3 ht (by omega) (by omega) (by omega) (by omega) (by omega) (by omega) hz
  · exact FracField_yes s1 A1 A2 n1 n2 c1 c2 s2 A3 A4 n3 n4 c3 c4 s3 A5 A6 n5 n6 c5 c6 p q r w h1 h2 h3 ht (by omega) (by omega) (by omega) (by omega) (by omega) (by omega) hz
end Go.Proofs.YtaahbabdbopphaaDoor
