/- The specification: Down, Floor, Canonical, Size, Pow. -/
import Derived.Test.YtaahbabdbopphaaDoorRB
namespace Go.Proofs.YtaahbabdbopphaaDoor
open Go.RowKit Mx
set_option maxRecDepth 100000

theorem flo_fv (s : Bool) (n d : Nat) : flo (fv s n d) = n / low d + if s = true ∧ n % low d ≠ 0 then 1 else 0 := by
  by_cases h : n = 0
  · subst h
    rw [show fv s 0 d = 0 from by rw [fv_low, show sg s 0 = 0 from by cases s <;> rfl, Rat.zero_mkRat], Nat.zero_div, Nat.zero_mod, if_neg (by simp)]
    decide +kernel
  · obtain ⟨h1, h2, h3⟩ := fv_parts_red s n d h
    have hg : 0 < n.gcd (low d) := Nat.gcd_pos_of_pos_left _ (by omega)
    have e1 : rn (fv s n d) * n.gcd (low d) = n := by rw [h2]; exact Nat.div_mul_cancel (Nat.gcd_dvd_left _ _)
    have e2 : rd (fv s n d) * n.gcd (low d) = low d := by rw [h3]; exact Nat.div_mul_cancel (Nat.gcd_dvd_right _ _)
    have e3 : n / low d = rn (fv s n d) / rd (fv s n d) := by
      have := Nat.mul_div_mul_right (rn (fv s n d)) (rd (fv s n d)) hg
      rwa [e1, e2] at this
    have e4 : n % low d = rn (fv s n d) % rd (fv s n d) * n.gcd (low d) := by
      have := Nat.mul_mod_mul_right (n.gcd (low d)) (rn (fv s n d)) (rd (fv s n d))
      rwa [e1, e2] at this
    unfold flo
    rw [h1, ← e3]
    congr 1
    by_cases hm : rn (fv s n d) % rd (fv s n d) = 0
    · rw [hm, Nat.zero_mul] at e4
      rw [if_neg (fun x => x.2 hm), if_neg (fun x => x.2 e4)]
    · have : n % low d ≠ 0 := by rw [e4]; exact Nat.mul_ne_zero hm (by omega)
      by_cases hs : s = true
      · rw [if_pos ⟨hs, hm⟩, if_pos ⟨hs, this⟩]
      · rw [if_neg (fun x => hs x.1), if_neg (fun x => hs x.1)]
theorem floor_fv (s : Bool) (n d : Nat) : fv s (flo (fv s n d)) 0 = (((fv s n d).floor : Int) : Rat) := by
  rw [floor_is]
  by_cases h : n = 0
  · subst h
    rw [show fv s 0 d = 0 from by rw [fv_low, show sg s 0 = 0 from by cases s <;> rfl, Rat.zero_mkRat]]
    cases s <;> decide +kernel
  · rw [(fv_parts_red s n d h).1, fv_low, show low 0 = 1 from rfl, Rat.mkRat_eq_div]
    rw [show ((1 : Nat) : Rat) = 1 from rfl, Rat.div_def, show (1 : Rat)⁻¹ = 1 from by decide +kernel, Rat.mul_one]

set_option maxHeartbeats 4000000 in
theorem rDown_f (A1 A2 : Option Addr) (n1 n2 c1 c2 : Nat) (xs ys : List Nat) (w : World) (h1 : Sl w A1 n1 c1 xs) (h2 : Sl w A2 n2 c2 ys) (d1 : Ds xs) (d2 : Ds ys) (hl1 : n1 ≤ 1000000) (hl2 : n2 ≤ 1000000)  :
    Calls Tryd.prog 68 #[.agg #[.bool false, .slice A1 n1 c1, .slice A2 n2 c2]] w (FrPost (((fv false (val xs) (val ys)).floor : Int) : Rat) w) := by
  have HQ : Hid (fv false (val (dig (val xs / low (val ys)))) (val []) = (((fv false (val xs) (val ys)).floor : Int) : Rat)) := Lib.hid (by rw [val_dig, show val [] = 0 from rfl, ← floor_fv, flo_fv, if_neg (by simp), Nat.add_zero])
  skip
  obtain ⟨u, HU, x1, x2, xb⟩ := boxes2 w (.bool false) (.slice A1 n1 c1) (.slice A2 n2 c2) (.bool false) (.slice none 0 0) (.slice none 0 0) 24 24
  replace h1 := h1.below xb
  replace h2 := h2.below xb
  have y1 := x1.drew
  have y2 := x2.drew
  have g1 := h1.drew
  have g2 := h2.drew
  have yu := below_drew xb
  skip
  go_enter Tryd.func68, Tryd.ntmps68
  go_wp2_with fail
  rw [← HU.out]
  go_region_held3 (fun w' => w'.cell? ⟨w.heap.size, 0, none⟩ = some (.bool false) ∧ w'.cell? ⟨w.heap.size, 1, none⟩ = some (.slice A1 n1 c1) ∧ w'.cell? ⟨w.heap.size, 2, none⟩ = some (.slice A2 n2 c2))
    (first | (with_reducible exact ⟨x1.c0, x1.c1, x1.c2⟩) | (with_reducible exact ⟨y1.c0, y1.c1, y1.c2⟩) | go_keep)
    (first
      | (go_at_call 76
         (with_reducible refine (rtrim_any A1 c1 xs _ n1 g1 d1 (by omega)).mono ?_)
         rintro e w5 ⟨m1, em1, rfl, k1, hw⟩
         replace hw := hw.symm
         subst hw
         have lm1 : m1 ≤ 1000000 := by have := len_val d1; have := k1.len; have := g1.len; omega)
      | (go_at_call 94
         (with_reducible refine (rlow_any false A1 A2 n1 n2 c1 c2 ys _ g2 d2 (by omega)).mono ?_)
         rintro e w5 ⟨B1, m2, e2, rfl, k2, b5⟩
         have lm2 : m2 ≤ 1000001 := by have := low_len ys d2; have := k2.len; have := g2.len; omega
         replace y1 := y1.below b5
         replace y2 := y2.below b5
         replace g1 := g1.below b5
         replace g2 := g2.below b5
         replace yu := bthen yu b5
         (try replace k1 := k1.below b5))
      | (go_at_call 113
         (with_reducible refine (rdivide_any A1 B1 m1 m2 em1 e2 (val xs) (low (val ys)) _ k1 k2 (by omega) (by omega) (low_ne _)).mono ?_)
         rintro e w5 ⟨R1, r1, q1, R2, r2, q2, rfl, j1, j2, b5⟩
         have lr1 : r1 ≤ 1000000 := by have := len_mono (Nat.div_le_self (val xs) (low (val ys))); have := j1.len; have := k1.len; omega
         have lr2 : r2 ≤ 1000000 := by have := len_mono (Nat.mod_le (val xs) (low (val ys))); have := j2.len; have := k1.len; omega
         replace y1 := y1.below b5
         replace y2 := y2.below b5
         replace yu := bthen yu b5))
  have p0 := y1.c0
  have p1 := y1.c1
  have p2 := y1.c2
  go_wp2_with fail
  refine (make1_any false R1 none r1 0 q1 0 _ [] _ j1 ⟨rfl, Nat.le_refl _, Rd.nil_ _ _⟩ (ds_dig _) ds_nil (by omega) (by omega)).mono ?_
  rintro e w8 ⟨s9, A17, n17, c17, A18, n18, c18, rfl, f5, o17, o18, b8⟩
  rw [HQ.out] at f5 o17 o18
  have G := Lib.hid (f5.ret o17 o18 (g := w.heap.size + 1) (by omega) y2.lt (bthen yu b8))
  have x9 := y2.below b8
  have t0 := x9.c0
  have t1 := x9.c1
  have t2 := x9.c2
  have v0 := x9.fz 0
  have v1 := x9.fz 1
  have v2 := x9.fz 2
  go_wp2_with fail
  exact bodyPost_ret (v := .agg #[.bool s9, .slice A17 n17 c17, .slice A18 n18 c18]) (by simp [results, Tryd.results68, go_sem, t0, t1, t2]) rfl G.out

set_option maxHeartbeats 4000000 in
theorem rDown_z (A1 A2 : Option Addr) (n1 n2 c1 c2 : Nat) (xs ys : List Nat) (w : World) (h1 : Sl w A1 n1 c1 xs) (h2 : Sl w A2 n2 c2 ys) (d1 : Ds xs) (d2 : Ds ys) (hl1 : n1 ≤ 1000000) (hl2 : n2 ≤ 1000000) (hr : val xs % low (val ys) = 0) :
    Calls Tryd.prog 68 #[.agg #[.bool true, .slice A1 n1 c1, .slice A2 n2 c2]] w (FrPost (((fv true (val xs) (val ys)).floor : Int) : Rat) w) := by
  have HQ : Hid (fv true (val (dig (val xs / low (val ys)))) (val []) = (((fv true (val xs) (val ys)).floor : Int) : Rat)) := Lib.hid (by rw [val_dig, show val [] = 0 from rfl, ← floor_fv, flo_fv, if_neg (by simp [hr]), Nat.add_zero])
  have HR := Lib.hid hr
  obtain ⟨u, HU, x1, x2, xb⟩ := boxes2 w (.bool true) (.slice A1 n1 c1) (.slice A2 n2 c2) (.bool false) (.slice none 0 0) (.slice none 0 0) 24 24
  replace h1 := h1.below xb
  replace h2 := h2.below xb
  have y1 := x1.drew
  have y2 := x2.drew
  have g1 := h1.drew
  have g2 := h2.drew
  have yu := below_drew xb
  clear hr
  go_enter Tryd.func68, Tryd.ntmps68
  go_wp2_with fail
  rw [← HU.out]
  go_region_held3 (fun w' => w'.cell? ⟨w.heap.size, 0, none⟩ = some (.bool true) ∧ w'.cell? ⟨w.heap.size, 1, none⟩ = some (.slice A1 n1 c1) ∧ w'.cell? ⟨w.heap.size, 2, none⟩ = some (.slice A2 n2 c2))
    (first | (with_reducible exact ⟨x1.c0, x1.c1, x1.c2⟩) | (with_reducible exact ⟨y1.c0, y1.c1, y1.c2⟩) | go_keep)
    (first
      | (go_at_call 76
         (with_reducible refine (rtrim_any A1 c1 xs _ n1 g1 d1 (by omega)).mono ?_)
         rintro e w5 ⟨m1, em1, rfl, k1, hw⟩
         replace hw := hw.symm
         subst hw
         have lm1 : m1 ≤ 1000000 := by have := len_val d1; have := k1.len; have := g1.len; omega)
      | (go_at_call 94
         (with_reducible refine (rlow_any true A1 A2 n1 n2 c1 c2 ys _ g2 d2 (by omega)).mono ?_)
         rintro e w5 ⟨B1, m2, e2, rfl, k2, b5⟩
         have lm2 : m2 ≤ 1000001 := by have := low_len ys d2; have := k2.len; have := g2.len; omega
         replace y1 := y1.below b5
         replace y2 := y2.below b5
         replace g1 := g1.below b5
         replace g2 := g2.below b5
         replace yu := bthen yu b5
         (try replace k1 := k1.below b5))
      | (go_at_call 113
         (with_reducible refine (rdivide_any A1 B1 m1 m2 em1 e2 (val xs) (low (val ys)) _ k1 k2 (by omega) (by omega) (low_ne _)).mono ?_)
         rintro e w5 ⟨R1, r1, q1, R2, r2, q2, rfl, j1, j2, b5⟩
         have lr1 : r1 ≤ 1000000 := by have := len_mono (Nat.div_le_self (val xs) (low (val ys))); have := j1.len; have := k1.len; omega
         have lr2 : r2 ≤ 1000000 := by have := len_mono (Nat.mod_le (val xs) (low (val ys))); have := j2.len; have := k1.len; omega
         replace y1 := y1.below b5
         replace y2 := y2.below b5
         replace yu := bthen yu b5))
  have p0 := y1.c0
  have p1 := y1.c1
  have p2 := y1.c2
  go_wp2_with fail
  refine (rtrim_dig R2 r2 q2 _ _ j2 (by omega)).mono ?_
  rintro e w6 ⟨r3, q3, rfl, j3, hw⟩
  replace hw := hw.symm
  subst hw
  have hm := j2.len.symm.trans j3.len
  subst hm
  have hm : r2 = 0 := by rw [← j2.len, HR.out, dig_zero]; rfl
  subst hm
  go_wp2_with fail
  refine (make1_any true R1 none r1 0 q1 0 _ [] _ j1 ⟨rfl, Nat.le_refl _, Rd.nil_ _ _⟩ (ds_dig _) ds_nil (by omega) (by omega)).mono ?_
  rintro e w8 ⟨s9, A17, n17, c17, A18, n18, c18, rfl, f5, o17, o18, b8⟩
  rw [HQ.out] at f5 o17 o18
  have G := Lib.hid (f5.ret o17 o18 (g := w.heap.size + 1) (by omega) y2.lt (bthen yu b8))
  have x9 := y2.below b8
  have t0 := x9.c0
  have t1 := x9.c1
  have t2 := x9.c2
  have v0 := x9.fz 0
  have v1 := x9.fz 1
  have v2 := x9.fz 2
  go_wp2_with fail
  exact bodyPost_ret (v := .agg #[.bool s9, .slice A17 n17 c17, .slice A18 n18 c18]) (by simp [results, Tryd.results68, go_sem, t0, t1, t2]) rfl G.out

set_option maxHeartbeats 4000000 in
theorem rDown_t (A1 A2 : Option Addr) (n1 n2 c1 c2 : Nat) (xs ys : List Nat) (w : World) (h1 : Sl w A1 n1 c1 xs) (h2 : Sl w A2 n2 c2 ys) (d1 : Ds xs) (d2 : Ds ys) (hl1 : n1 ≤ 1000000) (hl2 : n2 ≤ 1000000) (hr : val xs % low (val ys) ≠ 0) :
    Calls Tryd.prog 68 #[.agg #[.bool true, .slice A1 n1 c1, .slice A2 n2 c2]] w (FrPost (((fv true (val xs) (val ys)).floor : Int) : Rat) w) := by
  have HQ : Hid (fv true (val (dig (val xs / low (val ys) + 1))) (val []) = (((fv true (val xs) (val ys)).floor : Int) : Rat)) := Lib.hid (by rw [val_dig, show val [] = 0 from rfl, ← floor_fv, flo_fv, if_pos ⟨rfl, hr⟩])
  have HR := Lib.hid hr
  obtain ⟨u, HU, x1, x2, xb⟩ := boxes2 w (.bool true) (.slice A1 n1 c1) (.slice A2 n2 c2) (.bool false) (.slice none 0 0) (.slice none 0 0) 24 24
  replace h1 := h1.below xb
  replace h2 := h2.below xb
  have y1 := x1.drew
  have y2 := x2.drew
  have g1 := h1.drew
  have g2 := h2.drew
  have yu := below_drew xb
  clear hr
  go_enter Tryd.func68, Tryd.ntmps68
  go_wp2_with fail
  rw [← HU.out]
  go_region_held3 (fun w' => w'.cell? ⟨w.heap.size, 0, none⟩ = some (.bool true) ∧ w'.cell? ⟨w.heap.size, 1, none⟩ = some (.slice A1 n1 c1) ∧ w'.cell? ⟨w.heap.size, 2, none⟩ = some (.slice A2 n2 c2))
    (first | (with_reducible exact ⟨x1.c0, x1.c1, x1.c2⟩) | (with_reducible exact ⟨y1.c0, y1.c1, y1.c2⟩) | go_keep)
    (first
      | (go_at_call 76
         (with_reducible refine (rtrim_any A1 c1 xs _ n1 g1 d1 (by omega)).mono ?_)
         rintro e w5 ⟨m1, em1, rfl, k1, hw⟩
         replace hw := hw.symm
         subst hw
         have lm1 : m1 ≤ 1000000 := by have := len_val d1; have := k1.len; have := g1.len; omega)
      | (go_at_call 94
         (with_reducible refine (rlow_any true A1 A2 n1 n2 c1 c2 ys _ g2 d2 (by omega)).mono ?_)
         rintro e w5 ⟨B1, m2, e2, rfl, k2, b5⟩
         have lm2 : m2 ≤ 1000001 := by have := low_len ys d2; have := k2.len; have := g2.len; omega
         replace y1 := y1.below b5
         replace y2 := y2.below b5
         replace g1 := g1.below b5
         replace g2 := g2.below b5
         replace yu := bthen yu b5
         (try replace k1 := k1.below b5))
      | (go_at_call 113
         (with_reducible refine (rdivide_any A1 B1 m1 m2 em1 e2 (val xs) (low (val ys)) _ k1 k2 (by omega) (by omega) (low_ne _)).mono ?_)
         rintro e w5 ⟨R1, r1, q1, R2, r2, q2, rfl, j1, j2, b5⟩
         have lr1 : r1 ≤ 1000000 := by have := len_mono (Nat.div_le_self (val xs) (low (val ys))); have := j1.len; have := k1.len; omega
         have lr2 : r2 ≤ 1000000 := by have := len_mono (Nat.mod_le (val xs) (low (val ys))); have := j2.len; have := k1.len; omega
         replace y1 := y1.below b5
         replace y2 := y2.below b5
         replace yu := bthen yu b5))
  have p0 := y1.c0
  have p1 := y1.c1
  have p2 := y1.c2
  go_wp2_with fail
  refine (rtrim_dig R2 r2 q2 _ _ j2 (by omega)).mono ?_
  rintro e w6 ⟨r3, q3, rfl, j3, hw⟩
  replace hw := hw.symm
  subst hw
  have hm := j2.len.symm.trans j3.len
  subst hm
  have hm : 0 < r2 := by rw [← j2.len]; exact len_dig_pos.2 HR.out
  have h91 := j1.alloc (.cells #[.int .u32 1] 57)
  have z1 := y1.alloc (.cells #[.int .u32 1] 57)
  have z2 := y2.alloc (.cells #[.int .u32 1] 57)
  have zu := below_alloc yu (.cells #[.int .u32 1] 57)
  have ho := one_new w5
  go_wp2_with fail
  refine (rplus_any R1 (some ⟨w5.heap.size, 0, none⟩) r1 1 q1 1 _ 1 _ h91 ho (by omega) (by omega)).mono ?_
  rintro e w7 ⟨R4, r4, q4, rfl, j4, ⟨b5, _⟩⟩
  have lr4 : r4 ≤ 1000010 := by have := len_add (val xs / low (val ys)) 1; have := len_small (a := 1) (by decide); have := j4.len; have := j1.len; omega
  replace z1 := z1.below b5
  replace z2 := z2.below b5
  replace zu := bthen zu b5
  have p0 := z1.c0
  go_wp2_with fail
  refine (make1_any true R4 none r4 0 q4 0 _ [] _ j4 ⟨rfl, Nat.le_refl _, Rd.nil_ _ _⟩ (ds_dig _) ds_nil (by omega) (by omega)).mono ?_
  rintro e w8 ⟨s9, A17, n17, c17, A18, n18, c18, rfl, f5, o17, o18, b8⟩
  rw [HQ.out] at f5 o17 o18
  have G := Lib.hid (f5.ret o17 o18 (g := w.heap.size + 1) (by omega) z2.lt (bthen zu b8))
  have x9 := z2.below b8
  have t0 := x9.c0
  have t1 := x9.c1
  have t2 := x9.c2
  have v0 := x9.fz 0
  have v1 := x9.fz 1
  have v2 := x9.fz 2
  go_wp2_with fail
  exact bodyPost_ret (v := .agg #[.bool s9, .slice A17 n17 c17, .slice A18 n18 c18]) (by simp [results, Tryd.results68, go_sem, t0, t1, t2]) rfl G.out
theorem rDown_any (s1 : Bool) (A1 A2 : Option Addr) (n1 n2 c1 c2 : Nat) (q : Rat) (w : World) (h : Rf w s1 A1 n1 c1 A2 n2 c2 q) (hl1 : n1 ≤ 1000000) (hl2 : n2 ≤ 1000000) :
    Calls Tryd.prog 68 #[.agg #[.bool s1, .slice A1 n1 c1, .slice A2 n2 c2]] w (FrPost ((q.floor : Int) : Rat) w) := by
  obtain ⟨xs, ys, h1, h2, d1, d2, rfl⟩ := h
  cases s1
  · exact rDown_f A1 A2 n1 n2 c1 c2 xs ys w h1 h2 d1 d2 hl1 hl2
  · by_cases hr : val xs % low (val ys) = 0
    · exact rDown_z A1 A2 n1 n2 c1 c2 xs ys w h1 h2 d1 d2 hl1 hl2 hr
    · exact rDown_t A1 A2 n1 n2 c1 c2 xs ys w h1 h2 d1 d2 hl1 hl2 hr

set_option maxHeartbeats 4000000 in
theorem rFloor_any (s1 : Bool) (A1 A2 : Option Addr) (n1 n2 c1 c2 : Nat) (q : Rat) (d : Int) (w : World) (h : Rf w s1 A1 n1 c1 A2 n2 c2 q) (l1 : n1 ≤ 1000) (l2 : n2 ≤ 1000) (hd : 1 ≤ d) (hd1 : d ≤ 9223372036854775807) :
    Calls Tryd.prog 28 #[.agg #[.bool s1, .slice A1 n1 c1, .slice A2 n2 c2], .int .i64 d] w (FrPost ((((q * (d : Rat)).floor : Int) : Rat) * (d : Rat)⁻¹) w) := by
  have hq := h.len
  have hld := ln_i64 (z := d) (by omega) (by omega)
  have hdd := (ln_int d).2
  have HD0 : Hid ((d : Rat) ≠ 0) := Lib.hid (by rw [Ne, Rat.intCast_eq_zero_iff]; omega)
  have Ld : Hid (ln (d : Rat) ≤ 10 ∧ ld (d : Rat) ≤ 10) := Lib.hid (by omega)
  have Lm : Hid (ln (q * (d : Rat)) ≤ 2000 ∧ ld (q * (d : Rat)) ≤ 2000) := Lib.hid (by have := ln_mul q (d : Rat); have := Ld.out; omega)
  have Lf : Hid (ln (((q * (d : Rat)).floor : Int) : Rat) ≤ 2010 ∧ ld (((q * (d : Rat)).floor : Int) : Rat) ≤ 10) := Lib.hid (by have := ln_floor (q * (d : Rat)); have := (ln_int ((q * (d : Rat)).floor)).2; have := Lm.out; omega)
  have HQ : Hid ((((q * (d : Rat)).floor : Int) : Rat) / (d : Rat) = (((q * (d : Rat)).floor : Int) : Rat) * (d : Rat)⁻¹) := Lib.hid (Rat.div_def _ _)
  obtain ⟨u, HU, x1, x2, xb⟩ := boxes2 w (.bool s1) (.slice A1 n1 c1) (.slice A2 n2 c2) (.bool false) (.slice none 0 0) (.slice none 0 0) 24 24
  replace h := h.below xb
  have y1 := x1.drew
  have y2 := x2.drew
  have g1 := h.drew
  have yu := below_drew xb
  clear hq hld hdd
  go_enter Tryd.func28, Tryd.ntmps28
  go_wp2_with fail
  rw [← HU.out]
  go_region_held3 (fun w' => w'.cell? ⟨w.heap.size, 0, none⟩ = some (.bool s1) ∧ w'.cell? ⟨w.heap.size, 1, none⟩ = some (.slice A1 n1 c1) ∧ w'.cell? ⟨w.heap.size, 2, none⟩ = some (.slice A2 n2 c2))
    (first | (with_reducible exact ⟨x1.c0, x1.c1, x1.c2⟩) | (with_reducible exact ⟨y1.c0, y1.c1, y1.c2⟩) | (with_reducible exact KF) | go_keep)
    (first
      | (go_at_call 37
         (with_reducible refine (rMul_any s1 A1 A2 n1 n2 c1 c2 s3 A5 A6 n5 n6 c5 c6 q (d : Rat) _ g1 f3.rf (by omega) (by omega) (by omega) (by omega)).mono ?_)
         rintro e w5 ⟨s4, A7, n7, c7, A8, n8, c8, rfl, f4, _, _, b5⟩
         replace y1 := y1.below b5
         replace y2 := y2.below b5
         replace yu := bthen yu b5
         have hn7 : n7 ≤ 2000 := by have := f4.lens; have := Lm.out; omega
         have hn8 : n8 ≤ 2000 := by have := f4.lens; have := Lm.out; omega)
      | (go_at_call 68
         (with_reducible refine (rDown_any s4 A7 A8 n7 n8 c7 c8 _ _ f4.rf (by omega) (by omega)).mono ?_)
         rintro e w5 ⟨s5, A9, n9, c9, A10, n10, c10, rfl, f5, _, _, b5⟩
         replace y1 := y1.below b5
         replace y2 := y2.below b5
         replace yu := bthen yu b5
         have hn9 : n9 ≤ 2010 := by have := f5.lens; have := Lf.out; omega
         have hn10 : n10 ≤ 2010 := by have := f5.lens; have := Lf.out; omega)
      | (go_at_call 49
         (with_reducible refine (rDiv_any s5 A9 A10 n9 n10 c9 c10 s3 A5 A6 n5 n6 c5 c6 _ (d : Rat) _ f5.rf f3.rf (by omega) (by omega) (by omega) (by omega) HD0.out).mono ?_)
         rintro e w5 ⟨s9, A17, n17, c17, A18, n18, c18, rfl, f9, o17, o18, b5⟩
         rw [HQ.out] at f9 o17 o18
         have glt := y2.lt
         replace y1 := y1.below b5
         replace y2 := y2.below b5
         replace yu := bthen yu b5
         have G := Lib.hid (f9.ret o17 o18 (g := w.heap.size + 1) (by omega) glt yu)
         have my1 := y1.put (g' := w.heap.size + 1) (by omega) (.bool s9) (.slice A17 n17 c17) (.slice A18 n18 c18)
         have KF := And.intro my1.c0 (And.intro my1.c1 (my1.c2))
         unfold put3 at KF
         have t0 := y2.c0
         have t1 := y2.c1
         have t2 := y2.c2
         have v0 := y2.fz 0
         have v1 := y2.fz 1
         have v2 := y2.fz 2)
      | (go_at_call 38
         (with_reducible refine (rOf_any d _ (by omega) (by omega)).mono ?_)
         rintro e w5 ⟨s3, A5, n5, c5, A6, n6, c6, rfl, f3, _, _, b5⟩
         replace y1 := y1.below b5
         replace y2 := y2.below b5
         replace yu := bthen yu b5
         have hn5 : n5 ≤ 10 := by have := f3.lens; have := Ld.out; omega
         have hn6 : n6 ≤ 10 := by have := f3.lens; have := Ld.out; omega
         (try replace g1 := g1.below b5)
         (try replace f5 := f5.below b5)))
  go_wp2_with fail
  exact bodyPost_ret (v := .agg #[.bool s9, .slice A17 n17 c17, .slice A18 n18 c18]) (by simp [results, Tryd.results28, go_sem, t0, t1, t2]) rfl G.out
end Go.Proofs.YtaahbabdbopphaaDoor
