/- frac.Whole; the specification's Int. -/
import Derived.Test.YtaahbabdbopphaaDoorRC
namespace Go.Proofs.YtaahbabdbopphaaDoor
open Go.RowKit Mx
set_option maxRecDepth 100000

theorem blen_64 (a : Nat) (h : a < 18446744073709551616) : blen a ≤ 64 := by
  have h1 := blen_le a
  have h2 := len_two h
  omega
theorem blen_big (a : Nat) (h : 18446744073709551616 ≤ a) : 64 < blen a := by
  have h1 := blen_lt a
  rcases Nat.lt_or_ge 64 (blen a) with h2 | h2
  · exact h2
  · have h3 := Nat.pow_le_pow_right (show 0 < 2 by decide) h2
    have : (2 : Nat) ^ 64 = 18446744073709551616 := by decide
    omega
theorem dig_two (a : Nat) (h : a < 18446744073709551616) : a = (dig a).getD 0 0 + (dig a).getD 1 0 * 4294967296 := by
  rw [dig_get, dig_get]; omega
def WholePost (v err : Int) (w : World) (e : Ending) (w' : World) : Prop := e = .returned (.tuple #[.int .i64 v, .int .i64 err]) ∧ Below w.heap.size w w'
set_option maxHeartbeats 4000000 in
theorem Whole_a (s1 : Bool) (A1 A2 : Option Addr) (n1 n2 c1 c2 : Nat) (q : Rat) (w : World) (h : Rf w s1 A1 n1 c1 A2 n2 c2 q) (hl1 : n1 ≤ 100000) (hl2 : n2 ≤ 100000) (F : Int) (HF : Hid (q.floor = F)) (h0 : 0 ≤ F) (h1 : F < 9223372036854775808) :
    Calls Tryd.prog 66 #[.agg #[.bool s1, .slice A1 n1 c1, .slice A2 n2 c2]] w (WholePost F 0 w) := by
  have hlen := h.len
  obtain ⟨a, ha⟩ : ∃ a : Nat, F = (a : Int) := ⟨F.toNat, by omega⟩
  have HP : Hid (rneg (F : Rat) = false ∧ rn (F : Rat) = a) := Lib.hid ⟨by unfold rneg; rw [Rat.num_intCast]; exact decide_eq_false (by omega), by unfold rn; rw [Rat.num_intCast]; omega⟩
  have HBL : Hid (blen a ≤ 64) := Lib.hid (blen_64 a (by omega))
  have Lq : Hid (ln (F : Rat) ≤ 100010) := Lib.hid (by rw [← HF.out]; have := ln_floor q; omega)
  obtain ⟨dl, hdl⟩ : ∃ d, d = (dig a).getD 0 0 := ⟨_, rfl⟩
  obtain ⟨dh, hdh⟩ : ∃ d, d = (dig a).getD 1 0 := ⟨_, rfl⟩
  have ht : a = dl + dh * 4294967296 := by rw [hdl, hdh]; exact dig_two a (by omega)
  have hdl32 : dl < 4294967296 := by rw [hdl]; exact ds_get (ds_dig a) _
  have hdh32 : dh < 4294967296 := by rw [hdh]; exact ds_get (ds_dig a) _
  have hor := or_lo dh dl a hdh32 hdl32 ht
  have HDL := Lib.hid hdl
  have HDH := Lib.hid hdh
  have HA := Lib.hid ha
  have HB := Lib.hid h0
  have HB1 := Lib.hid h1
  have HT := Lib.hid ht
  obtain ⟨u, HU, x1, xb⟩ := boxes1 w (.bool s1) (.slice A1 n1 c1) (.slice A2 n2 c2) 24
  replace h := h.below xb
  have p0 := x1.c0
  have p1 := x1.c1
  have p2 := x1.c2
  rw [HU.out] at p0 p1 p2
  clear ha hdl hdh ht
  clear h0 h1
  go_enter Tryd.func66, Tryd.ntmps66
  go_wp2_with fail
  rw [← HU.out]
  refine (takes_any s1 A1 A2 n1 n2 c1 c2 q _ h (by omega) (by omega)).mono ?_
  rintro e w1 ⟨s3, A3, n3, c3, A4, n4, c4, rfl, m3, b3⟩
  have hn3 : n3 ≤ 1000000 := by have := m3.lens; omega
  have hn4 : n4 ≤ 1000001 := by have := m3.lens; omega
  replace xb := bthen xb b3
  go_wp2_with fail
  refine (nfloor_any s3 A3 A4 n3 n4 c3 c4 q _ m3 (by omega) (by omega)).mono ?_
  rintro e w2 ⟨s5, A5, n5, c5, A6, n6, c6, rfl, m5, b5⟩
  rw [HF.out] at m5
  have hn5 : n5 ≤ 100010 := by have := m5.lens; have := Lq.out; omega
  replace xb := bthen xb b5
  obtain ⟨u2, HU2, x2, xb2⟩ := boxes1 w2 (.bool s5) (.slice A5 n5 c5) (.slice A6 n6 c6) 66
  replace xb := bthen xb xb2
  have k5 := m5.num.below xb2
  rw [HP.out.2] at k5
  have hs := m5.neg
  rw [HP.out.1] at hs
  have q0 := x2.c0
  have q1 := x2.c1
  rw [HU2.out] at q0 q1
  subst hs
  clear m5 m3
  go_wp2_with fail
  rw [← HU2.out]
  refine (size_any A5 n5 c5 a _ k5 (by omega)).mono ?_
  rintro e w3 ⟨rfl, hw⟩
  subst hw
  have hbl := HBL.out
  have q0 := x2.c0
  have q1 := x2.c1
  have y2 := x2.drew
  have k6 := k5.drew
  have yb := below_drew xb
  have hs0 : (a : Int) ≤ 18446744073709551615 := by have := HA.out; have := HB.out; have := HB1.out; omega
  go_wp2_with fail
  clear hbl
  go_region_held3 (fun w' => w'.cell? ⟨w2.heap.size, 1, none⟩ = some (.slice A5 n5 c5))
    (first | (with_reducible exact x2.c1) | (with_reducible exact y2.c1) | go_keep)
    (first
      | (go_at_call 112
         (with_reducible refine (digit_any A5 n5 c5 _ 0 _ k6 (ds_dig a) (by omega) (by omega)).mono ?_)
         rintro e w5 ⟨rfl, hw⟩
         subst hw
         rw [show (0 : Int).toNat = 0 from rfl, ← HDL.out])
      | (go_at_call 112
         (with_reducible refine (digit_any A5 n5 c5 _ 1 _ k6 (ds_dig a) (by omega) (by omega)).mono ?_)
         rintro e w5 ⟨rfl, hw⟩
         subst hw
         rw [show (1 : Int).toNat = 1 from rfl, ← HDH.out]))
  have q0 := y2.c0
  have hlt : (a : Int) < 9223372036854775808 := by have := HA.out; have := HB.out; have := HB1.out; omega
  go_wp2_with fail
  go_ret2
  exact ⟨by show Ending.returned (.tuple #[.int .i64 (bits .or .u64 (dl : Int) ((dh : Int) * 4294967296)), .int .i64 0]) = _; rw [hor, HA.out], yb⟩
set_option maxHeartbeats 4000000 in
theorem Whole_b (s1 : Bool) (A1 A2 : Option Addr) (n1 n2 c1 c2 : Nat) (q : Rat) (w : World) (h : Rf w s1 A1 n1 c1 A2 n2 c2 q) (hl1 : n1 ≤ 100000) (hl2 : n2 ≤ 100000) (F : Int) (HF : Hid (q.floor = F)) (h0 : 9223372036854775808 ≤ F) (h1 : F < 18446744073709551616) :
    Calls Tryd.prog 66 #[.agg #[.bool s1, .slice A1 n1 c1, .slice A2 n2 c2]] w (WholePost 0 6 w) := by
  have hlen := h.len
  obtain ⟨a, ha⟩ : ∃ a : Nat, F = (a : Int) := ⟨F.toNat, by omega⟩
  have HP : Hid (rneg (F : Rat) = false ∧ rn (F : Rat) = a) := Lib.hid ⟨by unfold rneg; rw [Rat.num_intCast]; exact decide_eq_false (by omega), by unfold rn; rw [Rat.num_intCast]; omega⟩
  have HBL : Hid (blen a ≤ 64) := Lib.hid (blen_64 a (by omega))
  have Lq : Hid (ln (F : Rat) ≤ 100010) := Lib.hid (by rw [← HF.out]; have := ln_floor q; omega)
  obtain ⟨dl, hdl⟩ : ∃ d, d = (dig a).getD 0 0 := ⟨_, rfl⟩
  obtain ⟨dh, hdh⟩ : ∃ d, d = (dig a).getD 1 0 := ⟨_, rfl⟩
  have ht : a = dl + dh * 4294967296 := by rw [hdl, hdh]; exact dig_two a (by omega)
  have hdl32 : dl < 4294967296 := by rw [hdl]; exact ds_get (ds_dig a) _
  have hdh32 : dh < 4294967296 := by rw [hdh]; exact ds_get (ds_dig a) _
  have hor := or_lo dh dl a hdh32 hdl32 ht
  have HDL := Lib.hid hdl
  have HDH := Lib.hid hdh
  have HA := Lib.hid ha
  have HB := Lib.hid h0
  have HB1 := Lib.hid h1
  have HT := Lib.hid ht
  obtain ⟨u, HU, x1, xb⟩ := boxes1 w (.bool s1) (.slice A1 n1 c1) (.slice A2 n2 c2) 24
  replace h := h.below xb
  have p0 := x1.c0
  have p1 := x1.c1
  have p2 := x1.c2
  rw [HU.out] at p0 p1 p2
  clear ha hdl hdh ht
  clear h0 h1
  go_enter Tryd.func66, Tryd.ntmps66
  go_wp2_with fail
  rw [← HU.out]
  refine (takes_any s1 A1 A2 n1 n2 c1 c2 q _ h (by omega) (by omega)).mono ?_
  rintro e w1 ⟨s3, A3, n3, c3, A4, n4, c4, rfl, m3, b3⟩
  have hn3 : n3 ≤ 1000000 := by have := m3.lens; omega
  have hn4 : n4 ≤ 1000001 := by have := m3.lens; omega
  replace xb := bthen xb b3
  go_wp2_with fail
  refine (nfloor_any s3 A3 A4 n3 n4 c3 c4 q _ m3 (by omega) (by omega)).mono ?_
  rintro e w2 ⟨s5, A5, n5, c5, A6, n6, c6, rfl, m5, b5⟩
  rw [HF.out] at m5
  have hn5 : n5 ≤ 100010 := by have := m5.lens; have := Lq.out; omega
  replace xb := bthen xb b5
  obtain ⟨u2, HU2, x2, xb2⟩ := boxes1 w2 (.bool s5) (.slice A5 n5 c5) (.slice A6 n6 c6) 66
  replace xb := bthen xb xb2
  have k5 := m5.num.below xb2
  rw [HP.out.2] at k5
  have hs := m5.neg
  rw [HP.out.1] at hs
  have q0 := x2.c0
  have q1 := x2.c1
  rw [HU2.out] at q0 q1
  subst hs
  clear m5 m3
  go_wp2_with fail
  rw [← HU2.out]
  refine (size_any A5 n5 c5 a _ k5 (by omega)).mono ?_
  rintro e w3 ⟨rfl, hw⟩
  subst hw
  have hbl := HBL.out
  have q0 := x2.c0
  have q1 := x2.c1
  have y2 := x2.drew
  have k6 := k5.drew
  have yb := below_drew xb
  have hs0 : (a : Int) ≤ 18446744073709551615 := by have := HA.out; have := HB.out; have := HB1.out; omega
  go_wp2_with fail
  clear hbl
  go_region_held3 (fun w' => w'.cell? ⟨w2.heap.size, 1, none⟩ = some (.slice A5 n5 c5))
    (first | (with_reducible exact x2.c1) | (with_reducible exact y2.c1) | go_keep)
    (first
      | (go_at_call 112
         (with_reducible refine (digit_any A5 n5 c5 _ 0 _ k6 (ds_dig a) (by omega) (by omega)).mono ?_)
         rintro e w5 ⟨rfl, hw⟩
         subst hw
         rw [show (0 : Int).toNat = 0 from rfl, ← HDL.out])
      | (go_at_call 112
         (with_reducible refine (digit_any A5 n5 c5 _ 1 _ k6 (ds_dig a) (by omega) (by omega)).mono ?_)
         rintro e w5 ⟨rfl, hw⟩
         subst hw
         rw [show (1 : Int).toNat = 1 from rfl, ← HDH.out]))
  have q0 := y2.c0
  have hge : decide ((a : Int) < 9223372036854775808) = false := decide_eq_false (by have := HA.out; have := HB.out; have := HB1.out; omega)
  go_wp2_with fail
  go_ret2
  exact ⟨rfl, yb⟩
set_option maxHeartbeats 4000000 in
theorem Whole_c (s1 : Bool) (A1 A2 : Option Addr) (n1 n2 c1 c2 : Nat) (q : Rat) (w : World) (h : Rf w s1 A1 n1 c1 A2 n2 c2 q) (hl1 : n1 ≤ 100000) (hl2 : n2 ≤ 100000) (F : Int) (HF : Hid (q.floor = F)) (h0 : -9223372036854775808 ≤ F) (h1 : F < 0) :
    Calls Tryd.prog 66 #[.agg #[.bool s1, .slice A1 n1 c1, .slice A2 n2 c2]] w (WholePost F 0 w) := by
  have hlen := h.len
  obtain ⟨a, ha⟩ : ∃ a : Nat, F = -(a : Int) := ⟨F.natAbs, by omega⟩
  have HP : Hid (rneg (F : Rat) = true ∧ rn (F : Rat) = a) := Lib.hid ⟨by unfold rneg; rw [Rat.num_intCast]; exact decide_eq_true (by omega), by unfold rn; rw [Rat.num_intCast]; omega⟩
  have HBL : Hid (blen a ≤ 64) := Lib.hid (blen_64 a (by omega))
  have Lq : Hid (ln (F : Rat) ≤ 100010) := Lib.hid (by rw [← HF.out]; have := ln_floor q; omega)
  obtain ⟨dl, hdl⟩ : ∃ d, d = (dig a).getD 0 0 := ⟨_, rfl⟩
  obtain ⟨dh, hdh⟩ : ∃ d, d = (dig a).getD 1 0 := ⟨_, rfl⟩
  have ht : a = dl + dh * 4294967296 := by rw [hdl, hdh]; exact dig_two a (by omega)
  have hdl32 : dl < 4294967296 := by rw [hdl]; exact ds_get (ds_dig a) _
  have hdh32 : dh < 4294967296 := by rw [hdh]; exact ds_get (ds_dig a) _
  have hor := or_lo dh dl a hdh32 hdl32 ht
  have HDL := Lib.hid hdl
  have HDH := Lib.hid hdh
  have HA := Lib.hid ha
  have HB := Lib.hid h0
  have HB1 := Lib.hid h1
  have HT := Lib.hid ht
  obtain ⟨u, HU, x1, xb⟩ := boxes1 w (.bool s1) (.slice A1 n1 c1) (.slice A2 n2 c2) 24
  replace h := h.below xb
  have p0 := x1.c0
  have p1 := x1.c1
  have p2 := x1.c2
  rw [HU.out] at p0 p1 p2
  clear ha hdl hdh ht
  clear h0 h1
  go_enter Tryd.func66, Tryd.ntmps66
  go_wp2_with fail
  rw [← HU.out]
  refine (takes_any s1 A1 A2 n1 n2 c1 c2 q _ h (by omega) (by omega)).mono ?_
  rintro e w1 ⟨s3, A3, n3, c3, A4, n4, c4, rfl, m3, b3⟩
  have hn3 : n3 ≤ 1000000 := by have := m3.lens; omega
  have hn4 : n4 ≤ 1000001 := by have := m3.lens; omega
  replace xb := bthen xb b3
  go_wp2_with fail
  refine (nfloor_any s3 A3 A4 n3 n4 c3 c4 q _ m3 (by omega) (by omega)).mono ?_
  rintro e w2 ⟨s5, A5, n5, c5, A6, n6, c6, rfl, m5, b5⟩
  rw [HF.out] at m5
  have hn5 : n5 ≤ 100010 := by have := m5.lens; have := Lq.out; omega
  replace xb := bthen xb b5
  obtain ⟨u2, HU2, x2, xb2⟩ := boxes1 w2 (.bool s5) (.slice A5 n5 c5) (.slice A6 n6 c6) 66
  replace xb := bthen xb xb2
  have k5 := m5.num.below xb2
  rw [HP.out.2] at k5
  have hs := m5.neg
  rw [HP.out.1] at hs
  have q0 := x2.c0
  have q1 := x2.c1
  rw [HU2.out] at q0 q1
  subst hs
  clear m5 m3
  go_wp2_with fail
  rw [← HU2.out]
  refine (size_any A5 n5 c5 a _ k5 (by omega)).mono ?_
  rintro e w3 ⟨rfl, hw⟩
  subst hw
  have hbl := HBL.out
  have q0 := x2.c0
  have q1 := x2.c1
  have y2 := x2.drew
  have k6 := k5.drew
  have yb := below_drew xb
  have hs0 : (a : Int) ≤ 18446744073709551615 := by have := HA.out; have := HB.out; have := HB1.out; omega
  go_wp2_with fail
  clear hbl
  go_region_held3 (fun w' => w'.cell? ⟨w2.heap.size, 1, none⟩ = some (.slice A5 n5 c5))
    (first | (with_reducible exact x2.c1) | (with_reducible exact y2.c1) | go_keep)
    (first
      | (go_at_call 112
         (with_reducible refine (digit_any A5 n5 c5 _ 0 _ k6 (ds_dig a) (by omega) (by omega)).mono ?_)
         rintro e w5 ⟨rfl, hw⟩
         subst hw
         rw [show (0 : Int).toNat = 0 from rfl, ← HDL.out])
      | (go_at_call 112
         (with_reducible refine (digit_any A5 n5 c5 _ 1 _ k6 (ds_dig a) (by omega) (by omega)).mono ?_)
         rintro e w5 ⟨rfl, hw⟩
         subst hw
         rw [show (1 : Int).toNat = 1 from rfl, ← HDH.out]))
  have q0 := y2.c0
  have hge : (a : Int) ≤ 9223372036854775808 := by have := HA.out; have := HB.out; have := HB1.out; omega
  have hge1 : (1 : Int) ≤ (a : Int) := by have := HA.out; have := HB.out; have := HB1.out; omega
  go_wp2_with fail
  go_ret2
  exact ⟨by show Ending.returned (.tuple #[.int .i64 (-((a : Int) - 1) - 1), .int .i64 0]) = _; rw [HA.out, show -((a : Int) - 1) - 1 = -(a : Int) from by omega], yb⟩
set_option maxHeartbeats 4000000 in
theorem Whole_d (s1 : Bool) (A1 A2 : Option Addr) (n1 n2 c1 c2 : Nat) (q : Rat) (w : World) (h : Rf w s1 A1 n1 c1 A2 n2 c2 q) (hl1 : n1 ≤ 100000) (hl2 : n2 ≤ 100000) (F : Int) (HF : Hid (q.floor = F)) (h0 : -18446744073709551616 < F) (h1 : F < -9223372036854775808) :
    Calls Tryd.prog 66 #[.agg #[.bool s1, .slice A1 n1 c1, .slice A2 n2 c2]] w (WholePost 0 6 w) := by
  have hlen := h.len
  obtain ⟨a, ha⟩ : ∃ a : Nat, F = -(a : Int) := ⟨F.natAbs, by omega⟩
  have HP : Hid (rneg (F : Rat) = true ∧ rn (F : Rat) = a) := Lib.hid ⟨by unfold rneg; rw [Rat.num_intCast]; exact decide_eq_true (by omega), by unfold rn; rw [Rat.num_intCast]; omega⟩
  have HBL : Hid (blen a ≤ 64) := Lib.hid (blen_64 a (by omega))
  have Lq : Hid (ln (F : Rat) ≤ 100010) := Lib.hid (by rw [← HF.out]; have := ln_floor q; omega)
  obtain ⟨dl, hdl⟩ : ∃ d, d = (dig a).getD 0 0 := ⟨_, rfl⟩
  obtain ⟨dh, hdh⟩ : ∃ d, d = (dig a).getD 1 0 := ⟨_, rfl⟩
  have ht : a = dl + dh * 4294967296 := by rw [hdl, hdh]; exact dig_two a (by omega)
  have hdl32 : dl < 4294967296 := by rw [hdl]; exact ds_get (ds_dig a) _
  have hdh32 : dh < 4294967296 := by rw [hdh]; exact ds_get (ds_dig a) _
  have hor := or_lo dh dl a hdh32 hdl32 ht
  have HDL := Lib.hid hdl
  have HDH := Lib.hid hdh
  have HA := Lib.hid ha
  have HB := Lib.hid h0
  have HB1 := Lib.hid h1
  have HT := Lib.hid ht
  obtain ⟨u, HU, x1, xb⟩ := boxes1 w (.bool s1) (.slice A1 n1 c1) (.slice A2 n2 c2) 24
  replace h := h.below xb
  have p0 := x1.c0
  have p1 := x1.c1
  have p2 := x1.c2
  rw [HU.out] at p0 p1 p2
  clear ha hdl hdh ht
  clear h0 h1
  go_enter Tryd.func66, Tryd.ntmps66
  go_wp2_with fail
  rw [← HU.out]
  refine (takes_any s1 A1 A2 n1 n2 c1 c2 q _ h (by omega) (by omega)).mono ?_
  rintro e w1 ⟨s3, A3, n3, c3, A4, n4, c4, rfl, m3, b3⟩
  have hn3 : n3 ≤ 1000000 := by have := m3.lens; omega
  have hn4 : n4 ≤ 1000001 := by have := m3.lens; omega
  replace xb := bthen xb b3
  go_wp2_with fail
  refine (nfloor_any s3 A3 A4 n3 n4 c3 c4 q _ m3 (by omega) (by omega)).mono ?_
  rintro e w2 ⟨s5, A5, n5, c5, A6, n6, c6, rfl, m5, b5⟩
  rw [HF.out] at m5
  have hn5 : n5 ≤ 100010 := by have := m5.lens; have := Lq.out; omega
  replace xb := bthen xb b5
  obtain ⟨u2, HU2, x2, xb2⟩ := boxes1 w2 (.bool s5) (.slice A5 n5 c5) (.slice A6 n6 c6) 66
  replace xb := bthen xb xb2
  have k5 := m5.num.below xb2
  rw [HP.out.2] at k5
  have hs := m5.neg
  rw [HP.out.1] at hs
  have q0 := x2.c0
  have q1 := x2.c1
  rw [HU2.out] at q0 q1
  subst hs
  clear m5 m3
  go_wp2_with fail
  rw [← HU2.out]
  refine (size_any A5 n5 c5 a _ k5 (by omega)).mono ?_
  rintro e w3 ⟨rfl, hw⟩
  subst hw
  have hbl := HBL.out
  have q0 := x2.c0
  have q1 := x2.c1
  have y2 := x2.drew
  have k6 := k5.drew
  have yb := below_drew xb
  have hs0 : (a : Int) ≤ 18446744073709551615 := by have := HA.out; have := HB.out; have := HB1.out; omega
  go_wp2_with fail
  clear hbl
  go_region_held3 (fun w' => w'.cell? ⟨w2.heap.size, 1, none⟩ = some (.slice A5 n5 c5))
    (first | (with_reducible exact x2.c1) | (with_reducible exact y2.c1) | go_keep)
    (first
      | (go_at_call 112
         (with_reducible refine (digit_any A5 n5 c5 _ 0 _ k6 (ds_dig a) (by omega) (by omega)).mono ?_)
         rintro e w5 ⟨rfl, hw⟩
         subst hw
         rw [show (0 : Int).toNat = 0 from rfl, ← HDL.out])
      | (go_at_call 112
         (with_reducible refine (digit_any A5 n5 c5 _ 1 _ k6 (ds_dig a) (by omega) (by omega)).mono ?_)
         rintro e w5 ⟨rfl, hw⟩
         subst hw
         rw [show (1 : Int).toNat = 1 from rfl, ← HDH.out]))
  have q0 := y2.c0
  have hge : (9223372036854775808 : Int) < (a : Int) := by have := HA.out; have := HB.out; have := HB1.out; omega
  go_wp2_with fail
  go_ret2
  exact ⟨rfl, yb⟩
set_option maxHeartbeats 4000000 in
theorem Whole_e (s1 : Bool) (A1 A2 : Option Addr) (n1 n2 c1 c2 : Nat) (q : Rat) (w : World) (h : Rf w s1 A1 n1 c1 A2 n2 c2 q) (hl1 : n1 ≤ 100000) (hl2 : n2 ≤ 100000) (F : Int) (HF : Hid (q.floor = F)) (h0 : 18446744073709551616 ≤ F) :
    Calls Tryd.prog 66 #[.agg #[.bool s1, .slice A1 n1 c1, .slice A2 n2 c2]] w (WholePost 0 6 w) := by
  have hlen := h.len
  obtain ⟨a, ha⟩ : ∃ a : Nat, F = (a : Int) := ⟨F.toNat, by omega⟩
  have HP : Hid (rneg (F : Rat) = false ∧ rn (F : Rat) = a) := Lib.hid ⟨by unfold rneg; rw [Rat.num_intCast]; exact decide_eq_false (by omega), by unfold rn; rw [Rat.num_intCast]; omega⟩
  have HBL : Hid (64 < blen a) := Lib.hid (blen_big a (by omega))
  have Lq : Hid (ln (F : Rat) ≤ 100010) := Lib.hid (by rw [← HF.out]; have := ln_floor q; omega)
  have HA := Lib.hid ha
  have HB := Lib.hid h0
  obtain ⟨u, HU, x1, xb⟩ := boxes1 w (.bool s1) (.slice A1 n1 c1) (.slice A2 n2 c2) 24
  replace h := h.below xb
  have p0 := x1.c0
  have p1 := x1.c1
  have p2 := x1.c2
  rw [HU.out] at p0 p1 p2
  clear ha
  clear h0
  go_enter Tryd.func66, Tryd.ntmps66
  go_wp2_with fail
  rw [← HU.out]
  refine (takes_any s1 A1 A2 n1 n2 c1 c2 q _ h (by omega) (by omega)).mono ?_
  rintro e w1 ⟨s3, A3, n3, c3, A4, n4, c4, rfl, m3, b3⟩
  have hn3 : n3 ≤ 1000000 := by have := m3.lens; omega
  have hn4 : n4 ≤ 1000001 := by have := m3.lens; omega
  replace xb := bthen xb b3
  go_wp2_with fail
  refine (nfloor_any s3 A3 A4 n3 n4 c3 c4 q _ m3 (by omega) (by omega)).mono ?_
  rintro e w2 ⟨s5, A5, n5, c5, A6, n6, c6, rfl, m5, b5⟩
  rw [HF.out] at m5
  have hn5 : n5 ≤ 100010 := by have := m5.lens; have := Lq.out; omega
  replace xb := bthen xb b5
  obtain ⟨u2, HU2, x2, xb2⟩ := boxes1 w2 (.bool s5) (.slice A5 n5 c5) (.slice A6 n6 c6) 66
  replace xb := bthen xb xb2
  have k5 := m5.num.below xb2
  rw [HP.out.2] at k5
  have hs := m5.neg
  rw [HP.out.1] at hs
  have q0 := x2.c0
  have q1 := x2.c1
  rw [HU2.out] at q0 q1
  subst hs
  clear m5 m3
  go_wp2_with fail
  rw [← HU2.out]
  refine (size_any A5 n5 c5 a _ k5 (by omega)).mono ?_
  rintro e w3 ⟨rfl, hw⟩
  subst hw
  have hbl := HBL.out
  go_wp2_with fail
  go_ret2
  exact ⟨rfl, xb⟩
set_option maxHeartbeats 4000000 in
theorem Whole_f (s1 : Bool) (A1 A2 : Option Addr) (n1 n2 c1 c2 : Nat) (q : Rat) (w : World) (h : Rf w s1 A1 n1 c1 A2 n2 c2 q) (hl1 : n1 ≤ 100000) (hl2 : n2 ≤ 100000) (F : Int) (HF : Hid (q.floor = F)) (h0 : F ≤ -18446744073709551616) :
    Calls Tryd.prog 66 #[.agg #[.bool s1, .slice A1 n1 c1, .slice A2 n2 c2]] w (WholePost 0 6 w) := by
  have hlen := h.len
  obtain ⟨a, ha⟩ : ∃ a : Nat, F = -(a : Int) := ⟨F.natAbs, by omega⟩
  have HP : Hid (rneg (F : Rat) = true ∧ rn (F : Rat) = a) := Lib.hid ⟨by unfold rneg; rw [Rat.num_intCast]; exact decide_eq_true (by omega), by unfold rn; rw [Rat.num_intCast]; omega⟩
  have HBL : Hid (64 < blen a) := Lib.hid (blen_big a (by omega))
  have Lq : Hid (ln (F : Rat) ≤ 100010) := Lib.hid (by rw [← HF.out]; have := ln_floor q; omega)
  have HA := Lib.hid ha
  have HB := Lib.hid h0
  obtain ⟨u, HU, x1, xb⟩ := boxes1 w (.bool s1) (.slice A1 n1 c1) (.slice A2 n2 c2) 24
  replace h := h.below xb
  have p0 := x1.c0
  have p1 := x1.c1
  have p2 := x1.c2
  rw [HU.out] at p0 p1 p2
  clear ha
  clear h0
  go_enter Tryd.func66, Tryd.ntmps66
  go_wp2_with fail
  rw [← HU.out]
  refine (takes_any s1 A1 A2 n1 n2 c1 c2 q _ h (by omega) (by omega)).mono ?_
  rintro e w1 ⟨s3, A3, n3, c3, A4, n4, c4, rfl, m3, b3⟩
  have hn3 : n3 ≤ 1000000 := by have := m3.lens; omega
  have hn4 : n4 ≤ 1000001 := by have := m3.lens; omega
  replace xb := bthen xb b3
  go_wp2_with fail
  refine (nfloor_any s3 A3 A4 n3 n4 c3 c4 q _ m3 (by omega) (by omega)).mono ?_
  rintro e w2 ⟨s5, A5, n5, c5, A6, n6, c6, rfl, m5, b5⟩
  rw [HF.out] at m5
  have hn5 : n5 ≤ 100010 := by have := m5.lens; have := Lq.out; omega
  replace xb := bthen xb b5
  obtain ⟨u2, HU2, x2, xb2⟩ := boxes1 w2 (.bool s5) (.slice A5 n5 c5) (.slice A6 n6 c6) 66
  replace xb := bthen xb xb2
  have k5 := m5.num.below xb2
  rw [HP.out.2] at k5
  have hs := m5.neg
  rw [HP.out.1] at hs
  have q0 := x2.c0
  have q1 := x2.c1
  rw [HU2.out] at q0 q1
  subst hs
  clear m5 m3
  go_wp2_with fail
  rw [← HU2.out]
  refine (size_any A5 n5 c5 a _ k5 (by omega)).mono ?_
  rintro e w3 ⟨rfl, hw⟩
  subst hw
  have hbl := HBL.out
  go_wp2_with fail
  go_ret2
  exact ⟨rfl, xb⟩
/-- A number and whether it is an int: then it is F. -/
def IntPost (F : Int) (is : Bool) (w : World) (e : Ending) (w' : World) : Prop := ∃ v, e = .returned (.tuple #[.int .i64 v, .bool is]) ∧ (is = true → v = F) ∧ Below w.heap.size w w'
set_option maxHeartbeats 4000000 in
theorem rInt_a (s1 : Bool) (A1 A2 : Option Addr) (n1 n2 c1 c2 : Nat) (w : World) (F : Int) (h : Fr w s1 A1 n1 c1 A2 n2 c2 (F : Rat)) (h0 : 0 ≤ F) (h1 : F < 9223372036854775808) :
    Calls Tryd.prog 67 #[.agg #[.bool s1, .slice A1 n1 c1, .slice A2 n2 c2]] w (IntPost F true w) := by
  obtain ⟨a, ha⟩ : ∃ a : Nat, F = (a : Int) := ⟨F.toNat, by omega⟩
  have HP : Hid (rneg (F : Rat) = false ∧ rn (F : Rat) = a) := Lib.hid ⟨by unfold rneg; rw [Rat.num_intCast]; exact decide_eq_false (by omega), by unfold rn; rw [Rat.num_intCast]; omega⟩
  have hs := h.neg
  rw [HP.out.1] at hs
  subst hs
  obtain ⟨u, HU, x1, xb⟩ := boxes1 w (.bool false) (.slice A1 n1 c1) (.slice A2 n2 c2) 24
  have k1 := h.num.below xb
  rw [HP.out.2] at k1
  have HA := Lib.hid ha
  have hl : n1 ≤ 2 := by rw [← k1.len]; exact len_two (by omega)
  have p1 := x1.c1
  rw [HU.out] at p1
  have q0 := x1.c0
  have HB := Lib.hid h0
  have HB1 := Lib.hid h1
  clear ha h0 h1 h
  go_enter Tryd.func67, Tryd.ntmps67
  go_wp2_with fail
  rw [← HU.out]
  refine (rtrim_dig A1 n1 c1 a _ k1 (by omega)).mono ?_
  rintro e w1 ⟨m1, d1, rfl, g1, hw⟩
  replace hw := hw.symm
  subst hw
  have hm := k1.len.symm.trans g1.len
  subst hm
  go_wp2_with fail
  go_loop [5, 6] (fun r i => ∃ (k R : Nat), k ≤ n1 ∧ i = .int .i64 ((k : Int) - 1) ∧ r = .int .u64 R ∧ Hid (R = val ((dig a).drop k)))
    (fun _ i => (intOf i + 1).toNat)
  case atStart => exact ⟨n1, 0, Nat.le_refl _, by go_num, rfl, Lib.hid (by rw [val_drop_ge _ _ (Nat.le_of_eq g1.len)])⟩
  case round =>
    obtain ⟨k, R, hk, rfl, rfl, HV⟩ := hrel
    by_cases hk0 : k = 0
    · subst hk0
      have HR : Hid (R = a) := Lib.hid (by rw [HV.out, List.drop_zero, val_dig])
      replace HR := HR.out
      subst HR
      have hlt : (R : Int) < 9223372036854775808 := by have := HA.out; have := HB1.out; omega
      go_wp2_with fail
      go_ret2
      exact ⟨F, by show Ending.returned (.tuple #[.int .i64 (R : Int), .bool true]) = _; rw [HA.out], fun _ => rfl, xb⟩
    · obtain ⟨x, hx⟩ : ∃ x : Nat, x = (dig a).getD (k - 1) 0 := ⟨_, rfl⟩
      have hx32 : x < 4294967296 := by rw [hx]; exact ds_get (ds_dig a) _
      have hR32 : R < 4294967296 := by
        rw [HV.out]
        have e1 := val_lt (ds_drop (ds_dig a) k)
        have e2 : ((dig a).drop k).length ≤ 1 := by rw [List.length_drop, g1.len]; omega
        have e3 := Nat.pow_le_pow_right (show 0 < 4294967296 by decide) e2
        rw [Nat.pow_one] at e3
        omega
      obtain ⟨ad1, rfl, hc1⟩ := g1.at_ (k := k - 1) (by omega)
      rw [← hx] at hc1
      have i1 : (0 : Int) ≤ (k : Int) - 1 := by omega
      have i2 : (k : Int) - 1 < (n1 : Int) := by omega
      have i3 : ((k : Int) - 1).toNat = k - 1 := by omega
      obtain ⟨s, hs⟩ : ∃ s : Nat, s = R * 4294967296 + x := ⟨_, rfl⟩
      have hor := or_hi R x s hR32 hx32 hs
      have hs0 : (s : Int) ≤ 18446744073709551615 := by omega
      have HN : Hid (s = val ((dig a).drop (k - 1))) := Lib.hid (by
        rw [val_drop' (dig a), ← hx, show k - 1 + 1 = k from by omega, ← HV.out, hs]; omega)
      have HS := Lib.hid hs
      clear hx hs
      go_wp2_with fail
      go_round
      case rel => exact ⟨k - 1, s, by omega, by go_num, by first | rfl | (rw [hor]) | simp [hor], HN⟩
      case measure => simp [intOf]; omega
set_option maxHeartbeats 4000000 in
theorem rInt_b (s1 : Bool) (A1 A2 : Option Addr) (n1 n2 c1 c2 : Nat) (w : World) (F : Int) (h : Fr w s1 A1 n1 c1 A2 n2 c2 (F : Rat)) (h0 : 9223372036854775808 ≤ F) (h1 : F < 18446744073709551616) :
    Calls Tryd.prog 67 #[.agg #[.bool s1, .slice A1 n1 c1, .slice A2 n2 c2]] w (IntPost F false w) := by
  obtain ⟨a, ha⟩ : ∃ a : Nat, F = (a : Int) := ⟨F.toNat, by omega⟩
  have HP : Hid (rneg (F : Rat) = false ∧ rn (F : Rat) = a) := Lib.hid ⟨by unfold rneg; rw [Rat.num_intCast]; exact decide_eq_false (by omega), by unfold rn; rw [Rat.num_intCast]; omega⟩
  have hs := h.neg
  rw [HP.out.1] at hs
  subst hs
  obtain ⟨u, HU, x1, xb⟩ := boxes1 w (.bool false) (.slice A1 n1 c1) (.slice A2 n2 c2) 24
  have k1 := h.num.below xb
  rw [HP.out.2] at k1
  have HA := Lib.hid ha
  have hl : n1 ≤ 2 := by rw [← k1.len]; exact len_two (by omega)
  have p1 := x1.c1
  rw [HU.out] at p1
  have q0 := x1.c0
  have HB := Lib.hid h0
  have HB1 := Lib.hid h1
  clear ha h0 h1 h
  go_enter Tryd.func67, Tryd.ntmps67
  go_wp2_with fail
  rw [← HU.out]
  refine (rtrim_dig A1 n1 c1 a _ k1 (by omega)).mono ?_
  rintro e w1 ⟨m1, d1, rfl, g1, hw⟩
  replace hw := hw.symm
  subst hw
  have hm := k1.len.symm.trans g1.len
  subst hm
  go_wp2_with fail
  go_loop [5, 6] (fun r i => ∃ (k R : Nat), k ≤ n1 ∧ i = .int .i64 ((k : Int) - 1) ∧ r = .int .u64 R ∧ Hid (R = val ((dig a).drop k)))
    (fun _ i => (intOf i + 1).toNat)
  case atStart => exact ⟨n1, 0, Nat.le_refl _, by go_num, rfl, Lib.hid (by rw [val_drop_ge _ _ (Nat.le_of_eq g1.len)])⟩
  case round =>
    obtain ⟨k, R, hk, rfl, rfl, HV⟩ := hrel
    by_cases hk0 : k = 0
    · subst hk0
      have HR : Hid (R = a) := Lib.hid (by rw [HV.out, List.drop_zero, val_dig])
      replace HR := HR.out
      subst HR
      have hlt : decide ((R : Int) < 9223372036854775808) = false := decide_eq_false (by have := HA.out; have := HB.out; omega)
      go_wp2_with fail
      go_ret2
      exact ⟨_, rfl, (fun h => by cases h), xb⟩
    · obtain ⟨x, hx⟩ : ∃ x : Nat, x = (dig a).getD (k - 1) 0 := ⟨_, rfl⟩
      have hx32 : x < 4294967296 := by rw [hx]; exact ds_get (ds_dig a) _
      have hR32 : R < 4294967296 := by
        rw [HV.out]
        have e1 := val_lt (ds_drop (ds_dig a) k)
        have e2 : ((dig a).drop k).length ≤ 1 := by rw [List.length_drop, g1.len]; omega
        have e3 := Nat.pow_le_pow_right (show 0 < 4294967296 by decide) e2
        rw [Nat.pow_one] at e3
        omega
      obtain ⟨ad1, rfl, hc1⟩ := g1.at_ (k := k - 1) (by omega)
      rw [← hx] at hc1
      have i1 : (0 : Int) ≤ (k : Int) - 1 := by omega
      have i2 : (k : Int) - 1 < (n1 : Int) := by omega
      have i3 : ((k : Int) - 1).toNat = k - 1 := by omega
      obtain ⟨s, hs⟩ : ∃ s : Nat, s = R * 4294967296 + x := ⟨_, rfl⟩
      have hor := or_hi R x s hR32 hx32 hs
      have hs0 : (s : Int) ≤ 18446744073709551615 := by omega
      have HN : Hid (s = val ((dig a).drop (k - 1))) := Lib.hid (by
        rw [val_drop' (dig a), ← hx, show k - 1 + 1 = k from by omega, ← HV.out, hs]; omega)
      have HS := Lib.hid hs
      clear hx hs
      go_wp2_with fail
      go_round
      case rel => exact ⟨k - 1, s, by omega, by go_num, by first | rfl | (rw [hor]) | simp [hor], HN⟩
      case measure => simp [intOf]; omega
set_option maxHeartbeats 4000000 in
theorem rInt_c (s1 : Bool) (A1 A2 : Option Addr) (n1 n2 c1 c2 : Nat) (w : World) (F : Int) (h : Fr w s1 A1 n1 c1 A2 n2 c2 (F : Rat)) (h0 : -9223372036854775808 ≤ F) (h1 : F < 0) :
    Calls Tryd.prog 67 #[.agg #[.bool s1, .slice A1 n1 c1, .slice A2 n2 c2]] w (IntPost F true w) := by
  obtain ⟨a, ha⟩ : ∃ a : Nat, F = -(a : Int) := ⟨F.natAbs, by omega⟩
  have HP : Hid (rneg (F : Rat) = true ∧ rn (F : Rat) = a) := Lib.hid ⟨by unfold rneg; rw [Rat.num_intCast]; exact decide_eq_true (by omega), by unfold rn; rw [Rat.num_intCast]; omega⟩
  have hs := h.neg
  rw [HP.out.1] at hs
  subst hs
  obtain ⟨u, HU, x1, xb⟩ := boxes1 w (.bool true) (.slice A1 n1 c1) (.slice A2 n2 c2) 24
  have k1 := h.num.below xb
  rw [HP.out.2] at k1
  have HA := Lib.hid ha
  have hl : n1 ≤ 2 := by rw [← k1.len]; exact len_two (by omega)
  have p1 := x1.c1
  rw [HU.out] at p1
  have q0 := x1.c0
  have HB := Lib.hid h0
  have HB1 := Lib.hid h1
  clear ha h0 h1 h
  go_enter Tryd.func67, Tryd.ntmps67
  go_wp2_with fail
  rw [← HU.out]
  refine (rtrim_dig A1 n1 c1 a _ k1 (by omega)).mono ?_
  rintro e w1 ⟨m1, d1, rfl, g1, hw⟩
  replace hw := hw.symm
  subst hw
  have hm := k1.len.symm.trans g1.len
  subst hm
  go_wp2_with fail
  go_loop [5, 6] (fun r i => ∃ (k R : Nat), k ≤ n1 ∧ i = .int .i64 ((k : Int) - 1) ∧ r = .int .u64 R ∧ Hid (R = val ((dig a).drop k)))
    (fun _ i => (intOf i + 1).toNat)
  case atStart => exact ⟨n1, 0, Nat.le_refl _, by go_num, rfl, Lib.hid (by rw [val_drop_ge _ _ (Nat.le_of_eq g1.len)])⟩
  case round =>
    obtain ⟨k, R, hk, rfl, rfl, HV⟩ := hrel
    by_cases hk0 : k = 0
    · subst hk0
      have HR : Hid (R = a) := Lib.hid (by rw [HV.out, List.drop_zero, val_dig])
      replace HR := HR.out
      subst HR
      have hlt : decide ((R : Int) ≤ 9223372036854775808) = true := decide_eq_true (by have := HA.out; have := HB.out; omega)
      go_wp2_with fail
      go_ret2
      have ew : wrap64 (IntKind.u64.wrap (-(R : Int))) = F := by
        have := HA.out
        have := HB.out
        have := HB1.out
        have k : IntKind.u64.wrap (-(R : Int)) = (-(R : Int)) % 18446744073709551616 := rfl
        rw [k]
        unfold wrap64
        omega
      exact ⟨F, by show Ending.returned (.tuple #[.int .i64 (wrap64 (IntKind.u64.wrap (-(R : Int)))), .bool true]) = _; rw [ew], fun _ => rfl, xb⟩
    · obtain ⟨x, hx⟩ : ∃ x : Nat, x = (dig a).getD (k - 1) 0 := ⟨_, rfl⟩
      have hx32 : x < 4294967296 := by rw [hx]; exact ds_get (ds_dig a) _
      have hR32 : R < 4294967296 := by
        rw [HV.out]
        have e1 := val_lt (ds_drop (ds_dig a) k)
        have e2 : ((dig a).drop k).length ≤ 1 := by rw [List.length_drop, g1.len]; omega
        have e3 := Nat.pow_le_pow_right (show 0 < 4294967296 by decide) e2
        rw [Nat.pow_one] at e3
        omega
      obtain ⟨ad1, rfl, hc1⟩ := g1.at_ (k := k - 1) (by omega)
      rw [← hx] at hc1
      have i1 : (0 : Int) ≤ (k : Int) - 1 := by omega
      have i2 : (k : Int) - 1 < (n1 : Int) := by omega
      have i3 : ((k : Int) - 1).toNat = k - 1 := by omega
      obtain ⟨s, hs⟩ : ∃ s : Nat, s = R * 4294967296 + x := ⟨_, rfl⟩
      have hor := or_hi R x s hR32 hx32 hs
      have hs0 : (s : Int) ≤ 18446744073709551615 := by omega
      have HN : Hid (s = val ((dig a).drop (k - 1))) := Lib.hid (by
        rw [val_drop' (dig a), ← hx, show k - 1 + 1 = k from by omega, ← HV.out, hs]; omega)
      have HS := Lib.hid hs
      clear hx hs
      go_wp2_with fail
      go_round
      case rel => exact ⟨k - 1, s, by omega, by go_num, by first | rfl | (rw [hor]) | simp [hor], HN⟩
      case measure => simp [intOf]; omega
set_option maxHeartbeats 4000000 in
theorem rInt_d (s1 : Bool) (A1 A2 : Option Addr) (n1 n2 c1 c2 : Nat) (w : World) (F : Int) (h : Fr w s1 A1 n1 c1 A2 n2 c2 (F : Rat)) (h0 : -18446744073709551616 < F) (h1 : F < -9223372036854775808) :
    Calls Tryd.prog 67 #[.agg #[.bool s1, .slice A1 n1 c1, .slice A2 n2 c2]] w (IntPost F false w) := by
  obtain ⟨a, ha⟩ : ∃ a : Nat, F = -(a : Int) := ⟨F.natAbs, by omega⟩
  have HP : Hid (rneg (F : Rat) = true ∧ rn (F : Rat) = a) := Lib.hid ⟨by unfold rneg; rw [Rat.num_intCast]; exact decide_eq_true (by omega), by unfold rn; rw [Rat.num_intCast]; omega⟩
  have hs := h.neg
  rw [HP.out.1] at hs
  subst hs
  obtain ⟨u, HU, x1, xb⟩ := boxes1 w (.bool true) (.slice A1 n1 c1) (.slice A2 n2 c2) 24
  have k1 := h.num.below xb
  rw [HP.out.2] at k1
  have HA := Lib.hid ha
  have hl : n1 ≤ 2 := by rw [← k1.len]; exact len_two (by omega)
  have p1 := x1.c1
  rw [HU.out] at p1
  have q0 := x1.c0
  have HB := Lib.hid h0
  have HB1 := Lib.hid h1
  clear ha h0 h1 h
  go_enter Tryd.func67, Tryd.ntmps67
  go_wp2_with fail
  rw [← HU.out]
  refine (rtrim_dig A1 n1 c1 a _ k1 (by omega)).mono ?_
  rintro e w1 ⟨m1, d1, rfl, g1, hw⟩
  replace hw := hw.symm
  subst hw
  have hm := k1.len.symm.trans g1.len
  subst hm
  go_wp2_with fail
  go_loop [5, 6] (fun r i => ∃ (k R : Nat), k ≤ n1 ∧ i = .int .i64 ((k : Int) - 1) ∧ r = .int .u64 R ∧ Hid (R = val ((dig a).drop k)))
    (fun _ i => (intOf i + 1).toNat)
  case atStart => exact ⟨n1, 0, Nat.le_refl _, by go_num, rfl, Lib.hid (by rw [val_drop_ge _ _ (Nat.le_of_eq g1.len)])⟩
  case round =>
    obtain ⟨k, R, hk, rfl, rfl, HV⟩ := hrel
    by_cases hk0 : k = 0
    · subst hk0
      have HR : Hid (R = a) := Lib.hid (by rw [HV.out, List.drop_zero, val_dig])
      replace HR := HR.out
      subst HR
      have hlt : decide ((R : Int) ≤ 9223372036854775808) = false := decide_eq_false (by have := HA.out; have := HB1.out; omega)
      go_wp2_with fail
      go_ret2
      exact ⟨_, rfl, (fun h => by cases h), xb⟩
    · obtain ⟨x, hx⟩ : ∃ x : Nat, x = (dig a).getD (k - 1) 0 := ⟨_, rfl⟩
      have hx32 : x < 4294967296 := by rw [hx]; exact ds_get (ds_dig a) _
      have hR32 : R < 4294967296 := by
        rw [HV.out]
        have e1 := val_lt (ds_drop (ds_dig a) k)
        have e2 : ((dig a).drop k).length ≤ 1 := by rw [List.length_drop, g1.len]; omega
        have e3 := Nat.pow_le_pow_right (show 0 < 4294967296 by decide) e2
        rw [Nat.pow_one] at e3
        omega
      obtain ⟨ad1, rfl, hc1⟩ := g1.at_ (k := k - 1) (by omega)
      rw [← hx] at hc1
      have i1 : (0 : Int) ≤ (k : Int) - 1 := by omega
      have i2 : (k : Int) - 1 < (n1 : Int) := by omega
      have i3 : ((k : Int) - 1).toNat = k - 1 := by omega
      obtain ⟨s, hs⟩ : ∃ s : Nat, s = R * 4294967296 + x := ⟨_, rfl⟩
      have hor := or_hi R x s hR32 hx32 hs
      have hs0 : (s : Int) ≤ 18446744073709551615 := by omega
      have HN : Hid (s = val ((dig a).drop (k - 1))) := Lib.hid (by
        rw [val_drop' (dig a), ← hx, show k - 1 + 1 = k from by omega, ← HV.out, hs]; omega)
      have HS := Lib.hid hs
      clear hx hs
      go_wp2_with fail
      go_round
      case rel => exact ⟨k - 1, s, by omega, by go_num, by first | rfl | (rw [hor]) | simp [hor], HN⟩
      case measure => simp [intOf]; omega
set_option maxHeartbeats 4000000 in
theorem rInt_big (s1 : Bool) (A1 A2 : Option Addr) (n1 n2 c1 c2 : Nat) (w : World) (F : Int) (h : Fr w s1 A1 n1 c1 A2 n2 c2 (F : Rat)) (h0 : F ≤ -18446744073709551616 ∨ 18446744073709551616 ≤ F) (hl1 : n1 ≤ 100000) :
    Calls Tryd.prog 67 #[.agg #[.bool s1, .slice A1 n1 c1, .slice A2 n2 c2]] w (IntPost F false w) := by
  have HP : Hid (rn (F : Rat) = F.natAbs) := Lib.hid (by unfold rn; rw [Rat.num_intCast])
  obtain ⟨u, HU, x1, xb⟩ := boxes1 w (.bool s1) (.slice A1 n1 c1) (.slice A2 n2 c2) 24
  have k1 := h.num.below xb
  rw [HP.out] at k1
  have hl : 2 < n1 := by
    rw [← k1.len]
    rcases Nat.lt_or_ge 2 (dig F.natAbs).length with h | h
    · exact h
    · have := len_le_iff.1 h
      have e : (4294967296 : Nat) ^ 2 = 18446744073709551616 := by decide
      omega
  have p1 := x1.c1
  rw [HU.out] at p1
  clear h0 h
  go_enter Tryd.func67, Tryd.ntmps67
  go_wp2_with fail
  rw [← HU.out]
  refine (rtrim_dig A1 n1 c1 _ _ k1 (by omega)).mono ?_
  rintro e w1 ⟨m1, d1, rfl, g1, hw⟩
  replace hw := hw.symm
  subst hw
  have hm := k1.len.symm.trans g1.len
  subst hm
  go_wp2_with fail
  go_ret2
  exact ⟨_, rfl, (fun h => by cases h), xb⟩
theorem Whole_in (s1 : Bool) (A1 A2 : Option Addr) (n1 n2 c1 c2 : Nat) (q : Rat) (w : World) (h : Rf w s1 A1 n1 c1 A2 n2 c2 q) (hl1 : n1 ≤ 100000) (hl2 : n2 ≤ 100000) (F : Int) (HF : Hid (q.floor = F)) (h0 : -9223372036854775808 ≤ F) (h1 : F ≤ 9223372036854775807) :
    Calls Tryd.prog 66 #[.agg #[.bool s1, .slice A1 n1 c1, .slice A2 n2 c2]] w (WholePost F 0 w) := by
  by_cases hn : F < 0
  · exact Whole_c s1 A1 A2 n1 n2 c1 c2 q w h hl1 hl2 F HF h0 hn
  · exact Whole_a s1 A1 A2 n1 n2 c1 c2 q w h hl1 hl2 F HF (by omega) (by omega)
theorem Whole_out (s1 : Bool) (A1 A2 : Option Addr) (n1 n2 c1 c2 : Nat) (q : Rat) (w : World) (h : Rf w s1 A1 n1 c1 A2 n2 c2 q) (hl1 : n1 ≤ 100000) (hl2 : n2 ≤ 100000) (F : Int) (HF : Hid (q.floor = F)) (h0 : ¬ (-9223372036854775808 ≤ F ∧ F ≤ 9223372036854775807)) :
    Calls Tryd.prog 66 #[.agg #[.bool s1, .slice A1 n1 c1, .slice A2 n2 c2]] w (WholePost 0 6 w) := by
  by_cases h1 : 18446744073709551616 ≤ F
  · exact Whole_e s1 A1 A2 n1 n2 c1 c2 q w h hl1 hl2 F HF h1
  by_cases h2 : F ≤ -18446744073709551616
  · exact Whole_f s1 A1 A2 n1 n2 c1 c2 q w h hl1 hl2 F HF h2
  by_cases h3 : 0 ≤ F
  · exact Whole_b s1 A1 A2 n1 n2 c1 c2 q w h hl1 hl2 F HF (by omega) (by omega)
  · exact Whole_d s1 A1 A2 n1 n2 c1 c2 q w h hl1 hl2 F HF (by omega) (by omega)
theorem rInt_in (s1 : Bool) (A1 A2 : Option Addr) (n1 n2 c1 c2 : Nat) (w : World) (F : Int) (h : Fr w s1 A1 n1 c1 A2 n2 c2 (F : Rat)) (h0 : -9223372036854775808 ≤ F) (h1 : F ≤ 9223372036854775807) :
    Calls Tryd.prog 67 #[.agg #[.bool s1, .slice A1 n1 c1, .slice A2 n2 c2]] w (IntPost F true w) := by
  by_cases hn : F < 0
  · exact rInt_c s1 A1 A2 n1 n2 c1 c2 w F h h0 hn
  · exact rInt_a s1 A1 A2 n1 n2 c1 c2 w F h (by omega) (by omega)
theorem rInt_out (s1 : Bool) (A1 A2 : Option Addr) (n1 n2 c1 c2 : Nat) (w : World) (F : Int) (h : Fr w s1 A1 n1 c1 A2 n2 c2 (F : Rat)) (h0 : ¬ (-9223372036854775808 ≤ F ∧ F ≤ 9223372036854775807)) (hl1 : n1 ≤ 100000) :
    Calls Tryd.prog 67 #[.agg #[.bool s1, .slice A1 n1 c1, .slice A2 n2 c2]] w (IntPost F false w) := by
  by_cases h1 : F ≤ -18446744073709551616 ∨ 18446744073709551616 ≤ F
  · exact rInt_big s1 A1 A2 n1 n2 c1 c2 w F h h1 hl1
  by_cases h3 : 0 ≤ F
  · exact rInt_b s1 A1 A2 n1 n2 c1 c2 w F h (by omega) (by omega)
  · exact rInt_d s1 A1 A2 n1 n2 c1 c2 w F h (by omega) (by omega)
end Go.Proofs.YtaahbabdbopphaaDoor
