/- frac.fold with number.add, and with number.mul. frac.Sum, Product, Add, Mul. frac.Best: the first one of the greatest. frac.Div, Make, Size. -/
import Derived.Test.YtaahbabdbopphaaDoorGA
namespace Go.Proofs.YtaahbabdbopphaaDoor
open Go.RowKit Mx
set_option maxRecDepth 100000

/-- The slice of Fracs at A: its values; each part has at most K digits. -/
def FL (w : World) (A : Option Addr) (K : Nat) (qs : List Rat) : Prop := ∀ i, i < qs.length → ∃ ad sb A1 n1 c1 A2 n2 c2, A = some ad ∧ w.cell? (ad.add (i * 3)) = some (.bool sb) ∧
  w.cell? ⟨(ad.add (i * 3)).block, (ad.add (i * 3)).off + 1, none⟩ = some (.slice A1 n1 c1) ∧ w.cell? ⟨(ad.add (i * 3)).block, (ad.add (i * 3)).off + 2, none⟩ = some (.slice A2 n2 c2) ∧
  Rf w sb A1 n1 c1 A2 n2 c2 (qs.getD i 0) ∧ n1 ≤ K ∧ n2 ≤ K
theorem FL.below {w w' : World} {A : Option Addr} {K : Nat} {qs : List Rat} (h : FL w A K qs) (hb : Below w.heap.size w w') : FL w' A K qs := fun i hi => by
  obtain ⟨ad, sb, A1, n1, c1, A2, n2, c2, hA, h0, h1, h2, hr, hk⟩ := h i hi
  exact ⟨ad, sb, A1, n1, c1, A2, n2, c2, hA, cell_below hb h0, cell_below hb h1, cell_below hb h2, hr.below hb, hk⟩
theorem sum_take (qs : List Rat) (p : Rat) (k : Nat) (h : k < qs.length) : (qs.take (k + 1)).foldl (· + ·) p = (qs.take k).foldl (· + ·) p + qs.getD k 0 := by
  rw [List.take_succ_eq_append_getElem h, List.foldl_append]
  simp [h]
theorem prod_take (qs : List Rat) (p : Rat) (k : Nat) (h : k < qs.length) : (qs.take (k + 1)).foldl (· * ·) p = (qs.take k).foldl (· * ·) p * qs.getD k 0 := by
  rw [List.take_succ_eq_append_getElem h, List.foldl_append]
  simp [h]

set_option maxHeartbeats 2000000 in
theorem fold_add (s1 : Bool) (A1 A2 : Option Addr) (n1 n2 c1 c2 : Nat) (A : Option Addr) (n c : Nat) (qs : List Rat) (p : Rat) (w : World) (h1 : Nm w s1 A1 n1 c1 A2 n2 c2 p) (h2 : FL w A 1000 qs) (hq : qs.length = n) (hn : n ≤ 10) (l1 : n1 ≤ 1000) (l2 : n2 ≤ 1000) :
    Calls Tryd.prog 95 #[.agg #[.bool s1, .slice A1 n1 c1, .slice A2 n2 c2], .func (.func 96) #[] #[], .slice A n c] w (NmPost (qs.foldl (· + ·) p) w) := by
  obtain ⟨u, HU, x1, x2, xb⟩ := boxes2 w (.bool s1) (.slice A1 n1 c1) (.slice A2 n2 c2) (.bool false) (.slice none 0 0) (.slice none 0 0) 66 66
  have m1 := h1.below xb
  have HQ := Lib.hid hq
  clear hq h1
  go_enter Tryd.func95, Tryd.ntmps95
  go_wp2_with fail
  rw [← HU.out]
  go_loopw [11] (fun i wr => ∃ (k : Nat) (s : Bool) (B1 : Option Addr) (m1 d1 : Nat) (B2 : Option Addr) (m2 d2 : Nat), k ≤ n ∧ i = .int .i64 k ∧ Bk wr w.heap.size (.bool s) (.slice B1 m1 d1) (.slice B2 m2 d2) ∧ Bk wr (w.heap.size + 1) (.bool false) (.slice none 0 0) (.slice none 0 0) ∧
      Nm wr s B1 m1 d1 B2 m2 d2 ((qs.take k).foldl (· + ·) p) ∧ m1 ≤ 1000 + 20000 * k ∧ m2 ≤ 1000 + 1001 * k ∧ Below w.heap.size w wr) (fun i _ => n - (intOf i).toNat)
  case atStart => exact ⟨0, s1, A1, n1, c1, A2, n2, c2, Nat.zero_le _, rfl, x1, x2, by simpa using m1, by omega, by omega, xb⟩
  case round =>
    clear x1 x2 xb m1
    obtain ⟨k, s, B1, m1, d1, B2, m2, d2, hk, rfl, y1, y2, nm, hm1, hm2, yb⟩ := hrel
    by_cases hlt : k < n
    · obtain ⟨ad, s3, A3, n3, c3, A4, n4, c4, rfl, k0, k1, k2, hr, hn3, hn4⟩ := (h2.below yb) k (by rw [HQ.out]; exact hlt)
      obtain ⟨q, hqe⟩ : ∃ q, q = qs.getD k 0 := ⟨_, rfl⟩
      rw [← hqe] at hr
      obtain ⟨pp, hpe⟩ : ∃ pp, pp = (qs.take k).foldl (· + ·) p := ⟨_, rfl⟩
      rw [← hpe] at nm
      have HS : Hid ((qs.take (k + 1)).foldl (· + ·) p = pp + q) := Lib.hid (by rw [sum_take qs p k (by rw [HQ.out]; exact hlt), ← hpe, ← hqe])
      have HL := Lib.hid hr.len
      have HA := Lib.hid (ln_add pp q)
      clear hqe hpe h2
      obtain ⟨v, HV, z3, zb⟩ := boxes1 wr (.bool s3) (.slice A3 n3 c3) (.slice A4 n4 c4) 24
      have z1 := (y1.below zb).drew
      have z2 := (y2.below zb).drew
      have zn := (nm.below zb).drew
      have zr := (hr.below zb).drew
      have z4 := z3.drew
      have zb' := below_drew (bthen yb zb)
      have r0 := (y1.below zb).c0
      have r1 := (y1.below zb).c1
      have r2 := (y1.below zb).c2
      have q0 := z3.c0
      have q1 := z3.c1
      have q2 := z3.c2
      go_wp2_with fail
      rw [← HV.out]
      go_region_with
        (first
          | (go_at_call 70
             (with_reducible refine (takes_any s3 A3 A4 n3 n4 c3 c4 q _ zr (by omega) (by omega)).mono ?_)
             rintro e w3 ⟨s5, A5, n5, c5, A6, n6, c6, rfl, g5, b3⟩
             have hn5 : n5 ≤ 1000 := by have := g5.lens; have := HL.out; omega
             have hn6 : n6 ≤ 1001 := by have := g5.lens; have := HL.out; omega
             have a1 := z1.below b3
             have a2 := z2.below b3
             have a4 := z4.below b3
             have an := zn.below b3
             have ab := bthen zb' b3
             have e0 := a1.c0
             have e1 := a1.c1
             have e2 := a1.c2)
          | (go_at_call 96
             (with_reducible refine (nadd_any s s5 B1 B2 A5 A6 m1 m2 n5 n6 d1 d2 c5 c6 pp q _ an g5 (by omega) (by omega) (by omega) (by omega)).mono ?_)
             rintro e w4 ⟨s7, A7, n7, c7, A8, n8, c8, rfl, g7, b4'⟩
             have hn7 : n7 ≤ 1000 + 20000 * (k + 1) := by have := g7.lens; have := HA.out; have := g5.lens; have := an.lens; omega
             have hn8 : n8 ≤ 1000 + 1001 * (k + 1) := by have := g7.lens; have := HA.out; have := g5.lens; have := an.lens; omega
             have b1 := a1.below b4'
             have b2 := a2.below b4'
             have b4 := a4.below b4'
             have bb := bthen ab b4'
             have f0 := b1.c0
             have f1 := b1.c1
             have f2 := b1.c2
             have v0 := b1.fz 0
             have v1 := b1.fz 1
             have v2 := b1.fz 2
             have j4 := b4.put (g' := w.heap.size) (by have := yb.size; have := y2.lt; omega) (.bool s7) (.slice A7 n7 c7) (.slice A8 n8 c8)
             have KF := And.intro j4.c0 (And.intro j4.c1 j4.c2)
             unfold put3 at KF))
      all_goals
        go_wp2_with fail
        go_roundw
        case rel => exact ⟨k + 1, s7, A7, n7, c7, A8, n8, c8, by omega, by go_num, b1.self _ _ _, b2.put (by omega) _ _ _, by rw [HS.out]; exact g7.put3 b1 _ _ _, hn7, hn8, below_put3 bb (Nat.le_refl _) _ _ _⟩
        case measure => simp [intOf]; omega
    · obtain rfl : k = n := by omega
      have HT : Hid ((qs.take k).foldl (· + ·) p = qs.foldl (· + ·) p) := Lib.hid (by rw [List.take_of_length_le (by rw [HQ.out]; exact Nat.le_refl _)])
      have r0 := y1.c0
      have r1 := y1.c1
      have r2 := y1.c2
      have t0 := y2.c0
      have t1 := y2.c1
      have t2 := y2.c2
      have v0 := y2.fz 0
      have v1 := y2.fz 1
      have v2 := y2.fz 2
      have G := Lib.hid (nm.ret HT.out y2 (by omega) yb)
      clear h2 y1 y2 yb nm
      go_wp2_with fail
      exact bodyPost_ret (v := .agg #[.bool s, .slice B1 m1 d1, .slice B2 m2 d2]) (by simp [results, Tryd.results95, go_sem, t0, t1, t2]) rfl G.out
set_option maxHeartbeats 2000000 in
theorem fold_mul (s1 : Bool) (A1 A2 : Option Addr) (n1 n2 c1 c2 : Nat) (A : Option Addr) (n c : Nat) (qs : List Rat) (p : Rat) (w : World) (h1 : Nm w s1 A1 n1 c1 A2 n2 c2 p) (h2 : FL w A 1000 qs) (hq : qs.length = n) (hn : n ≤ 10) (l1 : n1 ≤ 1000) (l2 : n2 ≤ 1000) :
    Calls Tryd.prog 95 #[.agg #[.bool s1, .slice A1 n1 c1, .slice A2 n2 c2], .func (.func 78) #[] #[], .slice A n c] w (NmPost (qs.foldl (· * ·) p) w) := by
  obtain ⟨u, HU, x1, x2, xb⟩ := boxes2 w (.bool s1) (.slice A1 n1 c1) (.slice A2 n2 c2) (.bool false) (.slice none 0 0) (.slice none 0 0) 66 66
  have m1 := h1.below xb
  have HQ := Lib.hid hq
  clear hq h1
  go_enter Tryd.func95, Tryd.ntmps95
  go_wp2_with fail
  rw [← HU.out]
  go_loopw [11] (fun i wr => ∃ (k : Nat) (s : Bool) (B1 : Option Addr) (m1 d1 : Nat) (B2 : Option Addr) (m2 d2 : Nat), k ≤ n ∧ i = .int .i64 k ∧ Bk wr w.heap.size (.bool s) (.slice B1 m1 d1) (.slice B2 m2 d2) ∧ Bk wr (w.heap.size + 1) (.bool false) (.slice none 0 0) (.slice none 0 0) ∧
      Nm wr s B1 m1 d1 B2 m2 d2 ((qs.take k).foldl (· * ·) p) ∧ m1 ≤ 1000 + 20000 * k ∧ m2 ≤ 1000 + 1001 * k ∧ Below w.heap.size w wr) (fun i _ => n - (intOf i).toNat)
  case atStart => exact ⟨0, s1, A1, n1, c1, A2, n2, c2, Nat.zero_le _, rfl, x1, x2, by simpa using m1, by omega, by omega, xb⟩
  case round =>
    clear x1 x2 xb m1
    obtain ⟨k, s, B1, m1, d1, B2, m2, d2, hk, rfl, y1, y2, nm, hm1, hm2, yb⟩ := hrel
    by_cases hlt : k < n
    · obtain ⟨ad, s3, A3, n3, c3, A4, n4, c4, rfl, k0, k1, k2, hr, hn3, hn4⟩ := (h2.below yb) k (by rw [HQ.out]; exact hlt)
      obtain ⟨q, hqe⟩ : ∃ q, q = qs.getD k 0 := ⟨_, rfl⟩
      rw [← hqe] at hr
      obtain ⟨pp, hpe⟩ : ∃ pp, pp = (qs.take k).foldl (· * ·) p := ⟨_, rfl⟩
      rw [← hpe] at nm
      have HS : Hid ((qs.take (k + 1)).foldl (· * ·) p = pp * q) := Lib.hid (by rw [prod_take qs p k (by rw [HQ.out]; exact hlt), ← hpe, ← hqe])
      have HL := Lib.hid hr.len
      have HA := Lib.hid (ln_mul pp q)
      clear hqe hpe h2
      obtain ⟨v, HV, z3, zb⟩ := boxes1 wr (.bool s3) (.slice A3 n3 c3) (.slice A4 n4 c4) 24
      have z1 := (y1.below zb).drew
      have z2 := (y2.below zb).drew
      have zn := (nm.below zb).drew
      have zr := (hr.below zb).drew
      have z4 := z3.drew
      have zb' := below_drew (bthen yb zb)
      have r0 := (y1.below zb).c0
      have r1 := (y1.below zb).c1
      have r2 := (y1.below zb).c2
      have q0 := z3.c0
      have q1 := z3.c1
      have q2 := z3.c2
      go_wp2_with fail
      rw [← HV.out]
      go_region_with
        (first
          | (go_at_call 70
             (with_reducible refine (takes_any s3 A3 A4 n3 n4 c3 c4 q _ zr (by omega) (by omega)).mono ?_)
             rintro e w3 ⟨s5, A5, n5, c5, A6, n6, c6, rfl, g5, b3⟩
             have hn5 : n5 ≤ 1000 := by have := g5.lens; have := HL.out; omega
             have hn6 : n6 ≤ 1001 := by have := g5.lens; have := HL.out; omega
             have a1 := z1.below b3
             have a2 := z2.below b3
             have a4 := z4.below b3
             have an := zn.below b3
             have ab := bthen zb' b3
             have e0 := a1.c0
             have e1 := a1.c1
             have e2 := a1.c2)
          | (go_at_call 78
             (with_reducible refine (nmul_any s s5 B1 B2 A5 A6 m1 m2 n5 n6 d1 d2 c5 c6 pp q _ an g5 (by omega) (by omega) (by omega) (by omega)).mono ?_)
             rintro e w4 ⟨s7, A7, n7, c7, A8, n8, c8, rfl, g7, b4'⟩
             have hn7 : n7 ≤ 1000 + 20000 * (k + 1) := by have := g7.lens; have := HA.out; have := g5.lens; have := an.lens; omega
             have hn8 : n8 ≤ 1000 + 1001 * (k + 1) := by have := g7.lens; have := HA.out; have := g5.lens; have := an.lens; omega
             have b1 := a1.below b4'
             have b2 := a2.below b4'
             have b4 := a4.below b4'
             have bb := bthen ab b4'
             have f0 := b1.c0
             have f1 := b1.c1
             have f2 := b1.c2
             have v0 := b1.fz 0
             have v1 := b1.fz 1
             have v2 := b1.fz 2
             have j4 := b4.put (g' := w.heap.size) (by have := yb.size; have := y2.lt; omega) (.bool s7) (.slice A7 n7 c7) (.slice A8 n8 c8)
             have KF := And.intro j4.c0 (And.intro j4.c1 j4.c2)
             unfold put3 at KF))
      all_goals
        go_wp2_with fail
        go_roundw
        case rel => exact ⟨k + 1, s7, A7, n7, c7, A8, n8, c8, by omega, by go_num, b1.self _ _ _, b2.put (by omega) _ _ _, by rw [HS.out]; exact g7.put3 b1 _ _ _, hn7, hn8, below_put3 bb (Nat.le_refl _) _ _ _⟩
        case measure => simp [intOf]; omega
    · obtain rfl : k = n := by omega
      have HT : Hid ((qs.take k).foldl (· * ·) p = qs.foldl (· * ·) p) := Lib.hid (by rw [List.take_of_length_le (by rw [HQ.out]; exact Nat.le_refl _)])
      have r0 := y1.c0
      have r1 := y1.c1
      have r2 := y1.c2
      have t0 := y2.c0
      have t1 := y2.c1
      have t2 := y2.c2
      have v0 := y2.fz 0
      have v1 := y2.fz 1
      have v2 := y2.fz 2
      have G := Lib.hid (nm.ret HT.out y2 (by omega) yb)
      clear h2 y1 y2 yb nm
      go_wp2_with fail
      exact bodyPost_ret (v := .agg #[.bool s, .slice B1 m1 d1, .slice B2 m2 d2]) (by simp [results, Tryd.results95, go_sem, t0, t1, t2]) rfl G.out
end Go.Proofs.YtaahbabdbopphaaDoor
namespace Go.Proofs.YtaahbabdbopphaaDoor
open Go.RowKit Mx
set_option maxRecDepth 100000

/-- How many digits a sum or a product of a list has. -/
theorem FL.lens {w : World} {A : Option Addr} {K : Nat} {qs : List Rat} (h : FL w A K qs) (i : Nat) (hi : i < qs.length) : ln (qs.getD i 0) ≤ K ∧ ld (qs.getD i 0) ≤ K + 1 := by
  obtain ⟨ad, sb, A1, n1, c1, A2, n2, c2, hA, h0, h1, h2, hr, hk⟩ := h i hi
  have := hr.len
  omega
theorem sum_len (qs : List Rat) (p : Rat) (K : Nat) (h : ∀ i, i < qs.length → ln (qs.getD i 0) ≤ K ∧ ld (qs.getD i 0) ≤ K + 1) :
    ∀ k, k ≤ qs.length → ld ((qs.take k).foldl (· + ·) p) ≤ ld p + (K + 1) * k ∧ ln ((qs.take k).foldl (· + ·) p) ≤ ln p + (ld p + (K + 1) * qs.length + K + K + 2) * k := by
  intro k
  induction k with
  | zero => intro _; simp
  | succ k ih =>
    intro hk
    have ih := ih (by omega)
    have h1 := h k (by omega)
    rw [sum_take qs p k (by omega)]
    have h2 := ln_add ((qs.take k).foldl (· + ·) p) (qs.getD k 0)
    have h3 : (K + 1) * k ≤ (K + 1) * qs.length := Nat.mul_le_mul_left _ (by omega)
    rw [Nat.mul_succ, Nat.mul_succ]
    omega
theorem prod_len (qs : List Rat) (p : Rat) (K : Nat) (h : ∀ i, i < qs.length → ln (qs.getD i 0) ≤ K ∧ ld (qs.getD i 0) ≤ K + 1) :
    ∀ k, k ≤ qs.length → ld ((qs.take k).foldl (· * ·) p) ≤ ld p + (K + 1) * k ∧ ln ((qs.take k).foldl (· * ·) p) ≤ ln p + K * k := by
  intro k
  induction k with
  | zero => intro _; simp
  | succ k ih =>
    intro hk
    have ih := ih (by omega)
    have h1 := h k (by omega)
    rw [prod_take qs p k (by omega)]
    have h2 := ln_mul ((qs.take k).foldl (· * ·) p) (qs.getD k 0)
    rw [Nat.mul_succ, Nat.mul_succ]
    omega
theorem ln_zero : ln 0 = 0 ∧ ld 0 = 1 := by
  have h := ln_int 0
  rw [Rat.intCast_zero] at h
  rw [h.1, h.2, Int.natAbs_zero, dig_zero]
  exact ⟨rfl, rfl⟩
theorem ln_one : ln 1 ≤ 1 ∧ ld 1 = 1 := by
  have h := ln_int 1
  rw [Rat.intCast_one] at h
  rw [h.1, h.2]
  exact ⟨len_small (by decide), rfl⟩

theorem Sum_start : (((0 : Int)) : Rat) = 0 := by exact Rat.intCast_zero
set_option maxHeartbeats 2000000 in
theorem Sum_any (A : Option Addr) (n c : Nat) (qs : List Rat) (w : World) (h2 : FL w A 1000 qs) (hq : qs.length = n) (hn : n ≤ 10) :
    Calls Tryd.prog 39 #[.slice A n c] w (FrPost (qs.foldl (· + ·) 0) w) := by
  have hl := ln_i64 (z := 0) (by omega) (by omega)
  have hd := (ln_int 0).2
  have HL := Lib.hid (And.intro hl hd)
  obtain ⟨u, HU, x2, xb⟩ := boxes1 w (.bool false) (.slice none 0 0) (.slice none 0 0) 24
  have h2 := h2.below xb
  have HQ := Lib.hid hq
  clear hl hd hq
  go_enter Tryd.func39, Tryd.ntmps39
  go_wp2_with fail
  rw [← HU.out]
  refine (whole_any 0 _ (by omega) (by omega)).mono ?_
  rintro e w1 ⟨s3, A3, n3, c3, A4, n4, c4, rfl, m3, b3⟩
  have hn3 : n3 ≤ 2 := by have := m3.lens; have := HL.out; omega
  have hn4 : n4 ≤ 1 := by have := m3.lens; have := HL.out; omega
  rw [Sum_start] at m3
  have y2 := x2.below b3
  have yb := bthen xb b3
  have k2 := h2.below b3
  go_wp2_with fail
  refine (fold_add s3 A3 A4 n3 n4 c3 c4 A n c qs 0 _ m3 k2 HQ.out hn (by omega) (by omega)).mono ?_
  rintro e w2 ⟨s5, A5, n5, c5, A6, n6, c6, rfl, m5, b5⟩
  have FLx := Lib.hid k2
  have hn5 : n5 ≤ 10000000 := by have h := sum_len qs 0 1000 (fun i hi => FLx.out.lens i hi) qs.length (Nat.le_refl _); rw [List.take_length, HQ.out] at h; have h0 := ln_zero; have := m5.lens; have e : (1000 + 1) * n ≤ 10010 := (by omega); have e2 : (ld 0 + (1000 + 1) * n + 1000 + 1000 + 2) * n ≤ (1 + 10010 + 2002) * 10 := (by rw [h0.2]; exact Nat.mul_le_mul (by omega) hn); omega
  have hn6 : n6 ≤ 10000000 := by have h := sum_len qs 0 1000 (fun i hi => FLx.out.lens i hi) qs.length (Nat.le_refl _); rw [List.take_length, HQ.out] at h; have h0 := ln_zero; have := m5.lens; have e : (1000 + 1) * n ≤ 10010 := (by omega); have e2 : (ld 0 + (1000 + 1) * n + 1000 + 1000 + 2) * n ≤ (1 + 10010 + 2002) * 10 := (by rw [h0.2]; exact Nat.mul_le_mul (by omega) hn); omega
  have z2 := y2.below b5
  have zb := bthen yb b5
  go_wp2_with fail
  refine (gives_any s5 A5 A6 n5 n6 c5 c6 _ _ m5 hn5 hn6).mono ?_
  rintro e w3 ⟨s7, A7, n7, c7, A8, n8, c8, rfl, f7, o7, o8, b7⟩
  have i2 := z2.below b7
  have ib := bthen zb b7
  have G := Lib.hid (f7.ret o7 o8 (Nat.le_refl _) z2.lt ib)
  have t0 := i2.c0
  have t1 := i2.c1
  have t2 := i2.c2
  have v0 := i2.fz 0
  have v1 := i2.fz 1
  have v2 := i2.fz 2
  clear h2 k2 x2 xb b3 b5 b7 f7 o7 o8 z2 zb y2 yb i2 ib
  go_wp2_with fail
  exact bodyPost_ret (v := .agg #[.bool s7, .slice A7 n7 c7, .slice A8 n8 c8]) (by simp [results, Tryd.results39, go_sem, t0, t1, t2]) rfl G.out

theorem Product_start : (((1 : Int)) : Rat) = 1 := by exact Rat.intCast_one
set_option maxHeartbeats 2000000 in
theorem Product_any (A : Option Addr) (n c : Nat) (qs : List Rat) (w : World) (h2 : FL w A 1000 qs) (hq : qs.length = n) (hn : n ≤ 10) :
    Calls Tryd.prog 41 #[.slice A n c] w (FrPost (qs.foldl (· * ·) 1) w) := by
  have hl := ln_i64 (z := 1) (by omega) (by omega)
  have hd := (ln_int 1).2
  have HL := Lib.hid (And.intro hl hd)
  obtain ⟨u, HU, x2, xb⟩ := boxes1 w (.bool false) (.slice none 0 0) (.slice none 0 0) 24
  have h2 := h2.below xb
  have HQ := Lib.hid hq
  clear hl hd hq
  go_enter Tryd.func41, Tryd.ntmps41
  go_wp2_with fail
  rw [← HU.out]
  refine (whole_any 1 _ (by omega) (by omega)).mono ?_
  rintro e w1 ⟨s3, A3, n3, c3, A4, n4, c4, rfl, m3, b3⟩
  have hn3 : n3 ≤ 2 := by have := m3.lens; have := HL.out; omega
  have hn4 : n4 ≤ 1 := by have := m3.lens; have := HL.out; omega
  rw [Product_start] at m3
  have y2 := x2.below b3
  have yb := bthen xb b3
  have k2 := h2.below b3
  go_wp2_with fail
  refine (fold_mul s3 A3 A4 n3 n4 c3 c4 A n c qs 1 _ m3 k2 HQ.out hn (by omega) (by omega)).mono ?_
  rintro e w2 ⟨s5, A5, n5, c5, A6, n6, c6, rfl, m5, b5⟩
  have FLx := Lib.hid k2
  have hn5 : n5 ≤ 10000000 := by have h := prod_len qs 1 1000 (fun i hi => FLx.out.lens i hi) qs.length (Nat.le_refl _); rw [List.take_length, HQ.out] at h; have h0 := ln_one; have := m5.lens; have e : (1000 + 1) * n ≤ 10010 := (by omega); omega
  have hn6 : n6 ≤ 10000000 := by have h := prod_len qs 1 1000 (fun i hi => FLx.out.lens i hi) qs.length (Nat.le_refl _); rw [List.take_length, HQ.out] at h; have h0 := ln_one; have := m5.lens; have e : (1000 + 1) * n ≤ 10010 := (by omega); omega
  have z2 := y2.below b5
  have zb := bthen yb b5
  go_wp2_with fail
  refine (gives_any s5 A5 A6 n5 n6 c5 c6 _ _ m5 hn5 hn6).mono ?_
  rintro e w3 ⟨s7, A7, n7, c7, A8, n8, c8, rfl, f7, o7, o8, b7⟩
  have i2 := z2.below b7
  have ib := bthen zb b7
  have G := Lib.hid (f7.ret o7 o8 (Nat.le_refl _) z2.lt ib)
  have t0 := i2.c0
  have t1 := i2.c1
  have t2 := i2.c2
  have v0 := i2.fz 0
  have v1 := i2.fz 1
  have v2 := i2.fz 2
  clear h2 k2 x2 xb b3 b5 b7 f7 o7 o8 z2 zb y2 yb i2 ib
  go_wp2_with fail
  exact bodyPost_ret (v := .agg #[.bool s7, .slice A7 n7 c7, .slice A8 n8 c8]) (by simp [results, Tryd.results41, go_sem, t0, t1, t2]) rfl G.out

/-- A list of two Fracs that the call has just made. -/
theorem FL.two {u : World} {g : Nat} {s1 s2 : Bool} {A1 A2 A3 A4 : Option Addr} {n1 n2 n3 n4 c1 c2 c3 c4 : Nat} {p q : Rat} {T : TypeId}
    (hB : u.heap[g]? = some (.cells #[.bool s1, .slice A1 n1 c1, .slice A2 n2 c2, .bool s2, .slice A3 n3 c3, .slice A4 n4 c4] T (0, 0))) (h1 : Rf u s1 A1 n1 c1 A2 n2 c2 p) (h2 : Rf u s2 A3 n3 c3 A4 n4 c4 q)
    (l1 : n1 ≤ 1000) (l2 : n2 ≤ 1000) (l3 : n3 ≤ 1000) (l4 : n4 ≤ 1000) : FL u (some ⟨g, 0, none⟩) 1000 [p, q] := by
  intro i hi
  have hi : i < 2 := hi
  rcases (show i = 0 ∨ i = 1 from by omega) with rfl | rfl
  · exact ⟨⟨g, 0, none⟩, s1, A1, n1, c1, A2, n2, c2, rfl, cell_of_row _ _ 0 _ T (0, 0) hB, cell_of_row _ _ 1 _ T (0, 0) hB, cell_of_row _ _ 2 _ T (0, 0) hB, h1, l1, l2⟩
  · exact ⟨⟨g, 0, none⟩, s2, A3, n3, c3, A4, n4, c4, rfl, cell_of_row _ _ 3 _ T (0, 0) hB, cell_of_row _ _ 4 _ T (0, 0) hB, cell_of_row _ _ 5 _ T (0, 0) hB, h2, l3, l4⟩

set_option maxHeartbeats 2000000 in
theorem Add_any (s1 s2 : Bool) (A1 A2 A3 A4 : Option Addr) (n1 n2 n3 n4 c1 c2 c3 c4 : Nat) (p q : Rat) (w : World) (h1 : Rf w s1 A1 n1 c1 A2 n2 c2 p) (h2 : Rf w s2 A3 n3 c3 A4 n4 c4 q)
    (l1 : n1 ≤ 1000) (l2 : n2 ≤ 1000) (l3 : n3 ≤ 1000) (l4 : n4 ≤ 1000) :
    Calls Tryd.prog 52 #[.agg #[.bool s1, .slice A1 n1 c1, .slice A2 n2 c2], .agg #[.bool s2, .slice A3 n3 c3, .slice A4 n4 c4]] w (FrPost (p + q) w) := by
  have HS : Hid ([p, q].foldl (· + ·) 0 = p + q) := Lib.hid (by show 0 + p + q = p + q; rw [Rat.zero_add])
  obtain ⟨u, HU, x1, x2, x3, xb⟩ := boxes3 w (.bool s1) (.slice A1 n1 c1) (.slice A2 n2 c2) (.bool s2) (.slice A3 n3 c3) (.slice A4 n4 c4) (.bool false) (.slice none 0 0) (.slice none 0 0) 24 24 24
  obtain ⟨v, HV⟩ : ∃ v, Hid (v = u.alloc (.cells #[.bool s1, .slice A1 n1 c1, .slice A2 n2 c2, .bool s2, .slice A3 n3 c3, .slice A4 n4 c4] 24)) := ⟨_, rfl⟩
  have ub : Below u.heap.size u v := by rw [HV.out]; exact below_alloc (Below.refl _ _) _
  have us : u.heap.size = w.heap.size + 1 + 1 + 1 := by rw [HU.out]; simp
  have hB : v.heap[w.heap.size + 1 + 1 + 1]? = some (.cells #[.bool s1, .slice A1 n1 c1, .slice A2 n2 c2, .bool s2, .slice A3 n3 c3, .slice A4 n4 c4] 24 (0, 0)) := by
    rw [← us, HV.out]; exact heap_alloc_new u _
  have fl := FL.two hB ((h1.below xb).below ub) ((h2.below xb).below ub) l1 l2 l3 l4
  have y3 := x3.below ub
  have yb := bthen xb ub
  have q0 := x1.c0
  clear h1 h2 x1 x2 x3 xb ub us hB
  go_enter Tryd.func52, Tryd.ntmps52
  go_wp2_with fail
  rw [← HU.out, ← HV.out]
  refine (Sum_any _ 2 2 [p, q] _ fl rfl (by omega)).mono ?_
  rintro e w1 hp
  rw [HS.out] at hp
  obtain ⟨s5, A5, n5, c5, A6, n6, c6, rfl, f5, o5, o6, b5⟩ := hp
  have z3 := y3.below b5
  have zb := bthen yb b5
  have G := Lib.hid (f5.ret o5 o6 (by omega) y3.lt zb)
  have t0 := z3.c0
  have t1 := z3.c1
  have t2 := z3.c2
  have v0 := z3.fz 0
  have v1 := z3.fz 1
  have v2 := z3.fz 2
  clear fl y3 yb f5 o5 o6 b5 z3 zb
  go_wp2_with fail
  exact bodyPost_ret (v := .agg #[.bool s5, .slice A5 n5 c5, .slice A6 n6 c6]) (by simp [results, Tryd.results52, go_sem, t0, t1, t2]) rfl G.out

set_option maxHeartbeats 2000000 in
theorem Mul_any (s1 s2 : Bool) (A1 A2 A3 A4 : Option Addr) (n1 n2 n3 n4 c1 c2 c3 c4 : Nat) (p q : Rat) (w : World) (h1 : Rf w s1 A1 n1 c1 A2 n2 c2 p) (h2 : Rf w s2 A3 n3 c3 A4 n4 c4 q)
    (l1 : n1 ≤ 1000) (l2 : n2 ≤ 1000) (l3 : n3 ≤ 1000) (l4 : n4 ≤ 1000) :
    Calls Tryd.prog 58 #[.agg #[.bool s1, .slice A1 n1 c1, .slice A2 n2 c2], .agg #[.bool s2, .slice A3 n3 c3, .slice A4 n4 c4]] w (FrPost (p * q) w) := by
  have HS : Hid ([p, q].foldl (· * ·) 1 = p * q) := Lib.hid (by show 1 * p * q = p * q; rw [Rat.one_mul])
  obtain ⟨u, HU, x1, x2, x3, xb⟩ := boxes3 w (.bool s1) (.slice A1 n1 c1) (.slice A2 n2 c2) (.bool s2) (.slice A3 n3 c3) (.slice A4 n4 c4) (.bool false) (.slice none 0 0) (.slice none 0 0) 24 24 24
  obtain ⟨v, HV⟩ : ∃ v, Hid (v = u.alloc (.cells #[.bool s1, .slice A1 n1 c1, .slice A2 n2 c2, .bool s2, .slice A3 n3 c3, .slice A4 n4 c4] 24)) := ⟨_, rfl⟩
  have ub : Below u.heap.size u v := by rw [HV.out]; exact below_alloc (Below.refl _ _) _
  have us : u.heap.size = w.heap.size + 1 + 1 + 1 := by rw [HU.out]; simp
  have hB : v.heap[w.heap.size + 1 + 1 + 1]? = some (.cells #[.bool s1, .slice A1 n1 c1, .slice A2 n2 c2, .bool s2, .slice A3 n3 c3, .slice A4 n4 c4] 24 (0, 0)) := by
    rw [← us, HV.out]; exact heap_alloc_new u _
  have fl := FL.two hB ((h1.below xb).below ub) ((h2.below xb).below ub) l1 l2 l3 l4
  have y3 := x3.below ub
  have yb := bthen xb ub
  have q0 := x1.c0
  clear h1 h2 x1 x2 x3 xb ub us hB
  go_enter Tryd.func58, Tryd.ntmps58
  go_wp2_with fail
  rw [← HU.out, ← HV.out]
  refine (Product_any _ 2 2 [p, q] _ fl rfl (by omega)).mono ?_
  rintro e w1 hp
  rw [HS.out] at hp
  obtain ⟨s5, A5, n5, c5, A6, n6, c6, rfl, f5, o5, o6, b5⟩ := hp
  have z3 := y3.below b5
  have zb := bthen yb b5
  have G := Lib.hid (f5.ret o5 o6 (by omega) y3.lt zb)
  have t0 := z3.c0
  have t1 := z3.c1
  have t2 := z3.c2
  have v0 := z3.fz 0
  have v1 := z3.fz 1
  have v2 := z3.fz 2
  clear fl y3 yb f5 o5 o6 b5 z3 zb
  go_wp2_with fail
  exact bodyPost_ret (v := .agg #[.bool s5, .slice A5 n5 c5, .slice A6 n6 c6]) (by simp [results, Tryd.results58, go_sem, t0, t1, t2]) rfl G.out
end Go.Proofs.YtaahbabdbopphaaDoor
namespace Go.Proofs.YtaahbabdbopphaaDoor
open Go.RowKit Mx
set_option maxRecDepth 100000

/-- The index of the first one of the greatest of the first k numbers; -1 if there is none. -/
def bst (qs : List Rat) : Nat → Int
  | 0 => -1
  | k + 1 => if bst qs k < 0 ∨ 0 < sgn (qs.getD k 0 - qs.getD (bst qs k).toNat 0) then (k : Int) else bst qs k
theorem bst_range (qs : List Rat) (k : Nat) : -1 ≤ bst qs k ∧ bst qs k < k := by
  induction k with
  | zero => unfold bst; omega
  | succ k ih => unfold bst; split <;> omega
set_option maxHeartbeats 1000000 in
theorem Best1_any (s1 s2 : Bool) (A1 A2 A3 A4 : Option Addr) (n1 n2 n3 n4 c1 c2 c3 c4 : Nat) (p q : Rat) (w : World) (h1 : Rf w s1 A1 n1 c1 A2 n2 c2 p) (h2 : Rf w s2 A3 n3 c3 A4 n4 c4 q)
    (l1 : n1 ≤ 1000) (l2 : n2 ≤ 1000) (l3 : n3 ≤ 1000) (l4 : n4 ≤ 1000) :
    Calls Tryd.prog 98 #[.agg #[.bool s1, .slice A1 n1 c1, .slice A2 n2 c2], .agg #[.bool s2, .slice A3 n3 c3, .slice A4 n4 c4]] w (ValPost (.bool (decide (0 < sgn (p - q)))) w) := by
  obtain ⟨u, HU, x1, x2, xb⟩ := boxes2 w (.bool s1) (.slice A1 n1 c1) (.slice A2 n2 c2) (.bool s2) (.slice A3 n3 c3) (.slice A4 n4 c4) 24 24
  have h1 := h1.below xb
  have h2 := h2.below xb
  have q0 := x1.c0
  obtain ⟨r, hr⟩ : ∃ r, r = sgn (p - q) := ⟨_, rfl⟩
  have HC := Lib.hid (Cmp_any s1 s2 A1 A2 A3 A4 n1 n2 n3 n4 c1 c2 c3 c4 p q u h1 h2 (by omega) (by omega) (by omega) (by omega))
  rw [← hr] at HC ⊢
  clear hr h1 h2
  go_enter Tryd.func98, Tryd.ntmps98
  go_wp2_with fail
  rw [← HU.out]
  refine HC.out.mono ?_
  rintro e w1 ⟨rfl, b1⟩
  have yb := bthen xb b1
  go_wp2_with fail
  go_ret
  exact ⟨rfl, yb⟩

set_option maxHeartbeats 2000000 in
theorem first_any (A : Option Addr) (n c : Nat) (qs : List Rat) (w : World) (h2 : FL w A 1000 qs) (hq : qs.length = n) (hn : n ≤ 10) :
    Calls Tryd.prog 97 #[.slice A n c, .func (.func 98) #[] #[]] w (ValPost (.int .i64 (bst qs n)) w) := by
  have HQ := Lib.hid hq
  clear hq
  go_enter Tryd.func97, Tryd.ntmps97
  go_wp2_with fail
  go_loopw [5, 10] (fun a i wr => ∃ (k : Nat) (b : Int), k ≤ n ∧ i = .int .i64 k ∧ a = .int .i64 b ∧ Hid (b = bst qs k) ∧ -1 ≤ b ∧ b < k ∧ Below w.heap.size w wr) (fun _ i _ => n - (intOf i).toNat)
  case atStart => exact ⟨0, -1, Nat.zero_le _, rfl, rfl, rfl, by omega, by omega, Below.refl _ _⟩
  case round =>
    obtain ⟨k, b, hk, rfl, rfl, HB, hb1, hb2, yb⟩ := hrel
    by_cases hlt : k < n
    · obtain ⟨ad, s3, A3, n3, c3, A4, n4, c4, rfl, k0, k1, k2, hr, hn3, hn4⟩ := (h2.below yb) k (by rw [HQ.out]; exact hlt)
      obtain ⟨v, HV, z3, zb⟩ := boxes1 wr (.bool s3) (.slice A3 n3 c3) (.slice A4 n4 c4) 24
      have ybv := bthen yb zb
      by_cases hneg : b < 0
      · have HN : Hid ((k : Int) = bst qs (k + 1)) := Lib.hid (by rw [bst, if_pos (.inl (by rw [← HB.out]; exact hneg))])
        clear h2
        go_wp2_with fail
        rw [← HV.out]
        go_quiet (fail)
        go_wp2_with fail
        go_roundw
        case rel => exact ⟨k + 1, k, by omega, by go_num, rfl, HN, by omega, by omega, below_drewN ybv _⟩
        case measure => simp [intOf]; omega
      · obtain ⟨B, rfl⟩ := Int.eq_ofNat_of_zero_le (show 0 ≤ b by omega)
        obtain ⟨ad', s5, A5, n5, c5, A6, n6, c6, hA', m0, m1, m2, mr, hn5, hn6⟩ := (h2.below ybv) B (by rw [HQ.out]; omega)
        injection hA' with hA'
        subst hA'
        have j0 : v.drew.cell? (ad.add (B * 3)) = some (.bool s5) := m0
        have hz := (hr.below zb).drew
        have mz := mr.drew
        have z4 := z3.drew
        have q0 := z3.c0
        have q1 := z3.c1
        have q2 := z3.c2
        obtain ⟨r, hre⟩ : ∃ r, r = sgn (qs.getD k 0 - qs.getD B 0) := ⟨_, rfl⟩
        have HC := Lib.hid (Best1_any s3 s5 A3 A4 A5 A6 n3 n4 n5 n6 c3 c4 c5 c6 _ _ v.drew hz mz hn3 hn4 hn5 hn6)
        have HN : Hid (bst qs (k + 1) = if 0 < r then (k : Int) else (B : Int)) := Lib.hid (by
          rw [bst, ← HB.out, Int.toNat_natCast, ← hre]
          by_cases h0 : 0 < r
          · rw [if_pos (.inr h0), if_pos h0]
          · rw [if_neg (by omega), if_neg h0])
        rw [← hre] at HC
        have ybd := below_drew ybv
        have i1 : (0 : Int) ≤ (B : Int) := by omega
        have i2 : (B : Int) < (n : Int) := by omega
        clear h2 hre
        go_wp2_with fail
        rw [← HV.out]
        go_region_held3 (fun w' => w'.cell? ⟨wr.heap.size, 0, none⟩ = some (.bool s3) ∧ w'.cell? ⟨wr.heap.size, 1, none⟩ = some (.slice A3 n3 c3) ∧ w'.cell? ⟨wr.heap.size, 2, none⟩ = some (.slice A4 n4 c4) ∧
            w'.cell? (ad.add (B * 3)) = some (.bool s5) ∧ w'.cell? ⟨(ad.add (B * 3)).block, (ad.add (B * 3)).off + 1, none⟩ = some (.slice A5 n5 c5) ∧ w'.cell? ⟨(ad.add (B * 3)).block, (ad.add (B * 3)).off + 2, none⟩ = some (.slice A6 n6 c6))
          (first | (with_reducible exact ⟨q0, q1, q2, m0, m1, m2⟩) | (with_reducible exact ⟨z4.c0, z4.c1, z4.c2, m0, m1, m2⟩) | (with_reducible exact KF) | go_keep)
          (first
            | (go_at_call 98
               (with_reducible refine HC.out.mono ?_)
               rintro e w3 ⟨rfl, b3⟩
               have a4 := z4.below b3
               have ab := bthen ybd b3
               have KF := And.intro a4.c0 (And.intro a4.c1 (And.intro a4.c2 (And.intro (cell_below b3 j0) (And.intro (cell_below b3 (show v.drew.cell? _ = _ from m1)) (cell_below b3 (show v.drew.cell? _ = _ from m2))))))))
        by_cases hpos : 0 < r
        · go_wp2_with fail
          go_roundw
          case rel => exact ⟨k + 1, k, by omega, by go_num, rfl, by rw [HN.out, if_pos hpos]; rfl, by omega, by omega, ab⟩
          case measure => simp [intOf]; omega
        · go_wp2_with fail
          go_roundw
          case rel => exact ⟨k + 1, B, by omega, by go_num, rfl, by rw [HN.out, if_neg hpos]; rfl, by omega, by omega, ab⟩
          case measure => simp [intOf]; omega
    · obtain rfl : k = n := by omega
      go_wp2_with fail
      go_ret
      exact ⟨by rw [← HB.out]; rfl, yb⟩
set_option maxHeartbeats 1000000 in
theorem Best_any (A : Option Addr) (n c : Nat) (qs : List Rat) (w : World) (h2 : FL w A 1000 qs) (hq : qs.length = n) (hn : n ≤ 10) :
    Calls Tryd.prog 43 #[.slice A n c] w (ValPost (.int .i64 (bst qs n)) w) := by
  have HC := Lib.hid (first_any A n c qs w h2 hq hn)
  obtain ⟨r, hr⟩ : ∃ r, r = bst qs n := ⟨_, rfl⟩
  rw [← hr] at HC ⊢
  clear h2 hq hr
  go_enter Tryd.func43, Tryd.ntmps43
  go_wp2_with fail
  refine HC.out.mono ?_
  rintro e w1 ⟨rfl, b1⟩
  go_wp2_with fail
  go_ret
  exact ⟨rfl, b1⟩
end Go.Proofs.YtaahbabdbopphaaDoor
namespace Go.Proofs.YtaahbabdbopphaaDoor
open Go.RowKit Mx
set_option maxRecDepth 100000

/-- A Frac and an error. -/
def FrEPost (q : Rat) (err : Int) (w : World) (e : Ending) (w' : World) : Prop :=
  ∃ sb A n c A' n' c', e = .returned (.tuple #[.agg #[.bool sb, .slice A n c, .slice A' n' c'], .int .i64 err]) ∧ Fr w' sb A n c A' n' c' q ∧ Own w w' A n c (dig (rn q)) ∧ Own w w' A' n' c' (dig (rD q)) ∧ Below w.heap.size w w'
theorem FrPost.withErr {q : Rat} {w w' : World} {s : Bool} {A B : Option Addr} {n c m d : Nat} (err : Int) (h : FrPost q w (.returned (.agg #[.bool s, .slice A n c, .slice B m d])) w') :
    FrEPost q err w (.returned (.tuple #[.agg #[.bool s, .slice A n c, .slice B m d], .int .i64 err])) w' := by
  obtain ⟨sb, A1, n1, c1, A2, n2, c2, he, hf⟩ := h
  simp only [Ending.returned.injEq, Value.agg.injEq, Array.mk.injEq, List.cons.injEq, Value.bool.injEq, Value.slice.injEq] at he
  obtain ⟨rfl, ⟨rfl, rfl, rfl⟩, ⟨rfl, rfl, rfl⟩, _⟩ := he
  exact ⟨s, A, n, c, B, m, d, rfl, hf⟩
theorem rn_zero0 : rn (0 : Rat) = 0 ∧ rD (0 : Rat) = 0 ∧ rneg (0 : Rat) = false := ⟨rfl, rfl, rfl⟩
theorem FrEPost.zero {w w' : World} (err : Int) (hb : Below w.heap.size w w') : FrEPost 0 err w (.returned (.tuple #[.agg #[.bool false, .slice none 0 0, .slice none 0 0], .int .i64 err])) w' := by
  have h0 : Sl w' none 0 0 (dig 0) := by rw [dig_zero]; exact ⟨rfl, Nat.le_refl _, Rd.nil_ _ _⟩
  have o0 : Own w w' none 0 0 (dig 0) := by rw [dig_zero]; exact World.ownsRow_nil _ _ _ _
  exact ⟨false, none, 0, 0, none, 0, 0, rfl, ⟨rfl, h0, h0⟩, o0, o0, hb⟩
theorem FrEPost.of_below {q : Rat} {err : Int} {w w1 w2 : World} {e : Ending} (hb : Below w.heap.size w w1) (h : FrEPost q err w1 e w2) : FrEPost q err w e w2 := by
  obtain ⟨sb, A, n, c, A', n', c', he, hf, h1, h2, hb2⟩ := h
  exact ⟨sb, A, n, c, A', n', c', he, hf, h1.base hb.size, h2.base hb.size, bthen hb hb2⟩

set_option maxHeartbeats 2000000 in
theorem Div_zero (s1 s2 : Bool) (A1 A2 A3 A4 : Option Addr) (n1 n2 n3 n4 c1 c2 c3 c4 : Nat) (p q : Rat) (w : World) (h1 : Rf w s1 A1 n1 c1 A2 n2 c2 p) (h2 : Rf w s2 A3 n3 c3 A4 n4 c4 q)
    (_l1 : n1 ≤ 100000) (_l2 : n2 ≤ 100000) (l3 : n3 ≤ 100000) (l4 : n4 ≤ 100000) (hz : rn q = 0) :
    Calls Tryd.prog 57 #[.agg #[.bool s1, .slice A1 n1 c1, .slice A2 n2 c2], .agg #[.bool s2, .slice A3 n3 c3, .slice A4 n4 c4]] w (FrEPost 0 3 w) := by
  have e1 := h1.len
  have e2 := h2.len
  obtain ⟨u, HU, x1, x2, x3, xb⟩ := boxes3 w (.bool s1) (.slice A1 n1 c1) (.slice A2 n2 c2) (.bool s2) (.slice A3 n3 c3) (.slice A4 n4 c4) (.bool false) (.slice none 0 0) (.slice none 0 0) 24 24 24
  have m1 := h1.below xb
  have m2 := h2.below xb
  have q0 := x1.c0
  have q1 := x1.c1
  have q2 := x1.c2
  have r0 := x2.c0
  have r1 := x2.c1
  have r2 := x2.c2
  clear h1 h2
  go_enter Tryd.func57, Tryd.ntmps57
  go_wp2_with fail
  rw [← HU.out]
  refine (takes_any s2 A3 A4 n3 n4 c3 c4 q _ m2 (by omega) (by omega)).mono ?_
  rintro e w1 ⟨s5, A5, n5, c5, A6, n6, c6, rfl, g5, b1⟩
  have hn5 : n5 ≤ 100000 := by have := g5.lens; omega
  have hn6 : n6 ≤ 100001 := by have := g5.lens; omega
  obtain ⟨v, HV, z4, zb⟩ := boxes1 w1 (.bool s5) (.slice A5 n5 c5) (.slice A6 n6 c6) 66
  have y1 := (x1.below b1).below zb
  have y3 := (x3.below b1).below zb
  have yb := bthen (bthen xb b1) zb
  have k1 := (m1.below b1).below zb
  have k5 := g5.below zb
  have q0 := z4.c0
  have q1 := z4.c1
  have q2 := z4.c2
  clear x1 x2 x3 xb m1 m2 g5 r0 r1 r2
  go_wp2_with fail
  rw [← HV.out]
  refine (nzero_yes s5 A5 A6 n5 n6 c5 c6 q _ k5 hz).mono ?_
  rintro e w2 ⟨rfl, b2⟩
  have z3 := y3.below b2
  have zb2 := below_put3 (bthen yb b2) (g := w.heap.size + 1 + 1) (by omega) (.bool false) (.slice none 0 0) (.slice none 0 0)
  have t0 := z3.c0
  have t1 := z3.c1
  have t2 := z3.c2
  have v0 := z3.fz 0
  have v1 := z3.fz 1
  have v2 := z3.fz 2
  clear y1 y3 yb k1 k5 z4 zb b1 b2
  go_wp2_with fail
  exact bodyPost_ret (v := .tuple #[.agg #[.bool false, .slice none 0 0, .slice none 0 0], .int .i64 3]) (by simp [results, Tryd.results57, go_sem, t0, t1, t2]) rfl (FrEPost.zero 3 zb2)

set_option maxHeartbeats 2000000 in
theorem Div_yes (s1 s2 : Bool) (A1 A2 A3 A4 : Option Addr) (n1 n2 n3 n4 c1 c2 c3 c4 : Nat) (p q : Rat) (w : World) (h1 : Rf w s1 A1 n1 c1 A2 n2 c2 p) (h2 : Rf w s2 A3 n3 c3 A4 n4 c4 q)
    (l1 : n1 ≤ 100000) (l2 : n2 ≤ 100000) (l3 : n3 ≤ 100000) (l4 : n4 ≤ 100000) (hz : rn q ≠ 0) :
    Calls Tryd.prog 57 #[.agg #[.bool s1, .slice A1 n1 c1, .slice A2 n2 c2], .agg #[.bool s2, .slice A3 n3 c3, .slice A4 n4 c4]] w (FrEPost (p / q) 0 w) := by
  have HS : Hid (p / q = p * q⁻¹) := Lib.hid (Rat.div_def p q)
  have HI := Lib.hid (ln_inv hz)
  have HM := Lib.hid (ln_mul p q⁻¹)
  have e1 := h1.len
  have e2 := h2.len
  obtain ⟨u, HU, x1, x2, x3, xb⟩ := boxes3 w (.bool s1) (.slice A1 n1 c1) (.slice A2 n2 c2) (.bool s2) (.slice A3 n3 c3) (.slice A4 n4 c4) (.bool false) (.slice none 0 0) (.slice none 0 0) 24 24 24
  have m1 := h1.below xb
  have m2 := h2.below xb
  have q0 := x1.c0
  have q1 := x1.c1
  have q2 := x1.c2
  have r0 := x2.c0
  have r1 := x2.c1
  have r2 := x2.c2
  clear h1 h2
  go_enter Tryd.func57, Tryd.ntmps57
  go_wp2_with fail
  rw [← HU.out]
  refine (takes_any s2 A3 A4 n3 n4 c3 c4 q _ m2 (by omega) (by omega)).mono ?_
  rintro e w1 ⟨s5, A5, n5, c5, A6, n6, c6, rfl, g5, b1⟩
  have hn5 : n5 ≤ 100000 := by have := g5.lens; omega
  have hn6 : n6 ≤ 100001 := by have := g5.lens; omega
  obtain ⟨v, HV, z4, zb⟩ := boxes1 w1 (.bool s5) (.slice A5 n5 c5) (.slice A6 n6 c6) 66
  have y1 := (x1.below b1).below zb
  have y3 := (x3.below b1).below zb
  have yb := bthen (bthen xb b1) zb
  have k1 := (m1.below b1).below zb
  have k5 := g5.below zb
  have q0 := z4.c0
  have q1 := z4.c1
  have q2 := z4.c2
  clear x1 x2 x3 xb m1 m2 g5 r0 r1 r2
  go_wp2_with fail
  rw [← HV.out]
  refine (nzero_no s5 A5 A6 n5 n6 c5 c6 q _ k5 hz (by omega)).mono ?_
  rintro e w2 ⟨rfl, b2⟩
  have a1 := y1.below b2
  have a3 := y3.below b2
  have a4 := z4.below b2
  have ab := bthen yb b2
  have d1 := a1.drew
  have d3 := a3.drew
  have d4 := a4.drew
  have db := below_drew ab
  have dk1 := (k1.below b2).drew
  have dk5 := (k5.below b2).drew
  have t0 := a1.c0
  have t1 := a4.c0
  have hw1 : w.heap.size + 1 + 1 < w1.heap.size := Nat.lt_of_lt_of_le (show w.heap.size + 1 + 1 < u.heap.size from by rw [HU.out]; simp) b1.size
  clear y1 y3 yb k1 k5 z4 zb b1 b2 q0 q1 q2
  go_wp2_with fail
  go_region_held3 (fun w' => w'.cell? ⟨w.heap.size, 0, none⟩ = some (.bool s1) ∧ w'.cell? ⟨w.heap.size, 1, none⟩ = some (.slice A1 n1 c1) ∧ w'.cell? ⟨w.heap.size, 2, none⟩ = some (.slice A2 n2 c2) ∧
      w'.cell? ⟨w1.heap.size, 0, none⟩ = some (.bool s5) ∧ w'.cell? ⟨w1.heap.size, 1, none⟩ = some (.slice A5 n5 c5) ∧ w'.cell? ⟨w1.heap.size, 2, none⟩ = some (.slice A6 n6 c6))
    (first | (with_reducible exact ⟨a1.c0, a1.c1, a1.c2, a4.c0, a4.c1, a4.c2⟩) | (with_reducible exact ⟨d1.c0, d1.c1, d1.c2, d4.c0, d4.c1, d4.c2⟩) | (with_reducible exact ⟨f1.c0, f1.c1, f1.c2, f4.c0, f4.c1, f4.c2⟩) | (with_reducible exact ⟨i1.c0, i1.c1, i1.c2, i4.c0, i4.c1, i4.c2⟩) | (with_reducible exact ⟨j1.c0, j1.c1, j1.c2, j4.c0, j4.c1, j4.c2⟩) | (with_reducible exact ⟨k1.c0, k1.c1, k1.c2, k4.c0, k4.c1, k4.c2⟩) | (with_reducible exact KF) | go_keep)
    (first
      | (go_at_call 70
         (with_reducible refine (takes_any s1 A1 A2 n1 n2 c1 c2 p _ dk1 (by omega) (by omega)).mono ?_)
         rintro e w3 ⟨s7, A7, n7, c7, A8, n8, c8, rfl, g7, b3⟩
         have hn7 : n7 ≤ 100000 := by have := g7.lens; omega
         have hn8 : n8 ≤ 100001 := by have := g7.lens; omega
         have f1 := d1.below b3
         have f3 := d3.below b3
         have f4 := d4.below b3
         have fk := dk5.below b3
         have fb := bthen db b3)
      | (go_at_call 72
         (with_reducible refine (ninverse_any s5 A5 A6 n5 n6 c5 c6 q _ fk hz).mono ?_)
         rintro e w4 ⟨s9, A9, n9, c9, A10, n10, c10, rfl, g9, b4⟩
         have hn9 : n9 ≤ 100001 := by have := g9.lens; have := HI.out; have := fk.lens; omega
         have hn10 : n10 ≤ 100001 := by have := g9.lens; have := HI.out; have := fk.lens; omega
         have i1 := f1.below b4
         have i3 := f3.below b4
         have i4 := f4.below b4
         have ik := g7.below b4
         have ib := bthen fb b4)
      | (go_at_call 78
         (with_reducible refine (nmul_any s7 s9 A7 A8 A9 A10 n7 n8 n9 n10 c7 c8 c9 c10 p q⁻¹ _ ik g9 (by omega) (by omega) (by omega) (by omega)).mono ?_)
         rintro e w5 ⟨s11, A11, n11, c11, A12, n12, c12, rfl, g11, b5⟩
         have hn11 : n11 ≤ 1000000 := by have := g11.lens; have := HM.out; have := ik.lens; have := g9.lens; omega
         have hn12 : n12 ≤ 1000000 := by have := g11.lens; have := HM.out; have := ik.lens; have := g9.lens; omega
         have j1 := i1.below b5
         have j3 := i3.below b5
         have j4 := i4.below b5
         have jb := bthen ib b5)
      | (go_at_call 74
         (with_reducible refine (gives_any s11 A11 A12 n11 n12 c11 c12 _ _ g11 (by omega) (by omega)).mono ?_)
         rintro e w6 ⟨s13, A13, n13, c13, A14, n14, c14, rfl, g13, o13, o14, b6⟩
         have k1 := j1.below b6
         have k3 := j3.below b6
         have k4 := j4.below b6
         have kb := bthen jb b6
         have G := Lib.hid ((g13.ret o13 o14 (by omega) j3.lt kb).withErr 0)
         have o1 := k1.put (g' := w.heap.size + 1 + 1) (by omega) (.bool s13) (.slice A13 n13 c13) (.slice A14 n14 c14)
         have o4 := k4.put (g' := w.heap.size + 1 + 1) (by omega) (.bool s13) (.slice A13 n13 c13) (.slice A14 n14 c14)
         have KF := And.intro o1.c0 (And.intro o1.c1 (And.intro o1.c2 (And.intro o4.c0 (And.intro o4.c1 o4.c2))))
         unfold put3 at KF
         have t0 := k3.c0
         have t1 := k3.c1
         have t2 := k3.c2
         have v0 := k3.fz 0
         have v1 := k3.fz 1
         have v2 := k3.fz 2))
  go_wp2_with fail
  exact bodyPost_ret (v := .tuple #[.agg #[.bool s13, .slice A13 n13 c13, .slice A14 n14 c14], .int .i64 0]) (by simp [results, Tryd.results57, go_sem, t0, t1, t2]) rfl (by rw [HS.out]; exact G.out)

theorem rD_len (q : Rat) : (dig (rD q)).length ≤ ld q := by
  unfold ld
  apply len_mono
  unfold rD rd
  split <;> omega
set_option maxHeartbeats 2000000 in
theorem Make_any (n d : Int) (err : Int) (q : Rat) (w : World) (h0 : -9223372036854775808 ≤ n) (h1 : n ≤ 9223372036854775807) (d0 : -9223372036854775808 ≤ d) (d1 : d ≤ 9223372036854775807)
    (hq : (d = 0 ∧ err = 3 ∧ q = 0) ∨ (d ≠ 0 ∧ err = 0 ∧ q = (n : Rat) / (d : Rat))) :
    Calls Tryd.prog 65 #[.int .i64 n, .int .i64 d] w (FrEPost q err w) := by
  obtain ⟨u, HU, x2, xb⟩ := boxes1 w (.bool false) (.slice none 0 0) (.slice none 0 0) 24
  have HC : Hid (∀ (s1 s2 : Bool) (A1 A2 A3 A4 : Option Addr) (n1 n2 n3 n4 c1 c2 c3 c4 : Nat) (W : World), Rf W s1 A1 n1 c1 A2 n2 c2 (n : Rat) → Rf W s2 A3 n3 c3 A4 n4 c4 (d : Rat) → n1 ≤ 100000 → n2 ≤ 100000 → n3 ≤ 100000 → n4 ≤ 100000 →
      Calls Tryd.prog 57 #[.agg #[.bool s1, .slice A1 n1 c1, .slice A2 n2 c2], .agg #[.bool s2, .slice A3 n3 c3, .slice A4 n4 c4]] W (FrEPost q err W)) := Lib.hid (by
    intro s1 s2 A1 A2 A3 A4 n1 n2 n3 n4 c1 c2 c3 c4 W g1 g2 l1 l2 l3 l4
    have hi := int_parts d
    rcases hq with ⟨a, b, c⟩ | ⟨a, b, c⟩
    · rw [b, c]
      exact Div_zero s1 s2 A1 A2 A3 A4 n1 n2 n3 n4 c1 c2 c3 c4 _ _ W g1 g2 l1 l2 l3 l4 (by rw [hi.2.1]; omega)
    · rw [b, c]
      exact Div_yes s1 s2 A1 A2 A3 A4 n1 n2 n3 n4 c1 c2 c3 c4 _ _ W g1 g2 l1 l2 l3 l4 (by rw [hi.2.1]; omega))
  have HL := Lib.hid (And.intro (ln_i64 h0 h1) (ln_i64 d0 d1))
  clear hq
  go_enter Tryd.func65, Tryd.ntmps65
  go_wp2_with fail
  rw [← HU.out]
  refine (Of_any n _ h0 h1).mono ?_
  rintro e w1 ⟨s1, A1, n1, c1, A2, n2, c2, rfl, f1, o1, o2, b1⟩
  have hn1 : n1 ≤ 100000 := by rw [← f1.num.len]; have := HL.out.1; unfold ln at this; omega
  have hn2 : n2 ≤ 100000 := by rw [← f1.den.len]; exact Nat.le_trans (rD_len _) (by rw [(ln_int n).2]; omega)
  go_wp2_with fail
  refine (Of_any d _ d0 d1).mono ?_
  rintro e w2 ⟨s3, A3, n3, c3, A4, n4, c4, rfl, f3, o3, o4, b2⟩
  have hn3 : n3 ≤ 100000 := by rw [← f3.num.len]; have := HL.out.2; unfold ln at this; omega
  have hn4 : n4 ≤ 100000 := by rw [← f3.den.len]; exact Nat.le_trans (rD_len _) (by rw [(ln_int d).2]; omega)
  have r1 := (f1.below b2).rf
  have r3 := f3.rf
  go_wp2_with fail
  refine (HC.out s1 s3 A1 A2 A3 A4 n1 n2 n3 n4 c1 c2 c3 c4 _ r1 r3 hn1 hn2 hn3 hn4).mono ?_
  rintro e w3 ⟨s5, A5, n5, c5, A6, n6, c6, rfl, f5, o5, o6, b3⟩
  have y2 := (x2.below b1).below b2
  have z2 := y2.below b3
  have zb := bthen (bthen (bthen xb b1) b2) b3
  have G := Lib.hid ((f5.ret o5 o6 (Nat.le_refl _) y2.lt zb).withErr err)
  have t0 := z2.c0
  have t1 := z2.c1
  have t2 := z2.c2
  have v0 := z2.fz 0
  have v1 := z2.fz 1
  have v2 := z2.fz 2
  clear x2 xb b1 b2 b3 f1 f3 f5 o1 o2 o3 o4 o5 o6 y2 z2 zb r1 r3
  go_wp2_with fail
  exact bodyPost_ret (v := .tuple #[.agg #[.bool s5, .slice A5 n5 c5, .slice A6 n6 c6], .int .i64 err]) (by simp [results, Tryd.results65, go_sem, t0, t1, t2]) rfl G.out

theorem blen_le (n : Nat) : blen n ≤ 32 * (dig n).length := by
  unfold blen
  by_cases h : n = 0
  · rw [if_pos h]; omega
  · rw [if_neg h]
    have h1 := len_dig_pos.2 h
    have h2 := bitLen_le_32 (ds_get (ds_dig n) ((dig n).length - 1))
    omega
set_option maxHeartbeats 2000000 in
theorem Size_any (s1 : Bool) (A1 A2 : Option Addr) (n1 n2 c1 c2 : Nat) (q : Rat) (w : World) (h : Rf w s1 A1 n1 c1 A2 n2 c2 q) (hl1 : n1 ≤ 100000) (hl2 : n2 ≤ 100000) :
    Calls Tryd.prog 63 #[.agg #[.bool s1, .slice A1 n1 c1, .slice A2 n2 c2]] w (ValPost (.int .i64 ((blen (rn q) : Int) + (blen (rd q) : Int))) w) := by
  have hlen := h.len
  obtain ⟨u, HU, x1, xb⟩ := boxes1 w (.bool s1) (.slice A1 n1 c1) (.slice A2 n2 c2) 24
  have h := h.below xb
  have q0 := x1.c0
  have q1 := x1.c1
  have q2 := x1.c2
  have HBL := Lib.hid (And.intro (blen_le (rn q)) (blen_le (rd q)))
  obtain ⟨bn, hbn⟩ : ∃ b, b = blen (rn q) := ⟨_, rfl⟩
  obtain ⟨bd, hbd⟩ : ∃ b, b = blen (rd q) := ⟨_, rfl⟩
  have HBN := Lib.hid hbn
  have HBD := Lib.hid hbd
  rw [← hbn, ← hbd]
  clear hbn hbd
  go_enter Tryd.func63, Tryd.ntmps63
  go_wp2_with fail
  rw [← HU.out]
  refine (takes_any s1 A1 A2 n1 n2 c1 c2 q _ h (by omega) (by omega)).mono ?_
  rintro e w1 ⟨s3, A3, n3, c3, A4, n4, c4, rfl, m3, b3⟩
  have hn3 : n3 ≤ 100000 := by have := m3.lens; omega
  have hn4 : n4 ≤ 100001 := by have := m3.lens; omega
  obtain ⟨v, HV, z4, zb⟩ := boxes1 w1 (.bool s3) (.slice A3 n3 c3) (.slice A4 n4 c4) 66
  have yb := bthen (bthen xb b3) zb
  have k3 := m3.below zb
  have d3 := k3.num
  have d4 := k3.den
  have q0 := z4.c0
  have q1 := z4.c1
  have q2 := z4.c2
  have hb1 : bn ≤ 3200000 := by rw [HBN.out]; have := HBL.out.1; have := m3.lens; unfold ln at this; omega
  have hb2 : bd ≤ 3200032 := by rw [HBD.out]; have := HBL.out.2; have := m3.lens; unfold ld at this; omega
  have C1 : Hid (∀ W, Sl W A3 n3 c3 (dig (rn q)) → Calls Tryd.prog 110 #[.slice A3 n3 c3] W (fun e w' => e = .returned (.int .i64 (bn : Int)) ∧ W = w')) := Lib.hid (fun W hW => by rw [HBN.out]; exact size_any A3 n3 c3 _ W hW (by omega))
  have C2 : Hid (∀ W, Sl W A4 n4 c4 (dig (rd q)) → Calls Tryd.prog 110 #[.slice A4 n4 c4] W (fun e w' => e = .returned (.int .i64 (bd : Int)) ∧ W = w')) := Lib.hid (fun W hW => by rw [HBD.out]; exact size_any A4 n4 c4 _ W hW (by omega))
  have isum0 : IntKind.i64.wrap ((bn : Int) + (bd : Int)) = (bn : Int) + (bd : Int) := IntWalk.i64_in _ (by omega)
  clear x1
  go_wp2_with fail
  rw [← HV.out]
  go_region_held3 (fun w' => w'.cell? ⟨w1.heap.size, 1, none⟩ = some (.slice A3 n3 c3) ∧ w'.cell? ⟨w1.heap.size, 2, none⟩ = some (.slice A4 n4 c4))
    (first | (with_reducible exact ⟨q1, q2⟩) | (with_reducible exact ⟨z4.drew.c1, z4.drew.c2⟩) | go_keep)
    (first
      | (go_at_call 110
         (with_reducible refine (C1.out _ d3.drew).mono ?_)
         rintro e w3 ⟨rfl, rfl⟩)
      | (go_at_call 110
         (with_reducible refine (C2.out _ d4.drew).mono ?_)
         rintro e w3 ⟨rfl, rfl⟩))
  go_wp2_with fail
  go_ret
  exact ⟨rfl, below_drew yb⟩
end Go.Proofs.YtaahbabdbopphaaDoor
