/- The specification: Sum, Product, Best, Distribution. frac.Distribution. -/
import Derived.Test.YtaahbabdbopphaaDoorPW
namespace Go.Proofs.YtaahbabdbopphaaDoor
open Go.RowKit Mx
set_option maxRecDepth 100000

theorem FL.mono {w : World} {A : Option Addr} {K K' : Nat} {qs : List Rat} (h : FL w A K qs) (hk : K ≤ K') : FL w A K' qs := fun i hi => by
  obtain ⟨ad, sb, A1, n1, c1, A2, n2, c2, hA, h0, h1, h2, hr, k1, k2⟩ := h i hi
  exact ⟨ad, sb, A1, n1, c1, A2, n2, c2, hA, h0, h1, h2, hr, by omega, by omega⟩
theorem sum_lens {w : World} {A : Option Addr} {K : Nat} {qs : List Rat} (h : FL w A K qs) (hn : qs.length ≤ 10) (k : Nat) (hk : k ≤ qs.length) :
    ln ((qs.take k).foldl (· + ·) 0) ≤ (1 + (K + 1) * 10 + K + K + 2) * 10 ∧ ld ((qs.take k).foldl (· + ·) 0) ≤ 1 + (K + 1) * 10 := by
  obtain ⟨h1, h2⟩ := sum_len qs 0 K (fun i hi => h.lens i hi) k hk
  have z := ln_zero
  rw [z.1, z.2] at h2
  rw [z.2] at h1
  have a1 : (K + 1) * k ≤ (K + 1) * 10 := Nat.mul_le_mul_left _ (by omega)
  have a2 : (K + 1) * qs.length ≤ (K + 1) * 10 := Nat.mul_le_mul_left _ hn
  have a3 : (1 + (K + 1) * qs.length + K + K + 2) * k ≤ (1 + (K + 1) * 10 + K + K + 2) * 10 := Nat.mul_le_mul (by omega) (by omega)
  omega
theorem prod_lens {w : World} {A : Option Addr} {K : Nat} {qs : List Rat} (h : FL w A K qs) (hn : qs.length ≤ 10) (k : Nat) (hk : k ≤ qs.length) :
    ln ((qs.take k).foldl (· * ·) 1) ≤ 1 + K * 10 ∧ ld ((qs.take k).foldl (· * ·) 1) ≤ 1 + (K + 1) * 10 := by
  obtain ⟨h1, h2⟩ := prod_len qs 1 K (fun i hi => h.lens i hi) k hk
  have z := ln_one
  rw [z.2] at h1
  have a1 : (K + 1) * k ≤ (K + 1) * 10 := Nat.mul_le_mul_left _ (by omega)
  have a2 : K * k ≤ K * 10 := Nat.mul_le_mul_left _ (by omega)
  omega
theorem Fr.zero_w (w : World) : Fr w false none 0 0 none 0 0 0 := by
  obtain ⟨h1, h2, h3⟩ := rn_zero0
  refine ⟨h3.symm, ?_, ?_⟩
  · rw [h1, dig_zero]; exact ⟨rfl, Nat.le_refl _, Rd.nil_ _ _⟩
  · rw [h2, dig_zero]; exact ⟨rfl, Nat.le_refl _, Rd.nil_ _ _⟩

set_option maxHeartbeats 8000000 in
theorem rSum_any (A : Option Addr) (n c : Nat) (qs : List Rat) (w : World) (h2 : FL w A 1000 qs) (hq : qs.length = n) (hn : n ≤ 10) :
    Calls Tryd.prog 40 #[.slice A n c] w (FrW (qs.foldl (· + ·) 0) w) := by
  have HPW : Hid (∀ k, k ≤ n → ln ((qs.take k).foldl (· + ·) 0) ≤ 130200 ∧ ld ((qs.take k).foldl (· + ·) 0) ≤ 130200) := Lib.hid (fun k hk => by have := sum_lens h2 (by omega) k (by omega); omega)
  have HQ := Lib.hid hq
  clear hq
  obtain ⟨u, HU, x1, x2, xb⟩ := boxes2 w (.bool false) (.slice none 0 0) (.slice none 0 0) (.bool false) (.slice none 0 0) (.slice none 0 0) 24 24
  have f0 : Fr u false none 0 0 none 0 0 ((qs.take 0).foldl (· + ·) 0) := Fr.zero_w u
  have hG : w.heap.size < w.heap.size + 1 := Nat.lt_succ_self _
  go_enter Tryd.func40, Tryd.ntmps40
  go_wp2_with fail
  rw [← HU.out]
  go_loopw [4] (fun i wr => ∃ (k : Nat) (s : Bool) (B1 : Option Addr) (m1 d1 : Nat) (B2 : Option Addr) (m2 d2 : Nat), k ≤ n ∧ i = .int .i64 k ∧ Bk wr (w.heap.size + 1) (.bool s) (.slice B1 m1 d1) (.slice B2 m2 d2) ∧ Bk wr w.heap.size (.bool false) (.slice none 0 0) (.slice none 0 0) ∧
      Fr wr s B1 m1 d1 B2 m2 d2 ((qs.take k).foldl (· + ·) 0) ∧ Below w.heap.size w wr) (fun i _ => n - (intOf i).toNat)
  case atStart => exact ⟨0, false, none, 0, 0, none, 0, 0, Nat.zero_le _, rfl, x2, x1, f0, xb⟩
  case round =>
    clear x1 x2 xb f0
    obtain ⟨k, s, B1, m1, d1, B2, m2, d2, hk, rfl, y2, y1, nm, yb⟩ := hrel
    by_cases hlt : k < n
    · have HPk := HPW.out k hk
      have l8 := nm.lens
      have hm1 : m1 ≤ 130200 := by omega
      have hm2 : m2 ≤ 130200 := by omega
      clear HPk l8
      obtain ⟨ad, s3, A3, n3, c3, A4, n4, c4, rfl, k0, k1, k2, hr, hn3, hn4⟩ := (h2.below yb) k (by rw [HQ.out]; exact hlt)
      obtain ⟨q, hqe⟩ : ∃ q, q = qs.getD k 0 := ⟨_, rfl⟩
      rw [← hqe] at hr
      obtain ⟨pp, hpe⟩ : ∃ pp, pp = (qs.take k).foldl (· + ·) 0 := ⟨_, rfl⟩
      rw [← hpe] at nm
      have HS : Hid ((qs.take (k + 1)).foldl (· + ·) 0 = pp + q) := Lib.hid (by rw [sum_take qs 0 k (by rw [HQ.out]; exact hlt), ← hpe, ← hqe])
      clear hqe hpe h2 HPW
      have z1 := y1.drew
      have z2 := y2.drew
      have zn := nm.below (below_drew (Below.refl _ wr))
      have zr := hr.drew
      have zb' := below_drew yb
      have r0 := y2.c0
      have r1 := y2.c1
      have r2 := y2.c2
      have i1 : (0 : Int) ≤ (k : Int) := by omega
      have i2 : (k : Int) < (n : Int) := by omega
      go_wp2_with fail
      go_region_with
        (first
          | (go_at_call 53
             (with_reducible refine (rAdd_any s B1 B2 m1 m2 d1 d2 s3 A3 A4 n3 n4 c3 c4 pp q _ zn.rf zr (by omega) (by omega) (by omega) (by omega)).mono ?_)
             rintro e w4 ⟨s7, A7, n7, c7, A8, n8, c8, rfl, g7, _, _, b4'⟩
             have b1 := z1.below b4'
             have b2 := z2.below b4'
             have bb := bthen zb' b4'
             have f0 := b2.c0
             have f1 := b2.c1
             have f2 := b2.c2
             have v0 := b2.fz 0
             have v1 := b2.fz 1
             have v2 := b2.fz 2))
      all_goals
        go_wp2_with fail
        go_roundw
        case rel => exact ⟨k + 1, s7, A7, n7, c7, A8, n8, c8, by omega, by go_num, b2.self _ _ _, b1.put (Nat.ne_of_lt hG) _ _ _, by rw [HS.out]; exact g7.put3 b2 _ _ _, below_put3 bb (Nat.le_of_lt hG) _ _ _⟩
        case measure => simp [intOf]; omega
    · obtain rfl : k = n := by omega
      have HT : Hid ((qs.take k).foldl (· + ·) 0 = qs.foldl (· + ·) 0) := Lib.hid (by rw [List.take_of_length_le (by rw [HQ.out]; exact Nat.le_refl _)])
      rw [HT.out] at nm
      have r0 := y2.c0
      have r1 := y2.c1
      have r2 := y2.c2
      have t0 := y1.c0
      have t1 := y1.c1
      have t2 := y1.c2
      have v0 := y1.fz 0
      have v1 := y1.fz 1
      have v2 := y1.fz 2
      have GG : Hid (FrW (qs.foldl (· + ·) 0) w (.returned (.agg #[.bool s, .slice B1 m1 d1, .slice B2 m2 d2])) (YtaahbabdbopphaaDoor.put3 wr w.heap.size (.bool s) (.slice B1 m1 d1) (.slice B2 m2 d2))) := Lib.hid ⟨_, _, _, _, _, _, _, rfl, nm.put3 y1 _ _ _, below_put3 yb (Nat.le_refl _) _ _ _⟩
      clear h2 y1 y2 yb nm HPW
      go_wp2_with fail
      exact bodyPost_ret (v := .agg #[.bool s, .slice B1 m1 d1, .slice B2 m2 d2]) (by simp [results, Tryd.results40, go_sem, t0, t1, t2]) rfl GG.out

set_option maxHeartbeats 8000000 in
theorem rProduct_any (A : Option Addr) (n c : Nat) (qs : List Rat) (w : World) (h2 : FL w A 1000 qs) (hq : qs.length = n) (hn : n ≤ 10) :
    Calls Tryd.prog 42 #[.slice A n c] w (FrW (qs.foldl (· * ·) 1) w) := by
  have HPW : Hid (∀ k, k ≤ n → ln ((qs.take k).foldl (· * ·) 1) ≤ 130200 ∧ ld ((qs.take k).foldl (· * ·) 1) ≤ 130200) := Lib.hid (fun k hk => by have := prod_lens h2 (by omega) k (by omega); omega)
  have HQ := Lib.hid hq
  clear hq
  have HP0 : Hid (((1 : Int) : Rat) = (qs.take 0).foldl (· * ·) 1) := Lib.hid rfl
  obtain ⟨u, HU, x1, xb⟩ := boxes1 w (.bool false) (.slice none 0 0) (.slice none 0 0) 24
  go_enter Tryd.func42, Tryd.ntmps42
  go_wp2_with fail
  rw [← HU.out]
  refine (rOf_any 1 _ (by omega) (by omega)).mono ?_
  rintro e w2 ⟨s9, A17, n17, c17, A18, n18, c18, rfl, f9, _, _, b5⟩
  rw [HP0.out] at f9
  obtain ⟨u3, HU3, x2, xb3⟩ := boxes1 w2 (.bool s9) (.slice A17 n17 c17) (.slice A18 n18 c18) 24
  have hG : w.heap.size < w2.heap.size := Nat.lt_of_lt_of_le x1.lt b5.size
  replace x1 := (x1.below b5).below xb3
  replace xb := bthen (bthen xb b5) xb3
  have f0 := f9.below xb3
  clear f9 b5
  go_wp2_with fail
  rw [← HU3.out]
  go_loopw [4] (fun i wr => ∃ (k : Nat) (s : Bool) (B1 : Option Addr) (m1 d1 : Nat) (B2 : Option Addr) (m2 d2 : Nat), k ≤ n ∧ i = .int .i64 k ∧ Bk wr w2.heap.size (.bool s) (.slice B1 m1 d1) (.slice B2 m2 d2) ∧ Bk wr w.heap.size (.bool false) (.slice none 0 0) (.slice none 0 0) ∧
      Fr wr s B1 m1 d1 B2 m2 d2 ((qs.take k).foldl (· * ·) 1) ∧ Below w.heap.size w wr) (fun i _ => n - (intOf i).toNat)
  case atStart => exact ⟨0, s9, A17, n17, c17, A18, n18, c18, Nat.zero_le _, rfl, x2, x1, f0, xb⟩
  case round =>
    clear x1 x2 xb f0
    obtain ⟨k, s, B1, m1, d1, B2, m2, d2, hk, rfl, y2, y1, nm, yb⟩ := hrel
    by_cases hlt : k < n
    · have HPk := HPW.out k hk
      have l8 := nm.lens
      have hm1 : m1 ≤ 130200 := by omega
      have hm2 : m2 ≤ 130200 := by omega
      clear HPk l8
      obtain ⟨ad, s3, A3, n3, c3, A4, n4, c4, rfl, k0, k1, k2, hr, hn3, hn4⟩ := (h2.below yb) k (by rw [HQ.out]; exact hlt)
      obtain ⟨q, hqe⟩ : ∃ q, q = qs.getD k 0 := ⟨_, rfl⟩
      rw [← hqe] at hr
      obtain ⟨pp, hpe⟩ : ∃ pp, pp = (qs.take k).foldl (· * ·) 1 := ⟨_, rfl⟩
      rw [← hpe] at nm
      have HS : Hid ((qs.take (k + 1)).foldl (· * ·) 1 = pp * q) := Lib.hid (by rw [prod_take qs 1 k (by rw [HQ.out]; exact hlt), ← hpe, ← hqe])
      clear hqe hpe h2 HPW
      have z1 := y1.drew
      have z2 := y2.drew
      have zn := nm.below (below_drew (Below.refl _ wr))
      have zr := hr.drew
      have zb' := below_drew yb
      have r0 := y2.c0
      have r1 := y2.c1
      have r2 := y2.c2
      have i1 : (0 : Int) ≤ (k : Int) := by omega
      have i2 : (k : Int) < (n : Int) := by omega
      go_wp2_with fail
      go_region_with
        (first
          | (go_at_call 37
             (with_reducible refine (rMul_any s B1 B2 m1 m2 d1 d2 s3 A3 A4 n3 n4 c3 c4 pp q _ zn.rf zr (by omega) (by omega) (by omega) (by omega)).mono ?_)
             rintro e w4 ⟨s7, A7, n7, c7, A8, n8, c8, rfl, g7, _, _, b4'⟩
             have b1 := z1.below b4'
             have b2 := z2.below b4'
             have bb := bthen zb' b4'
             have f0 := b2.c0
             have f1 := b2.c1
             have f2 := b2.c2
             have v0 := b2.fz 0
             have v1 := b2.fz 1
             have v2 := b2.fz 2))
      all_goals
        go_wp2_with fail
        go_roundw
        case rel => exact ⟨k + 1, s7, A7, n7, c7, A8, n8, c8, by omega, by go_num, b2.self _ _ _, b1.put (Nat.ne_of_lt hG) _ _ _, by rw [HS.out]; exact g7.put3 b2 _ _ _, below_put3 bb (Nat.le_of_lt hG) _ _ _⟩
        case measure => simp [intOf]; omega
    · obtain rfl : k = n := by omega
      have HT : Hid ((qs.take k).foldl (· * ·) 1 = qs.foldl (· * ·) 1) := Lib.hid (by rw [List.take_of_length_le (by rw [HQ.out]; exact Nat.le_refl _)])
      rw [HT.out] at nm
      have r0 := y2.c0
      have r1 := y2.c1
      have r2 := y2.c2
      have t0 := y1.c0
      have t1 := y1.c1
      have t2 := y1.c2
      have v0 := y1.fz 0
      have v1 := y1.fz 1
      have v2 := y1.fz 2
      have GG : Hid (FrW (qs.foldl (· * ·) 1) w (.returned (.agg #[.bool s, .slice B1 m1 d1, .slice B2 m2 d2])) (YtaahbabdbopphaaDoor.put3 wr w.heap.size (.bool s) (.slice B1 m1 d1) (.slice B2 m2 d2))) := Lib.hid ⟨_, _, _, _, _, _, _, rfl, nm.put3 y1 _ _ _, below_put3 yb (Nat.le_refl _) _ _ _⟩
      clear h2 y1 y2 yb nm HPW
      go_wp2_with fail
      exact bodyPost_ret (v := .agg #[.bool s, .slice B1 m1 d1, .slice B2 m2 d2]) (by simp [results, Tryd.results42, go_sem, t0, t1, t2]) rfl GG.out

set_option maxHeartbeats 8000000 in
theorem rBest_any (A : Option Addr) (n c : Nat) (qs : List Rat) (w : World) (h2 : FL w A 1000 qs) (hq : qs.length = n) (hn : n ≤ 10) :
    Calls Tryd.prog 44 #[.slice A n c] w (ValPost (.int .i64 (bst qs n)) w) := by
  have HQ := Lib.hid hq
  clear hq
  go_enter Tryd.func44, Tryd.ntmps44
  go_wp2_with fail
  go_loopw [3, 4] (fun a i wr => ∃ (k : Nat) (b : Int), k ≤ n ∧ i = .int .i64 k ∧ a = .int .i64 b ∧ Hid (b = bst qs k) ∧ -1 ≤ b ∧ b < k ∧ Below w.heap.size w wr) (fun _ i _ => n - (intOf i).toNat)
  case atStart => exact ⟨0, -1, Nat.zero_le _, rfl, rfl, rfl, by omega, by omega, Below.refl _ _⟩
  case round =>
    obtain ⟨k, b, hk, rfl, rfl, HB, hb1, hb2, yb⟩ := hrel
    by_cases hlt : k < n
    · obtain ⟨ad, s3, A3, n3, c3, A4, n4, c4, rfl, k0, k1, k2, hr, hn3, hn4⟩ := (h2.below yb) k (by rw [HQ.out]; exact hlt)
      by_cases hneg : b < 0
      · have HN : Hid ((k : Int) = bst qs (k + 1)) := Lib.hid (by rw [bst, if_pos (.inl (by rw [← HB.out]; exact hneg))])
        clear h2
        go_wp2_with fail
        go_quiet (fail)
        go_wp2_with fail
        go_roundw
        case rel => exact ⟨k + 1, k, by omega, by go_num, rfl, HN, by omega, by omega, below_drewN yb _⟩
        case measure => simp [intOf]; omega
      · obtain ⟨B, rfl⟩ := Int.eq_ofNat_of_zero_le (show 0 ≤ b by omega)
        obtain ⟨ad', s5, A5, n5, c5, A6, n6, c6, hA', m0, m1, m2, mr, hn5, hn6⟩ := (h2.below yb) B (by rw [HQ.out]; omega)
        injection hA' with hA'
        subst hA'
        have j0 : wr.drew.cell? (ad.add (B * 3)) = some (.bool s5) := m0
        have l0 : wr.drew.cell? (ad.add (k * 3)) = some (.bool s3) := k0
        have hz := hr.drew
        have mz := mr.drew
        obtain ⟨r, hre⟩ : ∃ r, r = sgn (qs.getD k 0 - qs.getD B 0) := ⟨_, rfl⟩
        have HC := Lib.hid (rCmp_any s3 A3 A4 n3 n4 c3 c4 s5 A5 A6 n5 n6 c5 c6 _ _ wr.drew hz mz (by omega) (by omega) (by omega) (by omega))
        have HN : Hid (bst qs (k + 1) = if 0 < r then (k : Int) else (B : Int)) := Lib.hid (by
          rw [bst, ← HB.out, Int.toNat_natCast, ← hre]
          by_cases h0 : 0 < r
          · rw [if_pos (.inr h0), if_pos h0]
          · rw [if_neg (by omega), if_neg h0])
        rw [← hre] at HC
        have ybd := below_drew yb
        have i1 : (0 : Int) ≤ (B : Int) := by omega
        have i2 : (B : Int) < (n : Int) := by omega
        have i3 : (0 : Int) ≤ (k : Int) := by omega
        have i4 : (k : Int) < (n : Int) := by omega
        clear h2 hre
        go_wp2_with fail
        go_region_held3 (fun w' => w'.cell? (ad.add (k * 3)) = some (.bool s3) ∧ w'.cell? ⟨(ad.add (k * 3)).block, (ad.add (k * 3)).off + 1, none⟩ = some (.slice A3 n3 c3) ∧ w'.cell? ⟨(ad.add (k * 3)).block, (ad.add (k * 3)).off + 2, none⟩ = some (.slice A4 n4 c4) ∧
            w'.cell? (ad.add (B * 3)) = some (.bool s5) ∧ w'.cell? ⟨(ad.add (B * 3)).block, (ad.add (B * 3)).off + 1, none⟩ = some (.slice A5 n5 c5) ∧ w'.cell? ⟨(ad.add (B * 3)).block, (ad.add (B * 3)).off + 2, none⟩ = some (.slice A6 n6 c6))
          (first | (with_reducible exact ⟨k0, k1, k2, m0, m1, m2⟩) | (with_reducible exact KF) | go_keep)
          (first
            | (go_at_call 29
               (with_reducible refine HC.out.mono ?_)
               rintro e w3 ⟨rfl, b3⟩
               have ab := bthen ybd b3
               have KF := And.intro (cell_below b3 l0) (And.intro (cell_below b3 (show wr.drew.cell? _ = _ from k1)) (And.intro (cell_below b3 (show wr.drew.cell? _ = _ from k2)) (And.intro (cell_below b3 j0) (And.intro (cell_below b3 (show wr.drew.cell? _ = _ from m1)) (cell_below b3 (show wr.drew.cell? _ = _ from m2))))))))
        by_cases hpos : 0 < r
        · go_wp2_with fail
          go_roundw
          case rel => exact ⟨k + 1, k, by omega, by go_num, rfl, by rw [HN.out, if_pos hpos]; rfl, by omega, by omega, ab⟩
          case measure => simp [intOf]; omega
        · go_wp2_with fail
          go_roundw
          case rel => exact ⟨k + 1, B, by omega, by go_num, rfl, by rw [HN.out, if_neg hpos]; rfl, by omega, by omega, ab⟩
          case measure => simp [intOf]; omega
    · obtain rfl : k = n := by omega
      go_wp2_with fail
      go_ret
      exact ⟨by rw [← HB.out]; rfl, yb⟩

/-- Is none of the first k negative? -/
def nng (qs : List Rat) (k : Nat) : Prop := ∀ i, i < k → 0 ≤ sgn (qs.getD i 0)
instance (qs : List Rat) (k : Nat) : Decidable (nng qs k) := by unfold nng; exact inferInstance
/-- Is the list a distribution? -/
def dst (qs : List Rat) : Bool := decide (nng qs qs.length ∧ qs.foldl (· + ·) 0 = 1)
theorem dst_no {qs : List Rat} {k : Nat} (hk : k < qs.length) (h : sgn (qs.getD k 0) < 0) : dst qs = false := by
  unfold dst
  exact decide_eq_false (fun hh => by have := hh.1 k hk; omega)
theorem dst_all {qs : List Rat} (h : nng qs qs.length) (b : Bool) (hb : b = decide (sgn (qs.foldl (· + ·) 0 - ((1 : Int) : Rat)) = 0)) : dst qs = b := by
  unfold dst
  rw [hb, decide_eq_decide, sgn_zero_iff]
  have one : ((1 : Int) : Rat) = 1 := rfl
  rw [one]
  generalize qs.foldl (· + ·) 0 = S
  constructor
  · rintro ⟨-, e⟩; grind
  · intro e; exact ⟨h, by grind⟩
set_option maxHeartbeats 8000000 in
theorem rDistribution_any (A : Option Addr) (n c : Nat) (qs : List Rat) (w : World) (h2 : FL w A 50 qs) (hq : qs.length = n) (hn : n ≤ 10) :
    Calls Tryd.prog 46 #[.slice A n c] w (ValPost (.bool (dst qs)) w) := by
  have HLS : Hid (ln (qs.foldl (· + ·) 0) ≤ 10000 ∧ ld (qs.foldl (· + ·) 0) ≤ 10000) := Lib.hid (by
    have := sum_lens h2 (by omega) qs.length (Nat.le_refl _)
    rw [List.take_length] at this
    omega)
  have H1 : Hid (ln ((1 : Int) : Rat) ≤ 1 ∧ ld ((1 : Int) : Rat) = 1) := Lib.hid ln_one
  have HQ := Lib.hid hq
  obtain ⟨b, hb⟩ : ∃ b, Hid (b = dst qs) := ⟨_, rfl⟩
  rw [← hb.out]
  clear hq
  go_enter Tryd.func46, Tryd.ntmps46
  go_wp2_with fail
  go_loopw [3] (fun i wr => ∃ (k : Nat), k ≤ n ∧ i = .int .i64 k ∧ Hid (nng qs k) ∧ Below w.heap.size w wr) (fun i _ => n - (intOf i).toNat)
  case atStart => exact ⟨0, Nat.zero_le _, rfl, Lib.hid (fun i hi => absurd hi (Nat.not_lt_zero _)), Below.refl _ _⟩
  case round =>
    obtain ⟨k, hk, rfl, HB, yb⟩ := hrel
    by_cases hlt : k < n
    · obtain ⟨ad, s3, A3, n3, c3, A4, n4, c4, rfl, k0, k1, k2, hr, hn3, hn4⟩ := (h2.below yb) k (by rw [HQ.out]; exact hlt)
      obtain ⟨r, hre⟩ : ∃ r, r = sgn (qs.getD k 0) := ⟨_, rfl⟩
      have HC := Lib.hid (rSign_any s3 A3 A4 n3 n4 c3 c4 _ wr hr (by omega) (by omega))
      rw [← hre] at HC
      have HR := Lib.hid hre
      have i1 : (0 : Int) ≤ (k : Int) := by omega
      have i2 : (k : Int) < (n : Int) := by omega
      clear h2 hre hr
      by_cases hneg : r < 0
      · have HF : Hid (b = false) := Lib.hid (by rw [hb.out]; exact dst_no (by rw [HQ.out]; exact hlt) (by rw [← HR.out]; exact hneg))
        go_wp2_with fail
        refine HC.out.mono ?_
        rintro e w3 ⟨rfl, b3⟩
        have ab := bthen yb b3
        go_wp2_with fail
        go_ret
        exact ⟨by rw [HF.out]; rfl, ab⟩
      · have HN : Hid (nng qs (k + 1)) := Lib.hid (fun i hi => by
          by_cases e : i = k
          · subst e; rw [← HR.out]; omega
          · exact HB.out i (by omega))
        go_wp2_with fail
        refine HC.out.mono ?_
        rintro e w3 ⟨rfl, b3⟩
        have ab := bthen yb b3
        go_wp2_with fail
        go_roundw
        case rel => exact ⟨k + 1, by omega, by go_num, HN, ab⟩
        case measure => simp [intOf]; omega
    · obtain rfl : k = n := by omega
      have HV : Hid (b = decide (sgn (qs.foldl (· + ·) 0 - ((1 : Int) : Rat)) = 0)) := Lib.hid (by rw [hb.out]; exact dst_all (by rw [HQ.out]; exact HB.out) _ rfl)
      have hS := (h2.mono (show 50 ≤ 1000 by omega)).below yb
      clear h2
      go_wp2_with fail
      refine (rSum_any A k c qs _ hS HQ.out hn).mono ?_
      rintro e w3 ⟨s5, A5, n5, c5, A6, n6, c6, rfl, f5, b5⟩
      have hn5 : n5 ≤ 10000 := by have := f5.lens; have := HLS.out; omega
      have hn6 : n6 ≤ 10000 := by have := f5.lens; have := HLS.out; omega
      replace yb := bthen yb b5
      clear hS
      go_wp2_with fail
      refine (rOf_any 1 _ (by omega) (by omega)).mono ?_
      rintro e w4 ⟨s7, A7, n7, c7, A8, n8, c8, rfl, f7, _, _, b7⟩
      have hn7 : n7 ≤ 10 := by have := f7.lens; have := H1.out; omega
      have hn8 : n8 ≤ 10 := by have := f7.lens; have := H1.out; omega
      replace yb := bthen yb b7
      replace f5 := f5.below b7
      obtain ⟨r, hre⟩ : ∃ r, r = sgn (qs.foldl (· + ·) 0 - ((1 : Int) : Rat)) := ⟨_, rfl⟩
      have HC := Lib.hid (rCmp_any s5 A5 A6 n5 n6 c5 c6 s7 A7 A8 n7 n8 c7 c8 _ _ w4 f5.rf f7.rf (by omega) (by omega) (by omega) (by omega))
      rw [← hre] at HC HV
      have HE : Hid ((r == 0) = b) := Lib.hid (by rw [HV.out]; rfl)
      clear hre f5 f7
      go_wp2_with fail
      refine HC.out.mono ?_
      rintro e w5 ⟨rfl, b8⟩
      replace yb := bthen yb b8
      go_wp2_with fail
      go_ret
      exact ⟨by rw [← HE.out]; rfl, yb⟩

def IdxPost (qs : List Rat) (n : Nat) (w : World) (e : Ending) (w' : World) : Prop :=
  ∃ r : Int, e = .returned (.int .i64 r) ∧ Hid (nng qs n ↔ r < 0) ∧ -1 ≤ r ∧ r < 9223372036854775807 ∧ Below w.heap.size w w'

set_option maxHeartbeats 2000000 in
theorem Neg100_any (s1 : Bool) (A1 A2 : Option Addr) (n1 n2 c1 c2 : Nat) (q : Rat) (w : World) (h1 : Rf w s1 A1 n1 c1 A2 n2 c2 q) (l1 : n1 ≤ 1000) (l2 : n2 ≤ 1000) :
    Calls Tryd.prog 100 #[.agg #[.bool s1, .slice A1 n1 c1, .slice A2 n2 c2]] w (ValPost (.bool (decide (sgn q < 0))) w) := by
  obtain ⟨u, HU, x1, xb⟩ := boxes1 w (.bool s1) (.slice A1 n1 c1) (.slice A2 n2 c2) 24
  have h1 := h1.below xb
  obtain ⟨r, hr⟩ : ∃ r, r = sgn q := ⟨_, rfl⟩
  have HC := Lib.hid (Sign_any s1 A1 A2 n1 n2 c1 c2 q u h1 (by omega) (by omega))
  rw [← hr] at HC ⊢
  clear hr h1
  go_enter Tryd.func100, Tryd.ntmps100
  go_wp2_with fail
  rw [← HU.out]
  refine HC.out.mono ?_
  rintro e w1 ⟨rfl, b1⟩
  have yb := bthen xb b1
  go_wp2_with fail
  go_ret
  exact ⟨rfl, yb⟩
set_option maxHeartbeats 4000000 in
theorem Index100_any (A : Option Addr) (n c : Nat) (qs : List Rat) (w : World) (h2 : FL w A 1000 qs) (hq : qs.length = n) (hn : n ≤ 10) :
    Calls Tryd.prog 124 #[.slice A n c, .func (.func 100) #[] #[]] w (IdxPost qs n w) := by
  have HQ := Lib.hid hq
  clear hq
  go_enter Tryd.func124, Tryd.ntmps124
  go_wp2_with fail
  go_loopw [8] (fun i wr => ∃ (k : Nat), k ≤ n ∧ i = .int .i64 k ∧ Hid (nng qs k) ∧ Below w.heap.size w wr) (fun i _ => n - (intOf i).toNat)
  case atStart => exact ⟨0, Nat.zero_le _, rfl, Lib.hid (fun i hi => absurd hi (Nat.not_lt_zero _)), Below.refl _ _⟩
  case round =>
    obtain ⟨k, hk, rfl, HB, yb⟩ := hrel
    by_cases hlt : k < n
    · obtain ⟨ad, s3, A3, n3, c3, A4, n4, c4, rfl, k0, k1, k2, hr, hn3, hn4⟩ := (h2.below yb) k (by rw [HQ.out]; exact hlt)
      obtain ⟨r, hre⟩ : ∃ r, r = sgn (qs.getD k 0) := ⟨_, rfl⟩
      have HC := Lib.hid (Neg100_any s3 A3 A4 n3 n4 c3 c4 _ wr hr (by omega) (by omega))
      rw [← hre] at HC
      have HR := Lib.hid hre
      have i1 : (0 : Int) ≤ (k : Int) := by omega
      have i2 : (k : Int) < (n : Int) := by omega
      clear h2 hre hr
      by_cases hneg : r < 0
      · rw [decide_eq_true hneg] at HC
        have HF : Hid (¬ nng qs n) := Lib.hid (fun h => by have := h k hlt; rw [← HR.out] at this; omega)
        go_wp2_with fail
        refine HC.out.mono ?_
        rintro e w3 ⟨rfl, b3⟩
        have ab := bthen yb b3
        go_wp2_with fail
        go_ret
        exact ⟨(k : Int), rfl, Lib.hid ⟨fun h => absurd h HF.out, fun h => absurd i1 (by omega)⟩, by omega, by omega, ab⟩
      · rw [decide_eq_false hneg] at HC
        have HN : Hid (nng qs (k + 1)) := Lib.hid (fun i hi => by
          by_cases e : i = k
          · subst e; rw [← HR.out]; omega
          · exact HB.out i (by omega))
        go_wp2_with fail
        refine HC.out.mono ?_
        rintro e w3 ⟨rfl, b3⟩
        have ab := bthen yb b3
        go_wp2_with fail
        go_roundw
        case rel => exact ⟨k + 1, by omega, by go_num, HN, ab⟩
        case measure => simp [intOf]; omega
    · obtain rfl : k = n := by omega
      go_wp2_with fail
      go_ret
      exact ⟨-1, rfl, Lib.hid ⟨fun _ => by omega, fun _ => HB.out⟩, by omega, by omega, yb⟩
set_option maxHeartbeats 2000000 in
theorem Contains100_yes (A : Option Addr) (n c : Nat) (qs : List Rat) (w : World) (h2 : FL w A 1000 qs) (hq : qs.length = n) (hn : n ≤ 10) (b : Bool) (hb : Hid (b = true ↔ ¬ nng qs n)) :
    Calls Tryd.prog 99 #[.slice A n c, .func (.func 100) #[] #[]] w (ValPost (.bool b) w) := by
  have HC := Lib.hid (Index100_any A n c qs w h2 hq hn)
  clear h2 hq hn
  go_enter Tryd.func99, Tryd.ntmps99
  go_wp2_with fail
  refine HC.out.mono ?_
  rintro e w1 ⟨r, rfl, hr, r1, r2, b1⟩
  by_cases h0 : r < 0
  · have HF : Hid (b = false) := Lib.hid (by
      cases b with
      | false => rfl
      | true => exact absurd (hr.out.2 h0) (hb.out.1 rfl))
    have h0' : decide (0 ≤ r) = false := decide_eq_false (by omega)
    go_wp2_with fail
    go_ret
    exact ⟨by rw [HF.out]; rfl, b1⟩
  · have HF : Hid (b = true) := Lib.hid (hb.out.2 (fun h => h0 (hr.out.1 h)))
    go_wp2_with fail
    go_ret
    exact ⟨by rw [HF.out]; rfl, b1⟩

set_option maxHeartbeats 2000000 in
theorem Neg103_any (s1 : Bool) (A1 A2 : Option Addr) (n1 n2 c1 c2 : Nat) (q : Rat) (w : World) (h1 : Rf w s1 A1 n1 c1 A2 n2 c2 q) (l1 : n1 ≤ 1000) (l2 : n2 ≤ 1000) :
    Calls Tryd.prog 103 #[.agg #[.bool s1, .slice A1 n1 c1, .slice A2 n2 c2]] w (ValPost (.bool (decide (sgn q < 0))) w) := by
  obtain ⟨u, HU, x1, xb⟩ := boxes1 w (.bool s1) (.slice A1 n1 c1) (.slice A2 n2 c2) 24
  have h1 := h1.below xb
  obtain ⟨r, hr⟩ : ∃ r, r = sgn q := ⟨_, rfl⟩
  have HC := Lib.hid (Sign_any s1 A1 A2 n1 n2 c1 c2 q u h1 (by omega) (by omega))
  rw [← hr] at HC ⊢
  clear hr h1
  go_enter Tryd.func103, Tryd.ntmps103
  go_wp2_with fail
  rw [← HU.out]
  refine HC.out.mono ?_
  rintro e w1 ⟨rfl, b1⟩
  have yb := bthen xb b1
  go_wp2_with fail
  go_ret
  exact ⟨rfl, yb⟩
set_option maxHeartbeats 4000000 in
theorem Index103_any (A : Option Addr) (n c : Nat) (qs : List Rat) (w : World) (h2 : FL w A 1000 qs) (hq : qs.length = n) (hn : n ≤ 10) :
    Calls Tryd.prog 124 #[.slice A n c, .func (.func 103) #[] #[]] w (IdxPost qs n w) := by
  have HQ := Lib.hid hq
  clear hq
  go_enter Tryd.func124, Tryd.ntmps124
  go_wp2_with fail
  go_loopw [8] (fun i wr => ∃ (k : Nat), k ≤ n ∧ i = .int .i64 k ∧ Hid (nng qs k) ∧ Below w.heap.size w wr) (fun i _ => n - (intOf i).toNat)
  case atStart => exact ⟨0, Nat.zero_le _, rfl, Lib.hid (fun i hi => absurd hi (Nat.not_lt_zero _)), Below.refl _ _⟩
  case round =>
    obtain ⟨k, hk, rfl, HB, yb⟩ := hrel
    by_cases hlt : k < n
    · obtain ⟨ad, s3, A3, n3, c3, A4, n4, c4, rfl, k0, k1, k2, hr, hn3, hn4⟩ := (h2.below yb) k (by rw [HQ.out]; exact hlt)
      obtain ⟨r, hre⟩ : ∃ r, r = sgn (qs.getD k 0) := ⟨_, rfl⟩
      have HC := Lib.hid (Neg103_any s3 A3 A4 n3 n4 c3 c4 _ wr hr (by omega) (by omega))
      rw [← hre] at HC
      have HR := Lib.hid hre
      have i1 : (0 : Int) ≤ (k : Int) := by omega
      have i2 : (k : Int) < (n : Int) := by omega
      clear h2 hre hr
      by_cases hneg : r < 0
      · rw [decide_eq_true hneg] at HC
        have HF : Hid (¬ nng qs n) := Lib.hid (fun h => by have := h k hlt; rw [← HR.out] at this; omega)
        go_wp2_with fail
        refine HC.out.mono ?_
        rintro e w3 ⟨rfl, b3⟩
        have ab := bthen yb b3
        go_wp2_with fail
        go_ret
        exact ⟨(k : Int), rfl, Lib.hid ⟨fun h => absurd h HF.out, fun h => absurd i1 (by omega)⟩, by omega, by omega, ab⟩
      · rw [decide_eq_false hneg] at HC
        have HN : Hid (nng qs (k + 1)) := Lib.hid (fun i hi => by
          by_cases e : i = k
          · subst e; rw [← HR.out]; omega
          · exact HB.out i (by omega))
        go_wp2_with fail
        refine HC.out.mono ?_
        rintro e w3 ⟨rfl, b3⟩
        have ab := bthen yb b3
        go_wp2_with fail
        go_roundw
        case rel => exact ⟨k + 1, by omega, by go_num, HN, ab⟩
        case measure => simp [intOf]; omega
    · obtain rfl : k = n := by omega
      go_wp2_with fail
      go_ret
      exact ⟨-1, rfl, Lib.hid ⟨fun _ => by omega, fun _ => HB.out⟩, by omega, by omega, yb⟩
set_option maxHeartbeats 2000000 in
theorem Contains103_yes (A : Option Addr) (n c : Nat) (qs : List Rat) (w : World) (h2 : FL w A 1000 qs) (hq : qs.length = n) (hn : n ≤ 10) (b : Bool) (hb : Hid (b = true ↔ ¬ nng qs n)) :
    Calls Tryd.prog 99 #[.slice A n c, .func (.func 103) #[] #[]] w (ValPost (.bool b) w) := by
  have HC := Lib.hid (Index103_any A n c qs w h2 hq hn)
  clear h2 hq hn
  go_enter Tryd.func99, Tryd.ntmps99
  go_wp2_with fail
  refine HC.out.mono ?_
  rintro e w1 ⟨r, rfl, hr, r1, r2, b1⟩
  by_cases h0 : r < 0
  · have HF : Hid (b = false) := Lib.hid (by
      cases b with
      | false => rfl
      | true => exact absurd (hr.out.2 h0) (hb.out.1 rfl))
    have h0' : decide (0 ≤ r) = false := decide_eq_false (by omega)
    go_wp2_with fail
    go_ret
    exact ⟨by rw [HF.out]; rfl, b1⟩
  · have HF : Hid (b = true) := Lib.hid (hb.out.2 (fun h => h0 (hr.out.1 h)))
    go_wp2_with fail
    go_ret
    exact ⟨by rw [HF.out]; rfl, b1⟩

set_option maxHeartbeats 8000000 in
theorem Distribution_any (A : Option Addr) (n c : Nat) (qs : List Rat) (w : World) (h2 : FL w A 500 qs) (hq : qs.length = n) (hn : n ≤ 10) :
    Calls Tryd.prog 45 #[.slice A n c] w (ValPost (.bool (dst qs)) w) := by
  have HLS : Hid (ln (qs.foldl (· + ·) 0) ≤ 100000 ∧ ld (qs.foldl (· + ·) 0) ≤ 100000) := Lib.hid (by
    have := sum_lens h2 (by omega) qs.length (Nat.le_refl _)
    rw [List.take_length] at this
    omega)
  have H1 : Hid (ln ((1 : Int) : Rat) ≤ 1 ∧ ld ((1 : Int) : Rat) = 1) := Lib.hid ln_one
  have HQ := Lib.hid hq
  obtain ⟨b, hb⟩ : ∃ b, Hid (b = dst qs) := ⟨_, rfl⟩
  rw [← hb.out]
  have h2 := h2.mono (show 500 ≤ 1000 by omega)
  clear hq
  by_cases hng : nng qs n
  · have HC := Lib.hid (Contains100_yes A n c qs w h2 HQ.out hn false (Lib.hid ⟨fun h => (nomatch h), fun h => absurd hng h⟩))
    have HV : Hid (b = decide (sgn (qs.foldl (· + ·) 0 - ((1 : Int) : Rat)) = 0)) := Lib.hid (by rw [hb.out]; exact dst_all (by rw [HQ.out]; exact hng) _ rfl)
    clear hng
    go_enter Tryd.func45, Tryd.ntmps45
    go_wp2_with fail
    refine HC.out.mono ?_
    rintro e w1 ⟨rfl, b1⟩
    have hS := h2.below b1
    clear HC h2
    go_wp2_with fail
    refine (Sum_any A n c qs _ hS HQ.out hn).mono ?_
    rintro e w3 ⟨s5, A5, n5, c5, A6, n6, c6, rfl, f5, _, _, b5⟩
    have hn5 : n5 ≤ 100000 := by have := f5.lens; have := HLS.out; omega
    have hn6 : n6 ≤ 100000 := by have := f5.lens; have := HLS.out; omega
    have yb := bthen b1 b5
    clear hS
    go_wp2_with fail
    refine (Of_any 1 _ (by omega) (by omega)).mono ?_
    rintro e w4 ⟨s7, A7, n7, c7, A8, n8, c8, rfl, f7, _, _, b7⟩
    have hn7 : n7 ≤ 10 := by have := f7.lens; have := H1.out; omega
    have hn8 : n8 ≤ 10 := by have := f7.lens; have := H1.out; omega
    replace yb := bthen yb b7
    replace f5 := f5.below b7
    obtain ⟨r, hre⟩ : ∃ r, r = sgn (qs.foldl (· + ·) 0 - ((1 : Int) : Rat)) := ⟨_, rfl⟩
    have HC := Lib.hid (Cmp_any s5 s7 A5 A6 A7 A8 n5 n6 n7 n8 c5 c6 c7 c8 _ _ w4 f5.rf f7.rf (by omega) (by omega) (by omega) (by omega))
    rw [← hre] at HC HV
    have HE : Hid ((r == 0) = b) := Lib.hid (by rw [HV.out]; rfl)
    clear hre f5 f7
    go_wp2_with fail
    refine HC.out.mono ?_
    rintro e w5 ⟨rfl, b8⟩
    replace yb := bthen yb b8
    go_wp2_with fail
    go_ret
    exact ⟨by rw [← HE.out]; rfl, yb⟩
  · have HC := Lib.hid (Contains100_yes A n c qs w h2 HQ.out hn true (Lib.hid ⟨fun _ => hng, fun _ => rfl⟩))
    have HF : Hid (b = false) := Lib.hid (by rw [hb.out]; unfold dst; exact decide_eq_false (fun h => hng (by rw [← HQ.out]; exact h.1)))
    clear hng h2
    go_enter Tryd.func45, Tryd.ntmps45
    go_wp2_with fail
    refine HC.out.mono ?_
    rintro e w1 ⟨rfl, b1⟩
    clear HC
    go_wp2_with fail
    go_ret
    exact ⟨by rw [HF.out]; rfl, b1⟩
end Go.Proofs.YtaahbabdbopphaaDoor
