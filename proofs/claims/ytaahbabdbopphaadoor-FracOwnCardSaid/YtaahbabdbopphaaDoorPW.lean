/- The specification: Pow. -/
import Derived.Test.YtaahbabdbopphaaDoorRC
import Derived.Test.YtaahbabdbopphaaDoorB0
import Derived.Deep.LoopGhost
namespace Go.Proofs.YtaahbabdbopphaaDoor
open Go.RowKit Mx
set_option maxRecDepth 100000

/-- A canonical Frac, of whatever memory. -/
def FrW (q : Rat) (w : World) (e : Ending) (w' : World) : Prop := ∃ sb A n c A' n' c', e = .returned (.agg #[.bool sb, .slice A n c, .slice A' n' c']) ∧ Fr w' sb A n c A' n' c' q ∧ Below w.heap.size w w'
theorem Rf.put3 {w : World} {sb : Bool} {A1 : Option Addr} {n1 c1 : Nat} {A2 : Option Addr} {n2 c2 : Nat} {q : Rat} (h : Rf w sb A1 n1 c1 A2 n2 c2 q) {g : Nat} {x : Bool} {A B : Option Addr} {n m c d : Nat}
    (k : Bk w g (.bool x) (.slice A n c) (.slice B m d)) (u v z : Value) : Rf (YtaahbabdbopphaaDoor.put3 w g u v z) sb A1 n1 c1 A2 n2 c2 q := by
  obtain ⟨xs, ys, h1, h2, h3⟩ := h
  exact ⟨xs, ys, h1.put3 k.c0 k.c1 k.c2 (notDigit_bool _) (notDigit_slice _ _ _) (notDigit_slice _ _ _) u v z, h2.put3 k.c0 k.c1 k.c2 (notDigit_bool _) (notDigit_slice _ _ _) (notDigit_slice _ _ _) u v z, h3⟩
theorem pow_len (q : Rat) (N k : Nat) (hk : k ≤ N) (hN : N ≤ 1000) (h1 : ln q ≤ 10) (h2 : ld q ≤ 10) : ln (q ^ k) ≤ 10001 ∧ ld (q ^ k) ≤ 10001 := by
  have e1 := len_pow (rn q) k
  have e2 := len_pow (rd q) k
  unfold ln ld at *
  rw [(pow_parts q k).2.1, (pow_parts q k).2.2]
  have a1 : k * (dig (rn q)).length ≤ 1000 * 10 := Nat.mul_le_mul (by omega) h1
  have a2 : k * (dig (rd q)).length ≤ 1000 * 10 := Nat.mul_le_mul (by omega) h2
  omega

set_option maxHeartbeats 4000000 in
theorem rPow_nat (s1 : Bool) (A1 A2 : Option Addr) (n1 n2 c1 c2 : Nat) (q : Rat) (N : Nat) (w : World) (h : Rf w s1 A1 n1 c1 A2 n2 c2 q) (hl1 : n1 ≤ 1000) (hl2 : n2 ≤ 1000) (hq1 : ln q ≤ 10) (hq2 : ld q ≤ 10) (hN : N ≤ 1000) :
    Calls Tryd.prog 24 #[.agg #[.bool s1, .slice A1 n1 c1, .slice A2 n2 c2], .int .i64 (N : Int)] w (FrW (q ^ N) w) := by
  have HPW : Hid (∀ k, k ≤ N → ln (q ^ k) ≤ 10001 ∧ ld (q ^ k) ≤ 10001) := Lib.hid (fun k hk => pow_len q N k hk hN hq1 hq2)
  obtain ⟨u, HU, x1, x2, xb⟩ := boxes2 w (.bool s1) (.slice A1 n1 c1) (.slice A2 n2 c2) (.bool false) (.slice none 0 0) (.slice none 0 0) 24 24
  replace h := h.below xb
  have g0 : (0 : Int) ≤ (N : Int) := by omega
  have HP0 : Hid (((1 : Int) : Rat) = q ^ 0) := Lib.hid (by rw [Rat.pow_zero, Rat.intCast_one])
  clear hq1 hq2
  go_enter Tryd.func24, Tryd.ntmps24
  go_wp2_with fail
  rw [← HU.out]
  refine (rOf_any 1 _ (by omega) (by omega)).mono ?_
  rintro e w2 ⟨s9, A17, n17, c17, A18, n18, c18, rfl, f9, _, _, b5⟩
  rw [HP0.out] at f9
  obtain ⟨u3, HU3, x3, xb3⟩ := boxes1 w2 (.bool s9) (.slice A17 n17 c17) (.slice A18 n18 c18) 24
  have hlt := Nat.lt_of_lt_of_le x2.lt b5.size
  have z1 := (x1.below b5).below xb3
  have z2 := (x2.below b5).below xb3
  have zh := (h.below b5).below xb3
  have zf := f9.below xb3
  have zb := bthen (bthen xb b5) xb3
  go_wp2_with fail
  rw [← HU3.out]
  go_loopw [6] (fun i wr => ∃ (k : Nat) (s : Bool) (A B : Option Addr) (n c m d : Nat), k ≤ N ∧ i = .int .i64 k ∧ Bk wr w2.heap.size (.bool s) (.slice A n c) (.slice B m d) ∧ Fr wr s A n c B m d (q ^ k) ∧
      Bk wr w.heap.size (.bool s1) (.slice A1 n1 c1) (.slice A2 n2 c2) ∧ Rf wr s1 A1 n1 c1 A2 n2 c2 q ∧ Bk wr (w.heap.size + 1) (.bool false) (.slice none 0 0) (.slice none 0 0) ∧ Below w.heap.size w wr)
    (fun i _ => N - (intOf i).toNat)
  case atStart => exact ⟨0, s9, A17, A18, n17, c17, n18, c18, Nat.zero_le _, rfl, x3, zf, z1, zh, z2, zb⟩
  case round =>
    obtain ⟨k, s8, A15, A16, n15, c15, n16, c16, hk, rfl, kb, f8, ka, ra, kr, hb⟩ := hrel
    have l8 := f8.lens
    have HPk := (HPW.out k hk)
    have hn15 : n15 ≤ 100000 := by omega
    have hn16 : n16 ≤ 100000 := by omega
    clear l8 HPk
    have p0 := kb.c0
    have p1 := kb.c1
    have p2 := kb.c2
    by_cases hkN : k < N
    · have q0 := ka.c0
      have q1 := ka.c1
      have q2 := ka.c2
      have HS : Hid (q ^ k * q = q ^ (k + 1)) := Lib.hid (Rat.pow_succ _ _).symm
      go_wp2_with fail
      refine (rMul_any s8 A15 A16 n15 n16 c15 c16 s1 A1 A2 n1 n2 c1 c2 (q ^ k) q _ f8.rf ra (by omega) (by omega) (by omega) (by omega)).mono ?_
      rintro e w5 ⟨s9, A17, n17, c17, A18, n18, c18, rfl, f9, _, _, b5⟩
      rw [HS.out] at f9
      replace kb := kb.below b5
      replace ka := ka.below b5
      replace ra := ra.below b5
      replace kr := kr.below b5
      replace hb := bthen hb b5
      have t0 := kb.c0
      have t1 := kb.c1
      have t2 := kb.c2
      have v0 := kb.fz 0
      have v1 := kb.fz 1
      have v2 := kb.fz 2
      have F1 := kb.self (.bool s9) (.slice A17 n17 c17) (.slice A18 n18 c18)
      have F2 := f9.put3 kb (.bool s9) (.slice A17 n17 c17) (.slice A18 n18 c18)
      have F3 := ka.put (g' := w2.heap.size) (by omega) (.bool s9) (.slice A17 n17 c17) (.slice A18 n18 c18)
      have F4 := ra.put3 kb (.bool s9) (.slice A17 n17 c17) (.slice A18 n18 c18)
      have F5 := kr.put (g' := w2.heap.size) (by omega) (.bool s9) (.slice A17 n17 c17) (.slice A18 n18 c18)
      have F6 := below_put3 hb (show w.heap.size ≤ w2.heap.size by omega) (.bool s9) (.slice A17 n17 c17) (.slice A18 n18 c18)
      unfold put3 at F1 F2 F3 F4 F5 F6
      clear p0 p1 p2 q0 q1 q2 f8 f9
      go_wp2_with fail
      go_roundw
      case rel => exact ⟨k + 1, s9, A17, A18, n17, c17, n18, c18, by omega, by go_num, F1, F2, F3, F4, F5, F6⟩
      case measure => simp [intOf]; omega
    · obtain rfl : k = N := by omega
      have t0 := kr.c0
      have t1 := kr.c1
      have t2 := kr.c2
      have v0 := kr.fz 0
      have v1 := kr.fz 1
      have v2 := kr.fz 2
      go_wp2_with fail
      exact bodyPost_ret (v := .agg #[.bool s8, .slice A15 n15 c15, .slice A16 n16 c16]) (by simp [results, Tryd.results24, go_sem, t0, t1, t2]) rfl ⟨s8, A15, n15, c15, A16, n16, c16, rfl, f8.put3 kr _ _ _, below_put3 hb (Nat.le_succ _) _ _ _⟩

set_option maxHeartbeats 4000000 in
theorem rPow_neg (s1 : Bool) (A1 A2 : Option Addr) (n1 n2 c1 c2 : Nat) (q : Rat) (N : Nat) (w : World) (h : Rf w s1 A1 n1 c1 A2 n2 c2 q) (hl1 : n1 ≤ 1000) (hl2 : n2 ≤ 1000) (hq1 : ln q ≤ 10) (hq2 : ld q ≤ 10) (hN : N ≤ 1000) (hz : q ≠ 0) (hN0 : 0 < N) :
    Calls Tryd.prog 24 #[.agg #[.bool s1, .slice A1 n1 c1, .slice A2 n2 c2], .int .i64 (-(N : Int))] w (FrW (q⁻¹ ^ N) w) := by
  have hi := ln_inv (fun e => hz (rn_zero.1 e))
  have HPW : Hid (∀ k, k ≤ N → ln (q⁻¹ ^ k) ≤ 10001 ∧ ld (q⁻¹ ^ k) ≤ 10001) := Lib.hid (fun k hk => pow_len q⁻¹ N k hk hN (by omega) (by omega))
  have LI : Hid (ln q⁻¹ ≤ 1000 ∧ ld q⁻¹ ≤ 1000) := Lib.hid (by omega)
  obtain ⟨u, HU, x1, x2, xb⟩ := boxes2 w (.bool s1) (.slice A1 n1 c1) (.slice A2 n2 c2) (.bool false) (.slice none 0 0) (.slice none 0 0) 24 24
  replace h := h.below xb
  have g0 : (-(N : Int)) < 0 := by omega
  have HP0 : Hid (((1 : Int) : Rat) = q⁻¹ ^ 0) := Lib.hid (by rw [Rat.pow_zero, Rat.intCast_one])
  have HZ := Lib.hid hz
  have p0 := x1.c0
  have p1 := x1.c1
  have p2 := x1.c2
  rw [HU.out] at p0 p1 p2
  clear hq1 hq2 hi hz
  go_enter Tryd.func24, Tryd.ntmps24
  go_wp2_with fail
  rw [← HU.out]
  refine (rInverse_any s1 A1 A2 n1 n2 c1 c2 q _ h (by omega) (by omega) HZ.out).mono ?_
  rintro e w1 ⟨s2, A3, n3, c3, A4, n4, c4, rfl, f2, _, _, b5⟩
  have hn3 : n3 ≤ 1000 := by have := f2.lens; have := LI.out; omega
  have hn4 : n4 ≤ 1000 := by have := f2.lens; have := LI.out; omega
  replace x1 := x1.below b5
  replace x2 := x2.below b5
  replace xb := bthen xb b5
  have t0 := x1.c0
  have t1 := x1.c1
  have t2 := x1.c2
  have v0 := x1.fz 0
  have v1 := x1.fz 1
  have v2 := x1.fz 2
  obtain ⟨V, HV⟩ : ∃ V, Hid (V = put3 w1 w.heap.size (.bool s2) (.slice A3 n3 c3) (.slice A4 n4 c4)) := ⟨_, rfl⟩
  have X1 : Bk V w.heap.size (.bool s2) (.slice A3 n3 c3) (.slice A4 n4 c4) := by rw [HV.out]; exact x1.self _ _ _
  have X2 : Bk V (w.heap.size + 1) (.bool false) (.slice none 0 0) (.slice none 0 0) := by rw [HV.out]; exact x2.put (by omega) _ _ _
  have F2 : Fr V s2 A3 n3 c3 A4 n4 c4 q⁻¹ := by rw [HV.out]; exact f2.put3 x1 _ _ _
  have XB : Below w.heap.size w V := by rw [HV.out]; exact below_put3 xb (Nat.le_refl _) _ _ _
  have HV2 := HV.out
  unfold put3 at HV2
  have HV3 := Lib.hid HV2
  clear HV2 HV f2 h p0 p1 p2
  go_wp2_with fail
  rw [← HV3.out]
  clear t0 t1 t2 v0 v1 v2 x1 x2
  refine (rOf_any 1 _ (by omega) (by omega)).mono ?_
  rintro e w2 ⟨s9, A17, n17, c17, A18, n18, c18, rfl, f9, _, _, b5⟩
  rw [HP0.out] at f9
  obtain ⟨u3, HU3, x3, xb3⟩ := boxes1 w2 (.bool s9) (.slice A17 n17 c17) (.slice A18 n18 c18) 24
  have hlt := Nat.lt_of_lt_of_le X2.lt b5.size
  have z1 := (X1.below b5).below xb3
  have z2 := (X2.below b5).below xb3
  have zh := ((F2.below b5).below xb3).rf
  have zf := f9.below xb3
  have zb := bthen (bthen XB b5) xb3
  go_wp2_with fail
  rw [← HU3.out]
  go_loopw [6] (fun i wr => ∃ (k : Nat) (s : Bool) (A B : Option Addr) (n c m d : Nat), k ≤ N ∧ i = .int .i64 k ∧ Bk wr w2.heap.size (.bool s) (.slice A n c) (.slice B m d) ∧ Fr wr s A n c B m d (q⁻¹ ^ k) ∧
      Bk wr w.heap.size (.bool s2) (.slice A3 n3 c3) (.slice A4 n4 c4) ∧ Rf wr s2 A3 n3 c3 A4 n4 c4 q⁻¹ ∧ Bk wr (w.heap.size + 1) (.bool false) (.slice none 0 0) (.slice none 0 0) ∧ Below w.heap.size w wr)
    (fun i _ => N - (intOf i).toNat)
  case atStart => exact ⟨0, s9, A17, A18, n17, c17, n18, c18, Nat.zero_le _, rfl, x3, zf, z1, zh, z2, zb⟩
  case round =>
    obtain ⟨k, s8, A15, A16, n15, c15, n16, c16, hk, rfl, kb, f8, ka, ra, kr, hb⟩ := hrel
    have l8 := f8.lens
    have HPk := (HPW.out k hk)
    have hn15 : n15 ≤ 100000 := by omega
    have hn16 : n16 ≤ 100000 := by omega
    clear l8 HPk
    have p0 := kb.c0
    have p1 := kb.c1
    have p2 := kb.c2
    by_cases hkN : k < N
    · have q0 := ka.c0
      have q1 := ka.c1
      have q2 := ka.c2
      have HS : Hid (q⁻¹ ^ k * q⁻¹ = q⁻¹ ^ (k + 1)) := Lib.hid (Rat.pow_succ _ _).symm
      go_wp2_with fail
      refine (rMul_any s8 A15 A16 n15 n16 c15 c16 s2 A3 A4 n3 n4 c3 c4 (q⁻¹ ^ k) q⁻¹ _ f8.rf ra (by omega) (by omega) (by omega) (by omega)).mono ?_
      rintro e w5 ⟨s9, A17, n17, c17, A18, n18, c18, rfl, f9, _, _, b5⟩
      rw [HS.out] at f9
      replace kb := kb.below b5
      replace ka := ka.below b5
      replace ra := ra.below b5
      replace kr := kr.below b5
      replace hb := bthen hb b5
      have t0 := kb.c0
      have t1 := kb.c1
      have t2 := kb.c2
      have v0 := kb.fz 0
      have v1 := kb.fz 1
      have v2 := kb.fz 2
      have F1 := kb.self (.bool s9) (.slice A17 n17 c17) (.slice A18 n18 c18)
      have F2 := f9.put3 kb (.bool s9) (.slice A17 n17 c17) (.slice A18 n18 c18)
      have F3 := ka.put (g' := w2.heap.size) (by omega) (.bool s9) (.slice A17 n17 c17) (.slice A18 n18 c18)
      have F4 := ra.put3 kb (.bool s9) (.slice A17 n17 c17) (.slice A18 n18 c18)
      have F5 := kr.put (g' := w2.heap.size) (by omega) (.bool s9) (.slice A17 n17 c17) (.slice A18 n18 c18)
      have F6 := below_put3 hb (show w.heap.size ≤ w2.heap.size by omega) (.bool s9) (.slice A17 n17 c17) (.slice A18 n18 c18)
      unfold put3 at F1 F2 F3 F4 F5 F6
      clear p0 p1 p2 q0 q1 q2 f8 f9
      go_wp2_with fail
      go_roundw
      case rel => exact ⟨k + 1, s9, A17, A18, n17, c17, n18, c18, by omega, by go_num, F1, F2, F3, F4, F5, F6⟩
      case measure => simp [intOf]; omega
    · obtain rfl : k = N := by omega
      have t0 := kr.c0
      have t1 := kr.c1
      have t2 := kr.c2
      have v0 := kr.fz 0
      have v1 := kr.fz 1
      have v2 := kr.fz 2
      go_wp2_with fail
      exact bodyPost_ret (v := .agg #[.bool s8, .slice A15 n15 c15, .slice A16 n16 c16]) (by simp [results, Tryd.results24, go_sem, t0, t1, t2]) rfl ⟨s8, A15, n15, c15, A16, n16, c16, rfl, f8.put3 kr _ _ _, below_put3 hb (Nat.le_succ _) _ _ _⟩
end Go.Proofs.YtaahbabdbopphaaDoor
