/- The specification: Decimal. -/
import Derived.Test.YtaahbabdbopphaaDoorDG
import Derived.Test.YtaahbabdbopphaaDoorDC
import Derived.Test.YtaahbabdbopphaaDoorB0
namespace Go.Proofs.YtaahbabdbopphaaDoor
open Go.RowKit Mx
set_option maxRecDepth 100000

theorem Bk.set0 {w : World} {g : Nat} {a b c : Value} (h : Bk w g a b c) (z : Value) : Bk (w.setCell ⟨g, 0, none⟩ z) g z b c := by
  have far : ∀ (W : World) (i k : Nat) (u : Value), i ≠ k → (W.setCell ⟨g, i, none⟩ u).cell? ⟨g, k, none⟩ = W.cell? ⟨g, k, none⟩ := fun W i k u hik =>
    World.cell?_setCell_other W _ _ _ (by intro e; injection e with _ e; omega)
  refine ⟨?_, ?_, ?_, fun k => ?_, ?_⟩
  · exact World.cell?_setCell_same w _ z (by rw [h.c0])
  · rw [far _ _ _ _ (by omega)]; exact h.c1
  · rw [far _ _ _ _ (by omega)]; exact h.c2
  · simp [go_sem]; exact h.fz k
  · simp [World.setCell]; exact h.lt
theorem Bk.far0 {w : World} {g g' : Nat} {a b c : Value} (h : Bk w g a b c) (hne : g ≠ g') (z : Value) : Bk (w.setCell ⟨g', 0, none⟩ z) g a b c := by
  have far : ∀ (i k : Nat) (u : Value), (w.setCell ⟨g', i, none⟩ u).cell? ⟨g, k, none⟩ = w.cell? ⟨g, k, none⟩ := fun i k u =>
    World.cell?_setCell_other w _ _ _ (by intro e; injection e with e; omega)
  refine ⟨?_, ?_, ?_, fun k => ?_, ?_⟩
  · rw [far]; exact h.c0
  · rw [far]; exact h.c1
  · rw [far]; exact h.c2
  · have := h.fz k
    unfold World.frozen? at this ⊢
    rw [Below.heap_setCell w ⟨g', 0, none⟩ z g hne]; exact this
  · simp [World.setCell]; exact h.lt
theorem Fr.set0 {w : World} {sb : Bool} {A1 : Option Addr} {n1 c1 : Nat} {A2 : Option Addr} {n2 c2 : Nat} {q : Rat} (h : Fr w sb A1 n1 c1 A2 n2 c2 q) {g : Nat} {x : Bool} {b c : Value} (k : Bk w g (.bool x) b c) (z : Value) :
    Fr (w.setCell ⟨g, 0, none⟩ z) sb A1 n1 c1 A2 n2 c2 q := ⟨h.neg, h.num.set_ k.c0 (fun _ => by simp) z, h.den.set_ k.c0 (fun _ => by simp) z⟩
theorem Rf.set0 {w : World} {sb : Bool} {A1 : Option Addr} {n1 c1 : Nat} {A2 : Option Addr} {n2 c2 : Nat} {q : Rat} (h : Rf w sb A1 n1 c1 A2 n2 c2 q) {g : Nat} {x : Bool} {b c : Value} (k : Bk w g (.bool x) b c) (z : Value) :
    Rf (w.setCell ⟨g, 0, none⟩ z) sb A1 n1 c1 A2 n2 c2 q := by
  obtain ⟨xs, ys, h1, h2, h3⟩ := h
  exact ⟨xs, ys, h1.set_ k.c0 (fun _ => by simp) z, h2.set_ k.c0 (fun _ => by simp) z, h3⟩
/-- The sign put away. -/
theorem Fr.abs {w : World} {sb : Bool} {A1 : Option Addr} {n1 c1 : Nat} {A2 : Option Addr} {n2 c2 : Nat} {q : Rat} (h : Fr w sb A1 n1 c1 A2 n2 c2 q) : Rf w false A1 n1 c1 A2 n2 c2 (mkRat (sg false (rn q)) (rd q)) :=
  ⟨_, _, h.num, h.den, ds_dig _, ds_dig _, by rw [val_dig, val_dig, fv_low, low_rD]⟩
theorem abs_len (q : Rat) : ln (mkRat (sg false (rn q)) (rd q)) ≤ ln q ∧ ld (mkRat (sg false (rn q)) (rd q)) ≤ ld q := mk_len false (rn q) (rd q) (rd_ne q)
theorem Rf.dsign {w : World} {sb : Bool} {A1 : Option Addr} {n1 c1 : Nat} {A2 : Option Addr} {n2 c2 : Nat} {q : Rat} (h : Rf w sb A1 n1 c1 A2 n2 c2 q) (p : Nat) : (rneg q && decide (0 < rnd q p)) = (sb && decide (0 < rnd q p)) := by
  obtain ⟨xs, ys, -, -, -, -, rfl⟩ := h
  by_cases h0 : val xs = 0
  · have e : fv sb (val xs) (val ys) = 0 := by rw [fv_low, h0, show sg sb 0 = 0 from by cases sb <;> rfl, Rat.zero_mkRat]
    have e2 : rnd 0 p = 0 := by
      unfold rnd
      rw [rn_zero0.1, Nat.zero_mul, Nat.zero_mul, Nat.zero_add]
      exact Nat.div_eq_of_lt (by have := rd_pos (0 : Rat); omega)
    rw [e, e2, show decide (0 < 0) = false from rfl, Bool.and_false, Bool.and_false]
  · rw [(fv_parts_red sb (val xs) (val ys) h0).1]

set_option maxHeartbeats 16000000 in
theorem rDecimal_any (s1 : Bool) (A1 A2 : Option Addr) (n1 n2 c1 c2 : Nat) (q : Rat) (p : Nat) (w : World) (h : Rf w s1 A1 n1 c1 A2 n2 c2 q) (l1 : n1 ≤ 1000) (l2 : n2 ≤ 1000) (hp : p ≤ 1000) :
    Calls Tryd.prog 36 #[.agg #[.bool s1, .slice A1 n1 c1, .slice A2 n2 c2], .int .i64 (p : Int)] w (ValPost (.string (bs (dtx q p))) w) := by
  have hlen := h.len
  obtain ⟨R, hR⟩ : ∃ R, Hid (R = rnd q p) := ⟨_, rfl⟩
  have HSN : Hid ((rneg q && decide (0 < rnd q p)) = (s1 && decide (0 < R))) := Lib.hid (by rw [hR.out]; exact h.dsign p)
  obtain ⟨z, hz⟩ : ∃ z, Hid (z = mkRat (sg false (rn q)) (rd q)) := ⟨_, rfl⟩
  obtain ⟨sc, hsc⟩ : ∃ sc, Hid (sc = ((10 : Int) : Rat) ^ p) := ⟨_, rfl⟩
  obtain ⟨hf, hhf⟩ : ∃ hf, Hid (hf = ((1 : Int) : Rat) / ((2 : Int) : Rat)) := ⟨_, rfl⟩
  have H10 : Hid (ln ((10 : Int) : Rat) ≤ 10 ∧ ld ((10 : Int) : Rat) ≤ 10) := Lib.hid (by have h1 := ln_i64 (z := 10) (by omega) (by omega); have h2 := (ln_int 10).2; omega)
  have HHF : Hid (ln hf ≤ 10 ∧ ld hf ≤ 10) := Lib.hid (by rw [hhf.out]; have : ln (((1 : Int) : Rat) / ((2 : Int) : Rat)) = 1 ∧ ld (((1 : Int) : Rat) / ((2 : Int) : Rat)) = 1 := by { decide +kernel }; omega)
  have Lz : Hid (ln z ≤ 1000 ∧ ld z ≤ 1001) := Lib.hid (by rw [hz.out]; have := abs_len q; omega)
  have Lq : Hid (ln q ≤ 1000 ∧ ld q ≤ 1001) := Lib.hid (by omega)
  have Ls : Hid (ln sc ≤ 10001 ∧ ld sc ≤ 10001) := Lib.hid (by rw [hsc.out]; exact pow_len _ p p (Nat.le_refl _) hp H10.out.1 H10.out.2)
  have Lzs : Hid (ln (z * sc) ≤ 12000 ∧ ld (z * sc) ≤ 12000) := Lib.hid (by have := ln_mul z sc; have := Lz.out; have := Ls.out; omega)
  have Lzh : Hid (ln (z * sc + hf) ≤ 30000 ∧ ld (z * sc + hf) ≤ 30000) := Lib.hid (by have := ln_add (z * sc) hf; have := Lzs.out; have := HHF.out; omega)
  have HF : Hid ((((z * sc + hf).floor : Int) : Rat) = (((R : Nat) : Int) : Rat)) := Lib.hid (by rw [hz.out, hsc.out, hhf.out, hR.out, dec_floor])
  have HR : Hid (rn (((R : Nat) : Int) : Rat) = R) := Lib.hid (int_parts _).2.1
  have hp1 : (p : Int) ≤ 1000 := by omega
  have hp0 : (0 : Int) ≤ (p : Int) := by omega
  obtain ⟨u, HU, x1, xb⟩ := boxes1 w (.bool s1) (.slice A1 n1 c1) (.slice A2 n2 c2) 24
  replace h := h.below xb
  clear hlen
  go_enter Tryd.func36, Tryd.ntmps36
  go_wp2_with fail
  rw [← HU.out]
  refine (rOf_any 10 _ (by omega) (by omega)).mono ?_
  rintro e w2 ⟨s3, A5, n5, c5, A6, n6, c6, rfl, f3, _, _, b5⟩
  have hn5 : n5 ≤ 1000 := by have := f3.lens; have := H10.out; omega
  have hn6 : n6 ≤ 1000 := by have := f3.lens; have := H10.out; omega
  replace x1 := x1.below b5
  replace h := h.below b5
  replace xb := bthen xb b5
  have PWf := Lib.hid (rPow_nat s3 A5 A6 n5 n6 c5 c6 ((10 : Int) : Rat) p w2 f3.rf hn5 hn6 H10.out.1 H10.out.2 hp)
  rw [← hsc.out] at PWf
  go_wp2_with fail
  refine PWf.out.mono ?_
  rintro e w4 ⟨s4, A7, n7, c7, A8, n8, c8, rfl, f4, b5⟩
  clear PWf f3
  have hn7 : n7 ≤ 10001 := by have := f4.lens; have := Ls.out; omega
  have hn8 : n8 ≤ 10001 := by have := f4.lens; have := Ls.out; omega
  obtain ⟨u4, HU4, x4, xb4⟩ := boxes1 w4 (.bool s4) (.slice A7 n7 c7) (.slice A8 n8 c8) 24
  replace x1 := x1.below b5
  replace h := h.below b5
  replace xb := bthen xb b5
  replace x1 := x1.below xb4
  replace h := h.below xb4
  replace f4 := f4.below xb4
  replace xb := bthen xb xb4
  have p0 := x1.c0
  have p1 := x1.c1
  have p2 := x1.c2
  rw [HU4.out] at p0 p1 p2
  go_wp2_with fail
  rw [← HU4.out]
  refine (rCanon_any s1 A1 A2 n1 n2 c1 c2 q _ h (by omega) (by omega)).mono ?_
  rintro e w6 ⟨s5, A9, n9, c9, A10, n10, c10, rfl, f5, _, _, b5⟩
  have hn9 : n9 ≤ 1001 := by have := f5.lens; have := Lq.out; omega
  have hn10 : n10 ≤ 1001 := by have := f5.lens; have := Lq.out; omega
  obtain ⟨V, HV, X6, xb6⟩ := boxes1 w6 (.bool false) (.slice A9 n9 c9) (.slice A10 n10 c10) 24
  clear p0 p1 p2
  replace x1 := x1.below b5
  replace x4 := x4.below b5
  replace f4 := f4.below b5
  replace xb := bthen xb b5
  replace x1 := x1.below xb6
  replace x4 := x4.below xb6
  replace f4 := f4.below xb6
  replace f5 := f5.below xb6
  replace xb := bthen xb xb6
  have F5 : Rf V false A9 n9 c9 A10 n10 c10 z := by rw [hz.out]; exact f5.abs
  have F4 := f4.rf
  have X1 := x1
  have XB := xb
  have r3 := x4.c0
  have r4 := x4.c1
  have r5 := x4.c2
  rw [HV.out] at r3 r4 r5
  clear X6 x4 x1 f4 f5 xb h
  go_wp2_with fail
  rw [← HV.out]
  clear r3 r4 r5
  refine (rMul_any false A9 A10 n9 n10 c9 c10 s4 A7 A8 n7 n8 c7 c8 z sc _ F5 F4 (by omega) (by omega) (by omega) (by omega)).mono ?_
  rintro e w7 ⟨s7, A13, n13, c13, A14, n14, c14, rfl, f7, _, _, b5⟩
  have hn13 : n13 ≤ 12000 := by have := f7.lens; have := Lzs.out; omega
  have hn14 : n14 ≤ 12000 := by have := f7.lens; have := Lzs.out; omega
  replace X1 := X1.below b5
  replace XB := bthen XB b5
  go_wp2_with fail
  refine (rMake_any 1 2 _ (by omega) (by omega) (by omega) (by omega) (by omega)).mono ?_
  rintro e w8 ⟨s8, A15, n15, c15, A16, n16, c16, rfl, f8, _, _, b5⟩
  rw [← hhf.out] at f8
  have hn15 : n15 ≤ 10 := by have := f8.lens; have := HHF.out; omega
  have hn16 : n16 ≤ 10 := by have := f8.lens; have := HHF.out; omega
  replace X1 := X1.below b5
  replace f7 := f7.below b5
  replace XB := bthen XB b5
  go_wp2_with fail
  refine (rAdd_any s7 A13 A14 n13 n14 c13 c14 s8 A15 A16 n15 n16 c15 c16 (z * sc) hf _ f7.rf f8.rf (by omega) (by omega) (by omega) (by omega)).mono ?_
  rintro e w9 ⟨s9, A17, n17, c17, A18, n18, c18, rfl, f9, _, _, b5⟩
  have hn17 : n17 ≤ 30000 := by have := f9.lens; have := Lzh.out; omega
  have hn18 : n18 ≤ 30000 := by have := f9.lens; have := Lzh.out; omega
  replace X1 := X1.below b5
  replace XB := bthen XB b5
  have DN := Lib.hid (rDown_any s9 A17 A18 n17 n18 c17 c18 (z * sc + hf) w9 f9.rf (by omega) (by omega))
  rw [HF.out] at DN
  clear f7 f8 f9
  go_wp2_with fail
  refine DN.out.mono ?_
  rintro e wa ⟨s10, A19, n19, c19, A20, n20, c20, rfl, fa, _, _, b5⟩
  have ga := fa.num
  rw [HR.out] at ga
  obtain ⟨ua, HUa, xa, xba⟩ := boxes1 wa (.bool s10) (.slice A19 n19 c19) (.slice A20 n20 c20) 24
  replace X1 := X1.below b5
  replace XB := bthen XB b5
  replace X1 := X1.below xba
  replace ga := ga.below xba
  replace XB := bthen XB xba
  have hn19 : n19 ≤ 60000 := by
    have e1 : (dig R).length = n19 := ga.len
    have e2 : R < 4294967296 ^ 60000 ∨ ¬ R < 4294967296 ^ 60000 := Decidable.em _
    have e3 := HF.out
    have e4 := fa.lens
    have e5 : ln (((z * sc + hf).floor : Int) : Rat) ≤ 60000 := by have := ln_floor (z * sc + hf); have := Lzh.out; omega
    rw [e3] at e5
    omega
  have p1 := xa.c1
  rw [HUa.out] at p1
  clear DN fa
  go_wp2_with fail
  rw [← HUa.out]
  refine (digits_any A19 n19 c19 R _ ga (by omega)).mono ?_
  rintro e wb ⟨rfl, b5⟩
  have hQ0 : n19 = 0 ↔ R = 0 := by rw [← ga.len]; exact len_dig_zero
  obtain ⟨S0, HS0⟩ : ∃ S, Hid (S = bs (Lib.decDigits R)) := ⟨_, rfl⟩
  have hS0 : S0.size ≤ 10000010 := by rw [HS0.out]; exact txt_size (Nat.le_of_eq ga.len) (by omega)
  rw [← HS0.out]
  replace X1 := X1.below b5
  replace xa := xa.below b5
  replace XB := bthen XB b5
  have q0 := X1.c0
  have r1 := xa.c1
  have HQ0 := Lib.hid hQ0
  clear p1 ga hQ0 hz hhf H10 HHF Lz Lq Ls Lzs Lzh HF HR F5 F4
  go_wp2_with fail
  go_loop [8] (fun s => ∃ (S : ByteArray) (j : Nat), s = .string S ∧ S.size ≤ 10001011 ∧ Hid (S = bs (List.replicate j 48 ++ Lib.decDigits R)) ∧ Hid (j = 0 ∨ j + (Lib.decDigits R).length ≤ p + 1)) (fun s => p + 1 - (match s with | .string T => T.size | _ => 0))
  case atStart => exact ⟨S0, 0, rfl, by omega, Lib.hid (by rw [HS0.out]; rfl), Lib.hid (Or.inl rfl)⟩
  case round =>
    obtain ⟨S, j, rfl, hS, HS, HJ⟩ := hrel
    have hSz : S.size = j + (Lib.decDigits R).length := by rw [HS.out, bs_size, List.length_append, List.length_replicate]
    by_cases hle : S.size ≤ p
    · have HN : Hid ((⟨#[48]⟩ : ByteArray) ++ S = bs (List.replicate (j + 1) 48 ++ Lib.decDigits R)) := Lib.hid (by
        rw [HS.out, show (⟨#[48]⟩ : ByteArray) = bs [48] from rfl, bs_add]; rfl)
      have HJN : Hid (j + 1 = 0 ∨ j + 1 + (Lib.decDigits R).length ≤ p + 1) := Lib.hid (Or.inr (by omega))
      clear hSz
      go_wp2_with fail
      go_round
      case rel => exact ⟨_, j + 1, rfl, by rw [ByteArray.size_append]; show 1 + S.size ≤ 10001011; omega, HN, HJN⟩
      case measure => simp only [ByteArray.size_append]; show p + 1 - (1 + S.size) < p + 1 - S.size; omega
    · have HD : Hid (S = bs (dpad (Lib.decDigits R) p)) := Lib.hid (by
        rw [HS.out]; unfold dpad
        have := dec_pos R
        have e : j = p + 1 - (Lib.decDigits R).length := by rcases HJ.out with h | h <;> omega
        rw [← e])
      have HSS := Lib.hid hSz
      clear hSz HS HJ
      by_cases hp0' : p = 0
      · have HX : Hid (S = bs (dpoint (dpad (Lib.decDigits (rnd q p)) p) p)) := Lib.hid (by rw [HD.out, hR.out]; unfold dpoint; rw [if_pos hp0'])
        have hp2 : ¬ ((0 : Int) < (p : Int)) := by omega
        have hle2 : (p : Int) < (S.size : Int) := by omega
        clear hsc hp0' HD
        rcases (show (s1 = true ∧ 0 < n19) ∨ (s1 = true ∧ n19 = 0) ∨ s1 = false from by cases s1 <;> simp <;> omega) with ⟨rfl, hn0⟩ | ⟨rfl, rfl⟩ | rfl
        · have HZ : Hid (⟨#[45]⟩ ++ S = bs (dtx q p)) := Lib.hid (by
            have hh : (rneg q && decide (0 < rnd q p)) = true := by rw [HSN.out]; rw [decide_eq_true (by have := HQ0.out; omega)]; rfl
            unfold dtx
            rw [hh, if_pos rfl, HX.out, show (⟨#[45]⟩ : ByteArray) = bs [45] from rfl, bs_add])
          go_wp2_with fail
          go_ret
          refine ⟨?_, XB⟩
          rw [← HZ.out]; rfl
        · have HZ : Hid (S = bs (dtx q p)) := Lib.hid (by
            have hh : (rneg q && decide (0 < rnd q p)) = false := by rw [HSN.out]; rw [decide_eq_false (by have := HQ0.out; omega)]; rfl
            unfold dtx
            rw [hh, if_neg (by decide), HX.out, List.nil_append])
          go_wp2_with fail
          go_ret
          refine ⟨?_, XB⟩
          rw [← HZ.out]; rfl
        · have HZ : Hid (S = bs (dtx q p)) := Lib.hid (by
            have hh : (rneg q && decide (0 < rnd q p)) = false := by rw [HSN.out]; rfl
            unfold dtx
            rw [hh, if_neg (by decide), HX.out, List.nil_append])
          go_wp2_with fail
          go_ret
          refine ⟨?_, XB⟩
          rw [← HZ.out]; rfl
      · have a1 : (0 : Int) < (p : Int) := by omega
        have hle2 : (p : Int) < (S.size : Int) := by omega
        obtain ⟨K, hK⟩ : ∃ K, K = S.size - p := ⟨_, rfl⟩
        have isub : IntKind.i64.wrap ((S.size : Int) - (p : Int)) = (K : Int) := by rw [IntWalk.i64_in _ (by omega)]; omega
        have b1 : (0 : Int) ≤ (K : Int) := by omega
        have b2 : (K : Int) ≤ (S.size : Int) := by omega
        obtain ⟨E1, hE1⟩ : ∃ E, S.extract 0 K = E := ⟨_, rfl⟩
        obtain ⟨E2, hE2⟩ : ∃ E, S.extract K S.size = E := ⟨_, rfl⟩
        have he1 : E1.size ≤ 10001011 := by rw [← hE1, ByteArray.size_extract]; omega
        have he2 : E2.size ≤ 10001011 := by rw [← hE2, ByteArray.size_extract]; omega
        have HX : Hid (E1 ++ ⟨#[46]⟩ ++ E2 = bs (dpoint (dpad (Lib.decDigits (rnd q p)) p) p)) := Lib.hid (by
          rw [← hE1, ← hE2]
          unfold dpoint
          rw [if_neg hp0', ← hR.out]
          have hs : S.data.toList = dpad (Lib.decDigits R) p := by rw [HD.out]; simp [bs]
          have hl : (dpad (Lib.decDigits R) p).length = S.size := by rw [← hs]; exact Array.length_toList
          rw [hl, ← hs, ← hK]
          apply ByteArray.ext
          apply Array.ext'
          simp only [bs, ByteArray.data_append, Array.toList_append, ByteArray.data_extract, Array.toList_extract, List.extract_eq_take_drop]
          rw [List.drop_zero, Nat.sub_zero, List.append_assoc]
          congr 1
          rw [List.cons_append, List.nil_append]
          congr 1
          apply List.take_of_length_le
          rw [List.length_drop, hs, hl]; exact Nat.le_refl _)
        have HK := Lib.hid hK
        clear hsc hp0' HD HSS hK
        go_wp2_with fail
        have f1 : (9223372036854775807 ≤ E1.size) = False := eq_false (by omega)
        have f2 : (9223372036854775807 < E1.size + 1) = False := eq_false (by omega)
        have f3 : (9223372036854775807 < E1.size + 1 + E2.size) = False := eq_false (by omega)
        have f4 : (9223372036854775806 < E1.size) = False := eq_false (by omega)
        go_region_held3 (fun w' => w'.cell? ⟨w.heap.size, 0, none⟩ = some (.bool s1) ∧ w'.cell? ⟨wa.heap.size, 1, none⟩ = some (.slice A19 n19 c19)) (first | (with_reducible exact ⟨q0, r1⟩) | (with_reducible exact ⟨X1.drew.c0, xa.drew.c1⟩) | go_keep) (fail)
        have q0 := X1.drew.c0
        have r1 := xa.drew.c1
        have XB := below_drew XB
        rcases (show (s1 = true ∧ 0 < n19) ∨ (s1 = true ∧ n19 = 0) ∨ s1 = false from by cases s1 <;> simp <;> omega) with ⟨rfl, hn0⟩ | ⟨rfl, rfl⟩ | rfl
        · have HZ : Hid (⟨#[45]⟩ ++ (E1 ++ ⟨#[46]⟩ ++ E2) = bs (dtx q p)) := Lib.hid (by
            have hh : (rneg q && decide (0 < rnd q p)) = true := by rw [HSN.out]; rw [decide_eq_true (by have := HQ0.out; omega)]; rfl
            unfold dtx
            rw [hh, if_pos rfl, HX.out, show (⟨#[45]⟩ : ByteArray) = bs [45] from rfl, bs_add])
          go_wp2_with fail
          go_ret
          refine ⟨?_, XB⟩
          rw [← HZ.out]; rfl
        · have HZ : Hid ((E1 ++ ⟨#[46]⟩ ++ E2) = bs (dtx q p)) := Lib.hid (by
            have hh : (rneg q && decide (0 < rnd q p)) = false := by rw [HSN.out]; rw [decide_eq_false (by have := HQ0.out; omega)]; rfl
            unfold dtx
            rw [hh, if_neg (by decide), HX.out, List.nil_append])
          go_wp2_with fail
          go_ret
          refine ⟨?_, XB⟩
          rw [← HZ.out]; rfl
        · have HZ : Hid ((E1 ++ ⟨#[46]⟩ ++ E2) = bs (dtx q p)) := Lib.hid (by
            have hh : (rneg q && decide (0 < rnd q p)) = false := by rw [HSN.out]; rfl
            unfold dtx
            rw [hh, if_neg (by decide), HX.out, List.nil_append])
          go_wp2_with fail
          go_ret
          refine ⟨?_, XB⟩
          rw [← HZ.out]; rfl
end Go.Proofs.YtaahbabdbopphaaDoor
