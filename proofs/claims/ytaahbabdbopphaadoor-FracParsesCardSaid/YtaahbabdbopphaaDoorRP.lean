/- The specification: Parse. -/
import Derived.Test.YtaahbabdbopphaaDoorRN
namespace Go.Proofs.YtaahbabdbopphaaDoor
open Go.RowKit Mx
set_option maxRecDepth 100000
theorem field24_1 (a b c : Value) (w : World) : Sem.run Tryd.prog (Instr.field 24 (.agg #[a, b, c]) 1) w = .ok b w := by
  simp [Instr.field, go_sem, asAgg]

theorem cut_cons (b : UInt8) (l : List UInt8) : cutAt (b :: l) = if b = 46 ∨ b = 47 then 0 else cutAt l + 1 := by
  unfold cutAt
  rw [List.findIdx_cons]
  by_cases h : b = 46 ∨ b = 47
  · rw [if_pos h]; rcases h with rfl | rfl <;> rfl
  · rw [if_neg h]
    have : (b == 46 || b == 47) = false := by
      rw [Bool.or_eq_false_iff, beq_eq_false_iff_ne, beq_eq_false_iff_ne]
      exact ⟨fun e => h (Or.inl e), fun e => h (Or.inr e)⟩
    rw [this]; rfl
theorem ba_take (s : ByteArray) (k : Nat) : (s.extract 0 k).data.toList = s.data.toList.take k := by
  rw [ByteArray.data_extract, Array.toList_extract, List.extract_eq_take_drop, List.drop_zero, Nat.sub_zero]
theorem cut_drop {l : List UInt8} {m : Nat} (h : m < l.length) : cutAt (l.drop m) = if l[m] = 46 ∨ l[m] = 47 then 0 else cutAt (l.drop (m + 1)) + 1 := by
  rw [List.drop_eq_getElem_cons h, cut_cons]

set_option maxHeartbeats 8000000 in
theorem rParse_pos (R : ByteArray) (w : World) (q : Rat) (err : Int) (hs : R.size ≤ 1000) (hpos : 0 < R.size) (h1 : (R[0]'hpos).toNat ≠ 45) (HP : rp1 false R.data.toList = (q, err)) :
    Calls Tryd.prog 47 #[.string R] w (FrEPost q err w) := by
  have i0 : ((R.size : Nat) : Int) ≤ 10000 := by omega
  have i1 : (0 : Int) < ((R.size : Nat) : Int) := by omega
  have h2 : (((R[0]'hpos).toNat : Int) == 45) = false := beq_eq_false_iff_ne.2 (by omega)
  obtain ⟨u, HU, xx, xb⟩ := boxes1 w (.bool false) (.slice none 0 0) (.slice none 0 0) 24
  have HPX := Lib.hid HP
  clear HP
  go_enter Tryd.func47, Tryd.ntmps47
  go_wp2_with fail
  rw [← HU.out]
  have HP := HPX.out
  clear HPX h2 h1
  have HL : Hid (R.data.toList.length = R.size) := Lib.hid Array.length_toList
  go_loop [5, 6] (fun sc si => ∃ (i : Int) (k c : Nat), k ≤ R.size ∧ Hid (i + 1 = (k : Int)) ∧ si = .int .i64 i ∧ sc = .int .i64 (c : Int) ∧ c ≤ R.size ∧ Hid (c = k + cutAt (R.data.toList.drop k))) (fun _ si => (intOf si + 1).toNat)
  case atStart => exact ⟨(R.size : Int) - 1, R.size, R.size, Nat.le_refl _, Lib.hid (by omega), by go_num, rfl, Nat.le_refl _, Lib.hid (by rw [List.drop_of_length_le (by have := HL.out; omega)]; rfl)⟩
  case round =>
    obtain ⟨i, k, c, hk, hi, rfl, rfl, hcR, HC⟩ := hrel
    cases k with
    | succ m =>
      obtain rfl : i = (m : Int) := by have := hi.out; omega
      have hm : m < R.size := by omega
      have hbt : R.data.toList[m]'(by have := HL.out; omega) = R[m]'hm := by rw [Array.getElem_toList]; rfl
      have HCD : Hid (cutAt (R.data.toList.drop m) = if R[m]'hm = 46 ∨ R[m]'hm = 47 then 0 else cutAt (R.data.toList.drop (m + 1)) + 1) := Lib.hid (by rw [cut_drop (by have := HL.out; omega), hbt])
      obtain ⟨b, hb⟩ : ∃ b : Nat, Hid (b = (R[m]'hm).toNat) := ⟨_, rfl⟩
      have HB : Hid ((R[m]'hm = 46 ∨ R[m]'hm = 47) ↔ (b = 46 ∨ b = 47)) := Lib.hid (by
        rw [hb.out]
        constructor
        · rintro (h | h) <;> rw [h]
          · exact Or.inl rfl
          · exact Or.inr rfl
        · rintro (h | h)
          · exact Or.inl (UInt8.toNat_inj.1 (by rw [h]; rfl))
          · exact Or.inr (UInt8.toNat_inj.1 (by rw [h]; rfl)))
      have hb8 := fun k : Int => (Iff.rfl : (((R[m]'hm).toNat : Int) = k) ↔ _)
      clear hi hb8
      by_cases e46 : b = 46
      · have hA : (((R[m]'hm).toNat : Int) == 46) = true := beq_iff_eq.2 (by rw [← hb.out]; omega)
        have HN : Hid (m = m + cutAt (R.data.toList.drop m)) := Lib.hid (by rw [HCD.out, if_pos (HB.out.2 (Or.inl e46))]; rfl)
        clear e46 hbt HCD HB
        go_wp2_with fail
        go_round
        case rel => exact ⟨(m : Int) - 1, m, m, by omega, Lib.hid (by omega), by go_num, rfl, by omega, HN⟩
        case measure => simp [intOf]
      · have hA : (((R[m]'hm).toNat : Int) == 46) = false := beq_eq_false_iff_ne.2 (by rw [← hb.out]; omega)
        by_cases e47 : b = 47
        · have hA2 : (((R[m]'hm).toNat : Int) == 47) = true := beq_iff_eq.2 (by rw [← hb.out]; omega)
          have HN : Hid (m = m + cutAt (R.data.toList.drop m)) := Lib.hid (by rw [HCD.out, if_pos (HB.out.2 (Or.inr e47))]; rfl)
          clear e46 e47 hbt HCD HB
          go_wp2_with fail
          go_round
          case rel => exact ⟨(m : Int) - 1, m, m, by omega, Lib.hid (by omega), by go_num, rfl, by omega, HN⟩
          case measure => simp [intOf]
        · have hA2 : (((R[m]'hm).toNat : Int) == 47) = false := beq_eq_false_iff_ne.2 (by rw [← hb.out]; omega)
          have HN : Hid (c = m + cutAt (R.data.toList.drop m)) := Lib.hid (by rw [HCD.out, if_neg (fun h => by rcases HB.out.1 h with h | h <;> omega), HC.out]; omega)
          clear e46 e47 hbt HCD HB HC
          go_wp2_with fail
          go_round
          case rel => exact ⟨(m : Int) - 1, m, c, by omega, Lib.hid (by omega), by go_num, rfl, by omega, HN⟩
          case measure => simp [intOf]
    | zero =>
      obtain rfl : i = -1 := by have := hi.out; omega
      have hc : Hid (c = cutAt R.data.toList) := Lib.hid (by rw [HC.out, Nat.zero_add, List.drop_zero])
      clear HC hi
      obtain ⟨P, hP⟩ : ∃ P : ByteArray, P = R.extract 0 c := ⟨_, rfl⟩
      have HPL : Hid (P.data.toList = R.data.toList.take c) := Lib.hid (by rw [hP]; exact ba_take R c)
      have hPS : P.size ≤ c := by rw [← ba_len, HPL.out, List.length_take]; omega
      have HPE := Lib.hid hP
      clear hP
      unfold rp1 at HP
      rw [← hc.out, ← HPL.out, HL.out] at HP
      have HPH := Lib.hid HP
      clear HP
      go_wp2_with fail
      rw [← HPE.out]
      refine (number_any P _ (by omega)).mono ?_
      rintro e w1 ⟨A1, n1, c1, ok1, rfl, hok1, g1, hn1, b1⟩
      rw [ba_len] at hn1
      have hn1' : n1 ≤ 10000 := by omega
      have y1 := xx.below b1
      have z1 := bthen xb b1
      have HP := HPH.out
      clear HPH hn1
      by_cases hN : Nmb P.data.toList
      · obtain rfl : ok1 = true := by rw [hok1.out]; exact decide_eq_true hN
        replace g1 := g1 rfl
        obtain ⟨a, ha⟩ : ∃ a, Hid (a = dv P.data.toList) := ⟨_, rfl⟩
        rw [if_neg (not_not_intro hN), ← ha.out] at HP
        rw [← ha.out] at g1
        clear hok1 hN
        by_cases hcs : c = R.size
        · rw [if_pos hcs] at HP
          obtain ⟨rfl, rfl⟩ : _ = q ∧ (0 : Int) = err := Prod.mk.inj HP
          clear HP
          have hcs1 : ((c : Int) == (R.size : Int)) = true := beq_iff_eq.2 (by omega)
          have hv : Hid (fv false (val (dig a)) (val []) = mkRat (sg false a) 1) := Lib.hid (by rw [val_dig, fv_low]; rfl)
          have M := Lib.hid (make1_any false A1 none n1 0 c1 0 _ [] w1 g1 ⟨rfl, Nat.le_refl _, Rd.nil_ _ _⟩ (ds_dig _) (fun x hx => nomatch hx) (by omega) (by omega))
          rw [hv.out] at M
          clear hcs
          go_wp2_with fail
          refine M.out.mono ?_
          rintro e wg ⟨s13, A13, n13, c13, A14, n14, c14, rfl, g13, o13, o14, b7⟩
          have z2 := y1.below b7
          have G := Lib.hid ((g13.ret o13 o14 (Nat.le_refl _) y1.lt (bthen z1 b7)).withErr 0)
          have t0 := z2.c0
          have t1 := z2.c1
          have t2 := z2.c2
          have v0 := z2.fz 0
          have v1 := z2.fz 1
          have v2 := z2.fz 2
          go_wp2_with fail
          exact bodyPost_ret (v := .tuple #[.agg #[.bool s13, .slice A13 n13 c13, .slice A14 n14 c14], .int .i64 0]) (by simp [results, Tryd.results47, go_sem, t0, t1, t2]) rfl G.out
        · rw [if_neg hcs] at HP
          have hcs1 : ((c : Int) == (R.size : Int)) = false := beq_eq_false_iff_ne.2 (by omega)
          have hlt : c < R.size := by omega
          rw [ba_getD R c hlt] at HP
          obtain ⟨T, hT⟩ : ∃ T, T = R.extract (c + 1) R.size := ⟨_, rfl⟩
          have HT := Lib.hid hT
          have HTL : Hid (T.data.toList = R.data.toList.drop (c + 1)) := Lib.hid (by rw [hT]; exact ba_drop R _)
          have HTS : T.size ≤ 1000 := by rw [← ba_len, HTL.out, List.length_drop, ba_len]; omega
          have HTZ : Hid (T.size + c + 1 = R.size) := Lib.hid (by rw [← ba_len, HTL.out, List.length_drop, ba_len]; omega)
          rw [← HTL.out, ba_len] at HP
          have HPH := Lib.hid HP
          have isum : IntKind.i64.wrap ((c : Int) + 1) = (c : Int) + 1 := IntWalk.i64_in _ (by omega)
          have j1 : (0 : Int) ≤ (c : Int) := by omega
          have j2 : (c : Int) < (R.size : Int) := by omega
          have j3 : (0 : Int) ≤ (c : Int) + 1 := by omega
          have j4 : (c : Int) + 1 ≤ (R.size : Int) := by omega
          clear HP hT hcs
          go_wp2_with fail
          rw [← HT.out]
          refine (number_any T _ (by omega)).mono ?_
          rintro e w2 ⟨A2, n2, c2, ok2, rfl, hok2, g2, hn2, b2⟩
          rw [ba_len] at hn2
          have hn2' : n2 ≤ 10000 := by omega
          have y2 := y1.below b2
          have z2 := bthen z1 b2
          have f1 := g1.below b2
          have HP := HPH.out
          clear HPH hn2
          by_cases hN2 : Nmb T.data.toList
          · obtain rfl : ok2 = true := by rw [hok2.out]; exact decide_eq_true hN2
            replace g2 := g2 rfl
            obtain ⟨b, hb⟩ : ∃ b, Hid (b = dv T.data.toList) := ⟨_, rfl⟩
            rw [if_neg (not_not_intro hN2), ← hb.out] at HP
            rw [← hb.out] at g2
            clear hok2 hN2
            by_cases h47 : R[c]'hlt = 47
            · rw [if_pos h47] at HP
              have hA : (((R[c]'hlt).toNat : Int) == 47) = true := beq_iff_eq.2 (by rw [h47]; rfl)
              clear h47
              by_cases hb0 : b = 0
              · rw [if_pos hb0] at HP
                obtain ⟨rfl, rfl⟩ : 0 = q ∧ (3 : Int) = err := Prod.mk.inj HP
                have hn0 : n2 = 0 := by rw [← g2.len]; exact len_dig_zero.2 hb0
                subst hn0
                clear HP hb0
                have t0 := y2.c0
                have t1 := y2.c1
                have t2 := y2.c2
                have v0 := y2.fz 0
                have v1 := y2.fz 1
                have v2 := y2.fz 2
                have G := Lib.hid (FrEPost.zero 3 (below_put3 z2 (Nat.le_refl _) (.bool false) (.slice none 0 0) (.slice none 0 0)))
                go_wp2_with fail
                exact bodyPost_ret (v := .tuple #[.agg #[.bool false, .slice none 0 0, .slice none 0 0], .int .i64 3]) (by simp [results, Tryd.results47, go_sem, t0, t1, t2]) rfl G.out
              · rw [if_neg hb0] at HP
                obtain ⟨rfl, rfl⟩ : _ = q ∧ (0 : Int) = err := Prod.mk.inj HP
                have hn0 : 0 < n2 := by rw [← g2.len]; exact len_dig_pos.2 hb0
                have hn0' : ((n2 : Int) == 0) = false := beq_eq_false_iff_ne.2 (by omega)
                have hv : Hid (fv false (val (dig a)) (val (dig b)) = mkRat (sg false a) b) := Lib.hid (by rw [val_dig, val_dig, fv_low]; unfold low; rw [if_neg hb0])
                have M := Lib.hid (make1_any false A1 A2 n1 n2 c1 c2 _ _ w2 f1 g2 (ds_dig _) (ds_dig _) (by omega) (by omega))
                rw [hv.out] at M
                clear HP hb0
                go_wp2_with fail
                refine M.out.mono ?_
                rintro e wg ⟨s13, A13, n13, c13, A14, n14, c14, rfl, g13, o13, o14, b7⟩
                have z3 := y2.below b7
                have G := Lib.hid ((g13.ret o13 o14 (Nat.le_refl _) y2.lt (bthen z2 b7)).withErr 0)
                have t0 := z3.c0
                have t1 := z3.c1
                have t2 := z3.c2
                have v0 := z3.fz 0
                have v1 := z3.fz 1
                have v2 := z3.fz 2
                go_wp2_with fail
                exact bodyPost_ret (v := .tuple #[.agg #[.bool s13, .slice A13 n13 c13, .slice A14 n14 c14], .int .i64 0]) (by simp [results, Tryd.results47, go_sem, t0, t1, t2]) rfl G.out
            · rw [if_neg h47] at HP
              obtain ⟨rfl, rfl⟩ : _ = q ∧ (0 : Int) = err := Prod.mk.inj HP
              have hA : (((R[c]'hlt).toNat : Int) == 47) = false := beq_eq_false_iff_ne.2 (fun h => h47 (UInt8.toNat_inj.1 (show (R[c]'hlt).toNat = 47 from by omega)))
              have isub : (R.size : Int) - (c : Int) - 1 = (T.size : Int) := by have := HTZ.out; omega
              have HIS := Lib.hid isub
              clear HP h47 isub
              have H10 : Hid (ln ((10 : Int) : Rat) ≤ 10 ∧ ld ((10 : Int) : Rat) ≤ 10) := Lib.hid (by have h1 := ln_i64 (z := 10) (by omega) (by omega); have h2 := (ln_int 10).2; omega)
              have HTP : Hid (rn (((10 : Int) : Rat) ^ T.size) = 10 ^ T.size) := Lib.hid (by rw [← Rat.intCast_pow, (int_parts _).2.1, Int.natAbs_pow]; rfl)
              go_wp2_with fail
              refine (rOf_any 10 _ (by omega) (by omega)).mono ?_
              rintro e w3 ⟨s3, A3, n3, c3, A4, n4, c4, rfl, f3, _, _, b3⟩
              have hl3 := f3.lens
              have y3 := y2.below b3
              have z3 := bthen z2 b3
              have k1 := f1.below b3
              have k2 := g2.below b3
              have PWf := Lib.hid (rPow_nat s3 A3 A4 n3 n4 c3 c4 (((10 : Int) : Rat)) T.size w3 f3.rf (by have := H10.out; omega) (by have := H10.out; omega) H10.out.1 H10.out.2 (by omega))
              clear hl3
              go_wp2_with fail
              rw [HIS.out]
              refine PWf.out.mono ?_
              rintro e w4 ⟨s5, A5, n5, c5, A6, n6, c6, rfl, f5, b4⟩
              have y4 := y3.below b4
              have z4 := bthen z3 b4
              replace k1 := k1.below b4
              replace k2 := k2.below b4
              have k5 := f5.num
              rw [HTP.out] at k5
              obtain ⟨sc, hsc⟩ : ∃ sc, Hid (sc = 10 ^ T.size) := ⟨10 ^ T.size, Lib.hid rfl⟩
              rw [← hsc.out] at k5
              have hn5 : n5 ≤ 10000 := by rw [← k5.len, hsc.out]; have := len_ten_pow T.size; omega
              have hsc0 : Hid (sc ≠ 0) := Lib.hid (by rw [hsc.out]; have : 0 < 10 ^ T.size := Nat.pow_pos (by decide); omega)
              clear f5 PWf
              go_wp2_with fail
              rw [field24_1]
              go_wp2_with fail
              refine (rtimes_any A1 A5 n1 n5 c1 c5 a sc w4 k1 k5 (by omega) (by omega)).mono ?_
              rintro e w5 ⟨A7, n7, c7, rfl, g7, b7⟩
              have hn7 : n7 ≤ 30000 := by rw [← g7.len]; have := len_mul a sc; rw [k1.len, k5.len] at this; omega
              replace k2 := k2.below b7.bel
              replace k5 := k5.below b7.bel
              have y5 := y4.below b7.bel
              have z5 := bthen z4 b7.bel
              go_wp2_with fail
              refine (rplus_any A7 A2 n7 n2 c7 c2 (a * sc) b w5 g7 k2 (by omega) (by omega)).mono ?_
              rintro e w6 ⟨A8, n8, c8, rfl, g8, b8⟩
              have hn8 : n8 ≤ 50000 := by rw [← g8.len]; have := len_add (a * sc) b; rw [g7.len, k2.len] at this; omega
              replace k5 := k5.below b8.bel
              have y6 := y5.below b8.bel
              have z6 := bthen z5 b8.bel
              have hv : Hid (fv false (val (dig (a * sc + b))) (val (dig sc)) = mkRat (sg false (a * 10 ^ T.size + b)) (10 ^ T.size)) := Lib.hid (by rw [val_dig, val_dig, fv_low, low_of hsc0.out, hsc.out])
              have M := Lib.hid (make1_any false A8 A5 n8 n5 c8 c5 _ _ w6 g8 k5 (ds_dig _) (ds_dig _) (by omega) (by omega))
              rw [hv.out] at M
              clear k1 k2 k5 g7 g8
              go_wp2_with fail
              refine M.out.mono ?_
              rintro e wg ⟨s13, A13, n13, c13, A14, n14, c14, rfl, g13, o13, o14, b9⟩
              have z7 := y6.below b9
              have G := Lib.hid ((g13.ret o13 o14 (Nat.le_refl _) y6.lt (bthen z6 b9)).withErr 0)
              have t0 := z7.c0
              have t1 := z7.c1
              have t2 := z7.c2
              have v0 := z7.fz 0
              have v1 := z7.fz 1
              have v2 := z7.fz 2
              go_wp2_with fail
              exact bodyPost_ret (v := .tuple #[.agg #[.bool s13, .slice A13 n13 c13, .slice A14 n14 c14], .int .i64 0]) (by simp [results, Tryd.results47, go_sem, t0, t1, t2]) rfl G.out
          · obtain rfl : ok2 = false := by rw [hok2.out]; exact decide_eq_false hN2
            rw [if_pos hN2] at HP
            obtain ⟨rfl, rfl⟩ : 0 = q ∧ (4 : Int) = err := Prod.mk.inj HP
            clear HP hN2 g2
            have t0 := y2.c0
            have t1 := y2.c1
            have t2 := y2.c2
            have v0 := y2.fz 0
            have v1 := y2.fz 1
            have v2 := y2.fz 2
            have G := Lib.hid (FrEPost.zero 4 (below_put3 z2 (Nat.le_refl _) (.bool false) (.slice none 0 0) (.slice none 0 0)))
            go_wp2_with fail
            exact bodyPost_ret (v := .tuple #[.agg #[.bool false, .slice none 0 0, .slice none 0 0], .int .i64 4]) (by simp [results, Tryd.results47, go_sem, t0, t1, t2]) rfl G.out
      · obtain rfl : ok1 = false := by rw [hok1.out]; exact decide_eq_false hN
        rw [if_pos hN] at HP
        obtain ⟨rfl, rfl⟩ : 0 = q ∧ (4 : Int) = err := Prod.mk.inj HP
        clear HP hN g1
        have t0 := y1.c0
        have t1 := y1.c1
        have t2 := y1.c2
        have v0 := y1.fz 0
        have v1 := y1.fz 1
        have v2 := y1.fz 2
        have G := Lib.hid (FrEPost.zero 4 (below_put3 z1 (Nat.le_refl _) (.bool false) (.slice none 0 0) (.slice none 0 0)))
        go_wp2_with fail
        exact bodyPost_ret (v := .tuple #[.agg #[.bool false, .slice none 0 0, .slice none 0 0], .int .i64 4]) (by simp [results, Tryd.results47, go_sem, t0, t1, t2]) rfl G.out

set_option maxHeartbeats 8000000 in
theorem rParse_neg (s : ByteArray) (w : World) (q : Rat) (err : Int) (hs : s.size ≤ 1000) (hpos : 0 < s.size) (h1 : (s[0]'hpos).toNat = 45) (HP : rp1 true (s.data.toList.drop 1) = (q, err)) :
    Calls Tryd.prog 47 #[.string s] w (FrEPost q err w) := by
  have i0 : ((s.size : Nat) : Int) ≤ 10000 := by omega
  have i1 : (0 : Int) < ((s.size : Nat) : Int) := by omega
  have i2 : (1 : Int) ≤ ((s.size : Nat) : Int) := by omega
  obtain ⟨u, HU, xx, xb⟩ := boxes1 w (.bool false) (.slice none 0 0) (.slice none 0 0) 24
  have HPX := Lib.hid HP
  clear HP
  go_enter Tryd.func47, Tryd.ntmps47
  go_wp2_with fail
  rw [← HU.out]
  have HP := HPX.out
  rw [← ba_drop] at HP
  have hsz : (s.extract 1 s.size).size ≤ 1000 := by rw [← ba_len, ba_drop, List.length_drop, ba_len]; omega
  obtain ⟨R, HR⟩ : ∃ R, R = s.extract 1 s.size := ⟨_, rfl⟩
  have HRS : Hid (s.size - 1 = R.size) := Lib.hid (by rw [HR]; have := ba_len (s.extract 1 s.size); rw [ba_drop, List.length_drop, ba_len] at this; omega)
  rw [← HR] at HP hsz ⊢
  (try rw [HRS.out])
  clear HPX h1 hpos hs i0 i1 i2 HR
  have hs := hsz
  have i0 : ((R.size : Nat) : Int) ≤ 10000 := by omega
  have HL : Hid (R.data.toList.length = R.size) := Lib.hid Array.length_toList
  go_loop [5, 6] (fun sc si => ∃ (i : Int) (k c : Nat), k ≤ R.size ∧ Hid (i + 1 = (k : Int)) ∧ si = .int .i64 i ∧ sc = .int .i64 (c : Int) ∧ c ≤ R.size ∧ Hid (c = k + cutAt (R.data.toList.drop k))) (fun _ si => (intOf si + 1).toNat)
  case atStart => exact ⟨(R.size : Int) - 1, R.size, R.size, Nat.le_refl _, Lib.hid (by omega), by go_num, rfl, Nat.le_refl _, Lib.hid (by rw [List.drop_of_length_le (by have := HL.out; omega)]; rfl)⟩
  case round =>
    obtain ⟨i, k, c, hk, hi, rfl, rfl, hcR, HC⟩ := hrel
    cases k with
    | succ m =>
      obtain rfl : i = (m : Int) := by have := hi.out; omega
      have hm : m < R.size := by omega
      have hbt : R.data.toList[m]'(by have := HL.out; omega) = R[m]'hm := by rw [Array.getElem_toList]; rfl
      have HCD : Hid (cutAt (R.data.toList.drop m) = if R[m]'hm = 46 ∨ R[m]'hm = 47 then 0 else cutAt (R.data.toList.drop (m + 1)) + 1) := Lib.hid (by rw [cut_drop (by have := HL.out; omega), hbt])
      obtain ⟨b, hb⟩ : ∃ b : Nat, Hid (b = (R[m]'hm).toNat) := ⟨_, rfl⟩
      have HB : Hid ((R[m]'hm = 46 ∨ R[m]'hm = 47) ↔ (b = 46 ∨ b = 47)) := Lib.hid (by
        rw [hb.out]
        constructor
        · rintro (h | h) <;> rw [h]
          · exact Or.inl rfl
          · exact Or.inr rfl
        · rintro (h | h)
          · exact Or.inl (UInt8.toNat_inj.1 (by rw [h]; rfl))
          · exact Or.inr (UInt8.toNat_inj.1 (by rw [h]; rfl)))
      have hb8 := fun k : Int => (Iff.rfl : (((R[m]'hm).toNat : Int) = k) ↔ _)
      clear hi hb8
      by_cases e46 : b = 46
      · have hA : (((R[m]'hm).toNat : Int) == 46) = true := beq_iff_eq.2 (by rw [← hb.out]; omega)
        have HN : Hid (m = m + cutAt (R.data.toList.drop m)) := Lib.hid (by rw [HCD.out, if_pos (HB.out.2 (Or.inl e46))]; rfl)
        clear e46 hbt HCD HB
        go_wp2_with fail
        go_round
        case rel => exact ⟨(m : Int) - 1, m, m, by omega, Lib.hid (by omega), by go_num, rfl, by omega, HN⟩
        case measure => simp [intOf]
      · have hA : (((R[m]'hm).toNat : Int) == 46) = false := beq_eq_false_iff_ne.2 (by rw [← hb.out]; omega)
        by_cases e47 : b = 47
        · have hA2 : (((R[m]'hm).toNat : Int) == 47) = true := beq_iff_eq.2 (by rw [← hb.out]; omega)
          have HN : Hid (m = m + cutAt (R.data.toList.drop m)) := Lib.hid (by rw [HCD.out, if_pos (HB.out.2 (Or.inr e47))]; rfl)
          clear e46 e47 hbt HCD HB
          go_wp2_with fail
          go_round
          case rel => exact ⟨(m : Int) - 1, m, m, by omega, Lib.hid (by omega), by go_num, rfl, by omega, HN⟩
          case measure => simp [intOf]
        · have hA2 : (((R[m]'hm).toNat : Int) == 47) = false := beq_eq_false_iff_ne.2 (by rw [← hb.out]; omega)
          have HN : Hid (c = m + cutAt (R.data.toList.drop m)) := Lib.hid (by rw [HCD.out, if_neg (fun h => by rcases HB.out.1 h with h | h <;> omega), HC.out]; omega)
          clear e46 e47 hbt HCD HB HC
          go_wp2_with fail
          go_round
          case rel => exact ⟨(m : Int) - 1, m, c, by omega, Lib.hid (by omega), by go_num, rfl, by omega, HN⟩
          case measure => simp [intOf]
    | zero =>
      obtain rfl : i = -1 := by have := hi.out; omega
      have hc : Hid (c = cutAt R.data.toList) := Lib.hid (by rw [HC.out, Nat.zero_add, List.drop_zero])
      clear HC hi
      obtain ⟨P, hP⟩ : ∃ P : ByteArray, P = R.extract 0 c := ⟨_, rfl⟩
      have HPL : Hid (P.data.toList = R.data.toList.take c) := Lib.hid (by rw [hP]; exact ba_take R c)
      have hPS : P.size ≤ c := by rw [← ba_len, HPL.out, List.length_take]; omega
      have HPE := Lib.hid hP
      clear hP
      unfold rp1 at HP
      rw [← hc.out, ← HPL.out, HL.out] at HP
      have HPH := Lib.hid HP
      clear HP
      go_wp2_with fail
      rw [← HPE.out]
      refine (number_any P _ (by omega)).mono ?_
      rintro e w1 ⟨A1, n1, c1, ok1, rfl, hok1, g1, hn1, b1⟩
      rw [ba_len] at hn1
      have hn1' : n1 ≤ 10000 := by omega
      have y1 := xx.below b1
      have z1 := bthen xb b1
      have HP := HPH.out
      clear HPH hn1
      by_cases hN : Nmb P.data.toList
      · obtain rfl : ok1 = true := by rw [hok1.out]; exact decide_eq_true hN
        replace g1 := g1 rfl
        obtain ⟨a, ha⟩ : ∃ a, Hid (a = dv P.data.toList) := ⟨_, rfl⟩
        rw [if_neg (not_not_intro hN), ← ha.out] at HP
        rw [← ha.out] at g1
        clear hok1 hN
        by_cases hcs : c = R.size
        · rw [if_pos hcs] at HP
          obtain ⟨rfl, rfl⟩ : _ = q ∧ (0 : Int) = err := Prod.mk.inj HP
          clear HP
          have hcs1 : ((c : Int) == (R.size : Int)) = true := beq_iff_eq.2 (by omega)
          have hv : Hid (fv true (val (dig a)) (val []) = mkRat (sg true a) 1) := Lib.hid (by rw [val_dig, fv_low]; rfl)
          have M := Lib.hid (make1_any true A1 none n1 0 c1 0 _ [] w1 g1 ⟨rfl, Nat.le_refl _, Rd.nil_ _ _⟩ (ds_dig _) (fun x hx => nomatch hx) (by omega) (by omega))
          rw [hv.out] at M
          clear hcs
          go_wp2_with fail
          refine M.out.mono ?_
          rintro e wg ⟨s13, A13, n13, c13, A14, n14, c14, rfl, g13, o13, o14, b7⟩
          have z2 := y1.below b7
          have G := Lib.hid ((g13.ret o13 o14 (Nat.le_refl _) y1.lt (bthen z1 b7)).withErr 0)
          have t0 := z2.c0
          have t1 := z2.c1
          have t2 := z2.c2
          have v0 := z2.fz 0
          have v1 := z2.fz 1
          have v2 := z2.fz 2
          go_wp2_with fail
          exact bodyPost_ret (v := .tuple #[.agg #[.bool s13, .slice A13 n13 c13, .slice A14 n14 c14], .int .i64 0]) (by simp [results, Tryd.results47, go_sem, t0, t1, t2]) rfl G.out
        · rw [if_neg hcs] at HP
          have hcs1 : ((c : Int) == (R.size : Int)) = false := beq_eq_false_iff_ne.2 (by omega)
          have hlt : c < R.size := by omega
          rw [ba_getD R c hlt] at HP
          obtain ⟨T, hT⟩ : ∃ T, T = R.extract (c + 1) R.size := ⟨_, rfl⟩
          have HT := Lib.hid hT
          have HTL : Hid (T.data.toList = R.data.toList.drop (c + 1)) := Lib.hid (by rw [hT]; exact ba_drop R _)
          have HTS : T.size ≤ 1000 := by rw [← ba_len, HTL.out, List.length_drop, ba_len]; omega
          have HTZ : Hid (T.size + c + 1 = R.size) := Lib.hid (by rw [← ba_len, HTL.out, List.length_drop, ba_len]; omega)
          rw [← HTL.out, ba_len] at HP
          have HPH := Lib.hid HP
          have isum : IntKind.i64.wrap ((c : Int) + 1) = (c : Int) + 1 := IntWalk.i64_in _ (by omega)
          have j1 : (0 : Int) ≤ (c : Int) := by omega
          have j2 : (c : Int) < (R.size : Int) := by omega
          have j3 : (0 : Int) ≤ (c : Int) + 1 := by omega
          have j4 : (c : Int) + 1 ≤ (R.size : Int) := by omega
          clear HP hT hcs
          go_wp2_with fail
          rw [← HT.out]
          refine (number_any T _ (by omega)).mono ?_
          rintro e w2 ⟨A2, n2, c2, ok2, rfl, hok2, g2, hn2, b2⟩
          rw [ba_len] at hn2
          have hn2' : n2 ≤ 10000 := by omega
          have y2 := y1.below b2
          have z2 := bthen z1 b2
          have f1 := g1.below b2
          have HP := HPH.out
          clear HPH hn2
          by_cases hN2 : Nmb T.data.toList
          · obtain rfl : ok2 = true := by rw [hok2.out]; exact decide_eq_true hN2
            replace g2 := g2 rfl
            obtain ⟨b, hb⟩ : ∃ b, Hid (b = dv T.data.toList) := ⟨_, rfl⟩
            rw [if_neg (not_not_intro hN2), ← hb.out] at HP
            rw [← hb.out] at g2
            clear hok2 hN2
            by_cases h47 : R[c]'hlt = 47
            · rw [if_pos h47] at HP
              have hA : (((R[c]'hlt).toNat : Int) == 47) = true := beq_iff_eq.2 (by rw [h47]; rfl)
              clear h47
              by_cases hb0 : b = 0
              · rw [if_pos hb0] at HP
                obtain ⟨rfl, rfl⟩ : 0 = q ∧ (3 : Int) = err := Prod.mk.inj HP
                have hn0 : n2 = 0 := by rw [← g2.len]; exact len_dig_zero.2 hb0
                subst hn0
                clear HP hb0
                have t0 := y2.c0
                have t1 := y2.c1
                have t2 := y2.c2
                have v0 := y2.fz 0
                have v1 := y2.fz 1
                have v2 := y2.fz 2
                have G := Lib.hid (FrEPost.zero 3 (below_put3 z2 (Nat.le_refl _) (.bool false) (.slice none 0 0) (.slice none 0 0)))
                go_wp2_with fail
                exact bodyPost_ret (v := .tuple #[.agg #[.bool false, .slice none 0 0, .slice none 0 0], .int .i64 3]) (by simp [results, Tryd.results47, go_sem, t0, t1, t2]) rfl G.out
              · rw [if_neg hb0] at HP
                obtain ⟨rfl, rfl⟩ : _ = q ∧ (0 : Int) = err := Prod.mk.inj HP
                have hn0 : 0 < n2 := by rw [← g2.len]; exact len_dig_pos.2 hb0
                have hn0' : ((n2 : Int) == 0) = false := beq_eq_false_iff_ne.2 (by omega)
                have hv : Hid (fv true (val (dig a)) (val (dig b)) = mkRat (sg true a) b) := Lib.hid (by rw [val_dig, val_dig, fv_low]; unfold low; rw [if_neg hb0])
                have M := Lib.hid (make1_any true A1 A2 n1 n2 c1 c2 _ _ w2 f1 g2 (ds_dig _) (ds_dig _) (by omega) (by omega))
                rw [hv.out] at M
                clear HP hb0
                go_wp2_with fail
                refine M.out.mono ?_
                rintro e wg ⟨s13, A13, n13, c13, A14, n14, c14, rfl, g13, o13, o14, b7⟩
                have z3 := y2.below b7
                have G := Lib.hid ((g13.ret o13 o14 (Nat.le_refl _) y2.lt (bthen z2 b7)).withErr 0)
                have t0 := z3.c0
                have t1 := z3.c1
                have t2 := z3.c2
                have v0 := z3.fz 0
                have v1 := z3.fz 1
                have v2 := z3.fz 2
                go_wp2_with fail
                exact bodyPost_ret (v := .tuple #[.agg #[.bool s13, .slice A13 n13 c13, .slice A14 n14 c14], .int .i64 0]) (by simp [results, Tryd.results47, go_sem, t0, t1, t2]) rfl G.out
            · rw [if_neg h47] at HP
              obtain ⟨rfl, rfl⟩ : _ = q ∧ (0 : Int) = err := Prod.mk.inj HP
              have hA : (((R[c]'hlt).toNat : Int) == 47) = false := beq_eq_false_iff_ne.2 (fun h => h47 (UInt8.toNat_inj.1 (show (R[c]'hlt).toNat = 47 from by omega)))
              have isub : (R.size : Int) - (c : Int) - 1 = (T.size : Int) := by have := HTZ.out; omega
              have HIS := Lib.hid isub
              clear HP h47 isub
              have H10 : Hid (ln ((10 : Int) : Rat) ≤ 10 ∧ ld ((10 : Int) : Rat) ≤ 10) := Lib.hid (by have h1 := ln_i64 (z := 10) (by omega) (by omega); have h2 := (ln_int 10).2; omega)
              have HTP : Hid (rn (((10 : Int) : Rat) ^ T.size) = 10 ^ T.size) := Lib.hid (by rw [← Rat.intCast_pow, (int_parts _).2.1, Int.natAbs_pow]; rfl)
              go_wp2_with fail
              refine (rOf_any 10 _ (by omega) (by omega)).mono ?_
              rintro e w3 ⟨s3, A3, n3, c3, A4, n4, c4, rfl, f3, _, _, b3⟩
              have hl3 := f3.lens
              have y3 := y2.below b3
              have z3 := bthen z2 b3
              have k1 := f1.below b3
              have k2 := g2.below b3
              have PWf := Lib.hid (rPow_nat s3 A3 A4 n3 n4 c3 c4 (((10 : Int) : Rat)) T.size w3 f3.rf (by have := H10.out; omega) (by have := H10.out; omega) H10.out.1 H10.out.2 (by omega))
              clear hl3
              go_wp2_with fail
              rw [HIS.out]
              refine PWf.out.mono ?_
              rintro e w4 ⟨s5, A5, n5, c5, A6, n6, c6, rfl, f5, b4⟩
              have y4 := y3.below b4
              have z4 := bthen z3 b4
              replace k1 := k1.below b4
              replace k2 := k2.below b4
              have k5 := f5.num
              rw [HTP.out] at k5
              obtain ⟨sc, hsc⟩ : ∃ sc, Hid (sc = 10 ^ T.size) := ⟨10 ^ T.size, Lib.hid rfl⟩
              rw [← hsc.out] at k5
              have hn5 : n5 ≤ 10000 := by rw [← k5.len, hsc.out]; have := len_ten_pow T.size; omega
              have hsc0 : Hid (sc ≠ 0) := Lib.hid (by rw [hsc.out]; have : 0 < 10 ^ T.size := Nat.pow_pos (by decide); omega)
              clear f5 PWf
              go_wp2_with fail
              rw [field24_1]
              go_wp2_with fail
              refine (rtimes_any A1 A5 n1 n5 c1 c5 a sc w4 k1 k5 (by omega) (by omega)).mono ?_
              rintro e w5 ⟨A7, n7, c7, rfl, g7, b7⟩
              have hn7 : n7 ≤ 30000 := by rw [← g7.len]; have := len_mul a sc; rw [k1.len, k5.len] at this; omega
              replace k2 := k2.below b7.bel
              replace k5 := k5.below b7.bel
              have y5 := y4.below b7.bel
              have z5 := bthen z4 b7.bel
              go_wp2_with fail
              refine (rplus_any A7 A2 n7 n2 c7 c2 (a * sc) b w5 g7 k2 (by omega) (by omega)).mono ?_
              rintro e w6 ⟨A8, n8, c8, rfl, g8, b8⟩
              have hn8 : n8 ≤ 50000 := by rw [← g8.len]; have := len_add (a * sc) b; rw [g7.len, k2.len] at this; omega
              replace k5 := k5.below b8.bel
              have y6 := y5.below b8.bel
              have z6 := bthen z5 b8.bel
              have hv : Hid (fv true (val (dig (a * sc + b))) (val (dig sc)) = mkRat (sg true (a * 10 ^ T.size + b)) (10 ^ T.size)) := Lib.hid (by rw [val_dig, val_dig, fv_low, low_of hsc0.out, hsc.out])
              have M := Lib.hid (make1_any true A8 A5 n8 n5 c8 c5 _ _ w6 g8 k5 (ds_dig _) (ds_dig _) (by omega) (by omega))
              rw [hv.out] at M
              clear k1 k2 k5 g7 g8
              go_wp2_with fail
              refine M.out.mono ?_
              rintro e wg ⟨s13, A13, n13, c13, A14, n14, c14, rfl, g13, o13, o14, b9⟩
              have z7 := y6.below b9
              have G := Lib.hid ((g13.ret o13 o14 (Nat.le_refl _) y6.lt (bthen z6 b9)).withErr 0)
              have t0 := z7.c0
              have t1 := z7.c1
              have t2 := z7.c2
              have v0 := z7.fz 0
              have v1 := z7.fz 1
              have v2 := z7.fz 2
              go_wp2_with fail
              exact bodyPost_ret (v := .tuple #[.agg #[.bool s13, .slice A13 n13 c13, .slice A14 n14 c14], .int .i64 0]) (by simp [results, Tryd.results47, go_sem, t0, t1, t2]) rfl G.out
          · obtain rfl : ok2 = false := by rw [hok2.out]; exact decide_eq_false hN2
            rw [if_pos hN2] at HP
            obtain ⟨rfl, rfl⟩ : 0 = q ∧ (4 : Int) = err := Prod.mk.inj HP
            clear HP hN2 g2
            have t0 := y2.c0
            have t1 := y2.c1
            have t2 := y2.c2
            have v0 := y2.fz 0
            have v1 := y2.fz 1
            have v2 := y2.fz 2
            have G := Lib.hid (FrEPost.zero 4 (below_put3 z2 (Nat.le_refl _) (.bool false) (.slice none 0 0) (.slice none 0 0)))
            go_wp2_with fail
            exact bodyPost_ret (v := .tuple #[.agg #[.bool false, .slice none 0 0, .slice none 0 0], .int .i64 4]) (by simp [results, Tryd.results47, go_sem, t0, t1, t2]) rfl G.out
      · obtain rfl : ok1 = false := by rw [hok1.out]; exact decide_eq_false hN
        rw [if_pos hN] at HP
        obtain ⟨rfl, rfl⟩ : 0 = q ∧ (4 : Int) = err := Prod.mk.inj HP
        clear HP hN g1
        have t0 := y1.c0
        have t1 := y1.c1
        have t2 := y1.c2
        have v0 := y1.fz 0
        have v1 := y1.fz 1
        have v2 := y1.fz 2
        have G := Lib.hid (FrEPost.zero 4 (below_put3 z1 (Nat.le_refl _) (.bool false) (.slice none 0 0) (.slice none 0 0)))
        go_wp2_with fail
        exact bodyPost_ret (v := .tuple #[.agg #[.bool false, .slice none 0 0, .slice none 0 0], .int .i64 4]) (by simp [results, Tryd.results47, go_sem, t0, t1, t2]) rfl G.out

set_option maxHeartbeats 1000000 in
theorem rParse_long (s : ByteArray) (w : World) (hs : 10000 < s.size) (hm : s.size ≤ 9223372036854775807) : Calls Tryd.prog 47 #[.string s] w (FrEPost 0 5 w) := by
  have i0 : (10000 : Int) < ((s.size : Nat) : Int) := by omega
  clear hs hm
  go_enter Tryd.func47, Tryd.ntmps47
  go_wp2_with fail
  exact bodyPost_ret (v := .tuple #[.agg #[.bool false, .slice none 0 0, .slice none 0 0], .int .i64 5]) (by simp [results, Tryd.results47, go_sem]) rfl (FrEPost.zero 5 (below_alloc (Below.refl _ _) _))
set_option maxHeartbeats 4000000 in
theorem rParse_none (w : World) : Calls Tryd.prog 47 #[.string ⟨#[]⟩] w (FrEPost 0 4 w) := by
  obtain ⟨u, HU, xx, xb⟩ := boxes1 w (.bool false) (.slice none 0 0) (.slice none 0 0) 24
  obtain ⟨s, hs⟩ : ∃ s : ByteArray, s = ⟨#[]⟩ := ⟨_, rfl⟩
  have hs0 : s.size = 0 := by rw [hs]; rfl
  have HN := Lib.hid fun W => number_any ByteArray.empty W (by decide)
  have HB : Hid (decide (dpre ByteArray.empty.data.toList = ByteArray.empty.data.toList ∧ ByteArray.empty.data.toList ≠ []) = false) := Lib.hid (by decide)
  rw [← hs]
  clear hs
  go_enter Tryd.func47, Tryd.ntmps47
  go_wp2_with fail
  rw [← HU.out]
  go_loop [5, 6] (fun sc si => si = .int .i64 (-1) ∧ sc = .int .i64 0) (fun _ _ => 0)
  case atStart => exact ⟨by go_num, rfl⟩
  case round =>
    obtain ⟨rfl, rfl⟩ := hrel
    go_wp2_with fail
    refine (HN.out _).mono ?_
    rintro e w1 ⟨A1, n1, c1, ok1, rfl, hok1, g1, hn1, b1⟩
    obtain rfl : ok1 = false := by rw [hok1.out]; exact HB.out
    have y1 := xx.below b1
    have z1 := bthen xb b1
    have t0 := y1.c0
    have t1 := y1.c1
    have t2 := y1.c2
    have v0 := y1.fz 0
    have v1 := y1.fz 1
    have v2 := y1.fz 2
    have G := Lib.hid (FrEPost.zero 4 (below_put3 z1 (Nat.le_refl _) (.bool false) (.slice none 0 0) (.slice none 0 0)))
    clear g1 hn1
    go_wp2_with fail
    exact bodyPost_ret (v := .tuple #[.agg #[.bool false, .slice none 0 0, .slice none 0 0], .int .i64 4]) (by simp [results, Tryd.results47, go_sem, t0, t1, t2]) rfl G.out
theorem rParse_any (s : ByteArray) (w : World) (hc : s.size ≤ 1000 ∨ 10000 < s.size) (hm : s.size ≤ 9223372036854775807) : Calls Tryd.prog 47 #[.string s] w (FrEPost (prs s.data.toList).1 (prs s.data.toList).2 w) := by
  unfold prs
  rw [ba_len]
  by_cases h1 : 10000 < s.size
  · rw [if_pos h1]; exact rParse_long s w h1 hm
  · rw [if_neg h1]
    by_cases h0 : s.size = 0
    · have hn : s.data.toList = [] := List.length_eq_zero_iff.1 ((ba_len s).trans h0)
      have hs : s = ⟨#[]⟩ := by
        cases s with
        | mk a => congr 1; exact Array.toList_inj.1 hn
      rw [hs]
      exact rParse_none w
    · have hp : 0 < s.size := by omega
      obtain ⟨x, l, hl⟩ : ∃ x l, s.data.toList = x :: l := by
        cases hc : s.data.toList with
        | nil => rw [← ba_len, hc] at hp; exact absurd hp (by decide)
        | cons x l => exact ⟨x, l, rfl⟩
      have hx : s[0]'hp = x := by rw [← ba_getD s 0 hp, hl]; rfl
      by_cases h45 : x = 45
      · rw [hl, List.head?_cons, if_pos (by rw [h45]), List.tail_cons]
        exact rParse_neg s w _ _ (by omega) hp (by rw [hx, h45]; rfl) (by rw [rp1_is, hl]; rfl)
      · rw [hl, List.head?_cons, if_neg (by intro e; injection e with e; exact h45 e)]
        exact rParse_pos s w _ _ (by omega) hp (by rw [hx]; intro e; exact h45 (UInt8.toNat_inj.1 e)) (by rw [rp1_is, hl])
theorem prs1_small (nb : Bool) (l : List UInt8) (h : l.length ≤ 200) : ln (prs1 nb l).1 ≤ 1000 ∧ ld (prs1 nb l).1 ≤ 1000 := by
  have z : ln (0 : Rat) ≤ 1000 ∧ ld (0 : Rat) ≤ 1000 := by have := ln_zero; omega
  have d1 := dv_len (dpre l) (dpre_all l)
  have l1 := dpre_len l
  unfold prs1
  generalize hm : l.drop ((dpre l).length + 1) = m
  have l2 : m.length ≤ 200 := by rw [← hm, List.length_drop]; omega
  have d2 := dv_len (dpre m) (dpre_all m)
  have l3 := dpre_len m
  split
  · exact z
  split
  · have a := mk_len nb (dv (dpre l)) 1 (by decide)
    have := len_small (show 1 < 4294967296 by decide)
    show ln (mkRat _ _) ≤ 1000 ∧ ld (mkRat _ _) ≤ 1000
    omega
  split
  · exact z
  split
  · have a := mk_len nb (dv (dpre l) * 10 ^ (dpre m).length + dv (dpre m)) (10 ^ (dpre m).length) (by have : 0 < 10 ^ (dpre m).length := Nat.pow_pos (by decide); omega)
    have a1 := len_add (dv (dpre l) * 10 ^ (dpre m).length) (dv (dpre m))
    have a2 := len_mul (dv (dpre l)) (10 ^ (dpre m).length)
    have a3 := len_ten_pow (dpre m).length
    show ln (mkRat _ _) ≤ 1000 ∧ ld (mkRat _ _) ≤ 1000
    omega
  split
  · exact z
  · rename_i h0
    have a := mk_len nb (dv (dpre l)) (dv (dpre m)) h0
    show ln (mkRat _ _) ≤ 1000 ∧ ld (mkRat _ _) ≤ 1000
    omega
theorem prs_small (l : List UInt8) (h : l.length ≤ 200) : ln (prs l).1 ≤ 100000 ∧ ld (prs l).1 ≤ 100000 := by
  unfold prs
  rw [if_neg (by omega)]
  split
  · have := prs1_small true l.tail (by rw [List.length_tail]; omega)
    omega
  · have := prs1_small false l h
    omega
theorem prs_long (l : List UInt8) (h : 10000 < l.length) : (prs l).1 = 0 := by
  unfold prs
  rw [if_pos h]
end Go.Proofs.YtaahbabdbopphaaDoor
