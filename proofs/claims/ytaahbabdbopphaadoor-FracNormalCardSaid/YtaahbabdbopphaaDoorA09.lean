/- FracNormal: the walk. -/
import Derived.Test.YtaahbabdbopphaaDoorL1
import Derived.Test.YtaahbabdbopphaaDoorNO
namespace Go.Proofs.YtaahbabdbopphaaDoor
open Go.RowKit Mx
set_option maxRecDepth 100000

theorem sum_map (qs : List Rat) (x : Rat) : ∀ a : Rat, (qs.map (· * x)).foldl (· + ·) (a * x) = qs.foldl (· + ·) a * x := by
  induction qs with
  | nil => intro a; rfl
  | cons q qs ih =>
    intro a
    rw [List.map_cons, List.foldl_cons, List.foldl_cons, ← ih (a + q)]
    congr 1
    grind
theorem sum_nonneg (qs : List Rat) : ∀ a : Rat, 0 ≤ a → (∀ q ∈ qs, 0 ≤ q) → 0 ≤ qs.foldl (· + ·) a := by
  induction qs with
  | nil => intro a ha _; exact ha
  | cons q qs ih =>
    intro a ha h
    rw [List.foldl_cons]
    exact ih _ (by have := h q (by simp); grind) (fun p hp => h p (by simp [hp]))
theorem nng_mem {qs : List Rat} (h : nng qs qs.length) : ∀ q ∈ qs, 0 ≤ q := by
  intro q hq
  obtain ⟨i, hi, rfl⟩ := List.mem_iff_getElem.1 hq
  have h1 := h i hi
  rw [List.getD_eq_getElem?_getD, List.getElem?_eq_getElem hi, Option.getD_some] at h1
  rcases sgn_cases qs[i] with ⟨a, e⟩ | ⟨a, e⟩ | ⟨a, e⟩
  · omega
  · grind
  · grind
theorem sgn_ge {x : Rat} (h : 0 ≤ x) : 0 ≤ sgn x := by
  rcases sgn_cases x with ⟨a, e⟩ | ⟨a, e⟩ | ⟨a, e⟩
  · exfalso; grind
  · omega
  · omega
def NB (b : Bool) (qs : List Rat) (k : Nat) : Prop := b = true ↔ ¬ nng qs k
/-- What is divided by its sum is a distribution. -/
theorem dst_norm {qs : List Rat} (h : nng qs qs.length) (hz : qs.foldl (· + ·) 0 ≠ 0) : dst (qs.map (· * (qs.foldl (· + ·) 0)⁻¹)) = true := by
  have hp := sum_nonneg qs 0 (by grind) (nng_mem h)
  have hs := sum_map qs (qs.foldl (· + ·) 0)⁻¹ 0
  rw [Rat.zero_mul] at hs
  have hm := nng_mem h
  generalize qs.foldl (· + ·) 0 = S at *
  have hS : 0 < S := by grind
  have hi : 0 ≤ S⁻¹ := by
    have h1 : S * S⁻¹ = 1 := Rat.mul_inv_cancel _ hz
    rcases Classical.em (0 ≤ S⁻¹) with h2 | h2
    · exact h2
    · exfalso
      have h3 : S⁻¹ < 0 := by grind
      have h4 := Rat.mul_lt_mul_of_pos_left h3 hS
      rw [h1, Rat.mul_zero] at h4
      grind
  unfold dst
  refine decide_eq_true ⟨fun i hlt => ?_, ?_⟩
  · rw [List.length_map] at hlt
    rw [map_getD _ _ _ hlt]
    refine sgn_ge ?_
    have h1 := hm (qs.getD i 0) (by rw [List.getD_eq_getElem?_getD, List.getElem?_eq_getElem hlt]; exact List.getElem_mem hlt)
    generalize qs.getD i 0 = q at h1
    have := Rat.mul_le_mul_of_nonneg_right h1 hi
    rwa [Rat.zero_mul] at this
  · rw [hs]; exact Rat.mul_inv_cancel _ hz

set_option maxHeartbeats 16000000 in
theorem FracNormal_any (A : Option Addr) (n c : Nat) (L : List (Nat × Nat × Rat)) (w : World) (hL : LL w A L) (hq : L.length = n) (ht : Tab w) :
    Calls Tryd.prog 9 #[.slice A n c] w (ValPost (.bool true) w) := by
  have HQ := Lib.hid hq
  clear hq
  by_cases h8 : 8 < n
  · go_enter Tryd.func9, Tryd.ntmps9
    go_wp2_with fail
    refine (known_any _ ht).mono ?_
    rintro e w9 ⟨rfl, b9⟩
    go_wp2_with fail
    go_ret
    exact ⟨rfl, b9⟩
  have hn8 : n ≤ 8 := by omega
  clear h8
  obtain ⟨qs, hqs⟩ : ∃ qs, Hid (qs = L.map (·.2.2)) := ⟨_, Lib.hid rfl⟩
  have HN : Hid (qs.length = n) := Lib.hid (by rw [hqs.out, List.length_map]; exact HQ.out)
  have HGD : Hid (∀ i, i < n → qs.getD i 0 = (L.getD i (0, 0, 0)).2.2) := Lib.hid (fun i hi => by
    rw [hqs.out, List.getD_eq_getElem?_getD, List.getD_eq_getElem?_getD, List.getElem?_map]
    cases L[i]? <;> rfl)
  go_enter Tryd.func9, Tryd.ntmps9
  go_wp2_with fail
  go_loopw [3, 4] (fun b i wr => ∃ (k : Nat) (nb : Bool), k ≤ n ∧ i = .int .i64 k ∧ b = .bool nb ∧ Hid (NB nb qs k) ∧ Hid (∀ i, i < k → (L.getD i (0, 0, 0)).1 ≤ 3 ∧ (L.getD i (0, 0, 0)).2.1 ≤ 3) ∧ Below w.heap.size w wr) (fun _ i _ => n - (intOf i).toNat)
  case atStart => exact ⟨0, false, Nat.zero_le _, rfl, rfl, Lib.hid ⟨fun h => (nomatch h), fun h => absurd (fun i hi => absurd hi (Nat.not_lt_zero _)) h⟩, Lib.hid (fun i hi => absurd hi (by omega)), Below.refl _ _⟩
  case round =>
    obtain ⟨k, nb, hk, rfl, rfl, HB, HV, xb⟩ := hrel
    by_cases hkn : k < n
    · obtain ⟨ad, sb, A1, d1, A2, d2, rfl, q0, q1, q2, hr⟩ := (hL.below xb) k (by rw [HQ.out]; exact hkn)
      rw [← HGD.out k hkn] at hr
      obtain ⟨x, hx⟩ : ∃ x, x = (L.getD k (0, 0, 0)).1 := ⟨_, rfl⟩
      obtain ⟨y, hy⟩ : ∃ y, y = (L.getD k (0, 0, 0)).2.1 := ⟨_, rfl⟩
      rw [← hx] at q1 hr
      rw [← hy] at q2 hr
      have HX := Lib.hid hx
      have HY := Lib.hid hy
      have htx := ht.on xb
      obtain ⟨r, hre⟩ : ∃ r, r = sgn (qs.getD k 0) := ⟨_, rfl⟩
      have HR := Lib.hid hre
      clear hx hy hL
      by_cases h1 : x ≤ 3
      · by_cases h2 : y ≤ 3
        · have HV2 : Hid (∀ i, i < k + 1 → (L.getD i (0, 0, 0)).1 ≤ 3 ∧ (L.getD i (0, 0, 0)).2.1 ≤ 3) := Lib.hid (fun i hi => by
            by_cases e : i = k
            · subst e; rw [← HX.out, ← HY.out]; exact ⟨h1, h2⟩
            · exact HV.out i (by omega))
          have HC := Lib.hid (rSign_any sb A1 A2 x y d1 d2 _ _ hr (by omega) (by omega))
          rw [← hre] at HC
          clear hre hr htx
          cases nb with
          | true =>
            have HB2 : Hid (NB true qs (k + 1)) := Lib.hid ⟨fun _ h => HB.out.1 rfl (fun i hi => h i (by omega)), fun _ => rfl⟩
            clear HC
            go_wp2_with fail
            go_roundw
            case rel => exact ⟨k + 1, true, by omega, by go_num, rfl, HB2, HV2, xb⟩
            case measure => simp [intOf]; omega
          | false =>
            have h3 : nng qs k := Classical.byContradiction (fun h => by have := HB.out.2 h; cases this)
            have H3 := Lib.hid h3
            clear h3
            by_cases hneg : r < 0
            · have HB2 : Hid (NB true qs (k + 1)) := Lib.hid ⟨fun _ h => by have := h k (by omega); rw [← HR.out] at this; omega, fun _ => rfl⟩
              go_wp2_with fail
              refine HC.out.mono ?_
              rintro e w3 ⟨rfl, b3⟩
              have xb2 := bthen xb b3
              go_wp2_with fail
              go_roundw
              case rel => exact ⟨k + 1, true, by omega, by go_num, rfl, HB2, HV2, xb2⟩
              case measure => simp [intOf]; omega
            · have HB2 : Hid (NB false qs (k + 1)) := Lib.hid ⟨fun h => (nomatch h), fun h => absurd (fun i hi => by
                by_cases e : i = k
                · subst e; rw [← HR.out]; omega
                · exact H3.out i (by omega)) h⟩
              have hneg' : decide (r < 0) = false := decide_eq_false hneg
              go_wp2_with fail
              refine HC.out.mono ?_
              rintro e w3 ⟨rfl, b3⟩
              have xb2 := bthen xb b3
              go_wp2_with fail
              go_roundw
              case rel => exact ⟨k + 1, false, by omega, by go_num, rfl, HB2, HV2, xb2⟩
              case measure => simp [intOf]; omega
        · clear hre hr
          go_wp2_with fail
          refine (known_any _ htx).mono ?_
          rintro e w9 ⟨rfl, b9⟩
          go_wp2_with fail
          go_ret
          exact ⟨rfl, bthen xb b9⟩
      · clear hre hr
        go_wp2_with fail
        refine (known_any _ htx).mono ?_
        rintro e w9 ⟨rfl, b9⟩
        go_wp2_with fail
        go_ret
        exact ⟨rfl, bthen xb b9⟩
    · obtain rfl : k = n := by omega
      have F3 : FL w A 3 qs := by rw [hqs.out]; exact hL.fl (fun i hi => HV.out i (by rw [← HQ.out]; exact hi))
      clear hL HV HGD hqs HQ hkn
      have hn10 : k ≤ 10 := by omega
      obtain ⟨S, hS⟩ : ∃ S, Hid (S = qs.foldl (· + ·) 0) := ⟨_, Lib.hid rfl⟩
      have HSL : Hid (ln S ≤ 1330 ∧ ld S ≤ 111) := Lib.hid (by
        have := sum_lens F3 (by rw [HN.out]; omega) qs.length (Nat.le_refl _)
        rw [List.take_length, ← hS.out] at this
        omega)
      have C40 : Hid (∀ w', FL w' A 3 qs → Calls Tryd.prog 40 #[.slice A k c] w' (FrW S w')) := Lib.hid (fun w' h => by rw [hS.out]; exact rSum_any A k c qs w' (h.mono (by omega)) HN.out hn10)
      replace F3 := F3.below xb
      cases nb with
      | true =>
        have h3 : ¬ nng qs k := HB.out.1 rfl
        have C48 := Lib.hid (Normalize_neg A k c qs _ (F3.mono (by omega)) HN.out hn10 h3)
        clear h3
        go_wp2_with fail
        refine C48.out.mono ?_
        rintro e w1 ⟨rfl, b5⟩
        replace F3 := F3.below b5
        replace xb := bthen xb b5
        clear C48
        go_wp2_with fail
        refine (C40.out _ F3).mono ?_
        rintro e w2 ⟨s2, A3, n3, c3, A4, n4, c4, rfl, f2, b5⟩
        replace xb := bthen xb b5
        have xb2 := below_alloc xb (.cells #[.bool s2, .slice A3 n3 c3, .slice A4 n4 c4] 24)
        have htx := ht.on xb2
        go_wp2_with fail
        refine (known_any _ htx).mono ?_
        rintro e w9 ⟨rfl, b9⟩
        go_wp2_with fail
        go_ret
        exact ⟨rfl, bthen xb2 b9⟩
      | false =>
        have h3 : nng qs k := Classical.byContradiction (fun h => by have := HB.out.2 h; cases this)
        by_cases hz : rn S = 0
        · have C48 := Lib.hid (Normalize_zero A k c qs _ (F3.mono (by omega)) HN.out hn10 h3 (by rw [← hS.out]; exact hz))
          have HSZ : Hid (sgn S = 0) := Lib.hid ((sgn_zero_iff S).2 (rn_zero.1 hz))
          clear h3 hz
          go_wp2_with fail
          refine C48.out.mono ?_
          rintro e w1 ⟨rfl, b5⟩
          replace F3 := F3.below b5
          replace xb := bthen xb b5
          clear C48
          go_wp2_with fail
          refine (C40.out _ F3).mono ?_
          rintro e w2 ⟨s2, A3, n3, c3, A4, n4, c4, rfl, f2, b5⟩
          have hn3 : n3 ≤ 2000 := by have := f2.lens; have := HSL.out; omega
          have hn4 : n4 ≤ 2000 := by have := f2.lens; have := HSL.out; omega
          obtain ⟨u, HU, x2, zb⟩ := boxes1 w2 (.bool s2) (.slice A3 n3 c3) (.slice A4 n4 c4) 24
          replace f2 := f2.below zb
          replace xb := bthen (bthen xb b5) zb
          have p0 := x2.c0
          have p1 := x2.c1
          have p2 := x2.c2
          rw [HU.out] at p0 p1 p2
          go_wp2_with fail
          rw [← HU.out]
          refine (sgn_eq (rSign_any s2 A3 A4 n3 n4 c3 c4 S _ f2.rf (by omega) (by omega)) HSZ.out).mono ?_
          rintro e w3 ⟨rfl, b5⟩
          replace xb := bthen xb b5
          have htx := ht.on xb
          clear p0 p1 p2
          go_wp2_with fail
          refine (known_any _ htx).mono ?_
          rintro e w9 ⟨rfl, b9⟩
          go_wp2_with fail
          go_ret
          exact ⟨rfl, bthen xb b9⟩
        · obtain ⟨ps, hps⟩ : ∃ ps, Hid (ps = qs.map (· * S⁻¹)) := ⟨_, Lib.hid rfl⟩
          have C48 := Lib.hid (Normalize_yes A k c qs _ (F3.mono (by omega)) HN.out hn10 h3 (by rw [← hS.out]; exact hz))
          rw [← hS.out, ← hps.out] at C48
          have hS0 : S ≠ 0 := fun e => hz (rn_zero.2 e)
          have HPL : Hid (ps.length = k) := Lib.hid (by rw [hps.out, List.length_map]; exact HN.out)
          have HPG : Hid (∀ i, i < k → ps.getD i 0 = qs.getD i 0 / S) := Lib.hid (fun i hi => by rw [hps.out, map_getD _ _ _ (by rw [HN.out]; exact hi)]; exact (Rat.div_def _ _).symm)
          have HPB : Hid (∀ i, i < ps.length → ln (ps.getD i 0) ≤ 500 ∧ ld (ps.getD i 0) ≤ 500) := Lib.hid (fun i hi => by
            rw [hps.out, map_getD _ _ _ (by rw [HN.out]; have := HPL.out; omega)]
            have a1 := ln_mul (qs.getD i 0) S⁻¹
            have a2 := ln_inv (q := S) hz
            have a3 := F3.lens i (by rw [HN.out]; have := HPL.out; omega)
            have a4 := sum_lens F3 (by rw [HN.out]; omega) qs.length (Nat.le_refl _)
            rw [List.take_length, ← hS.out] at a4
            omega)
          have HD : Hid (dst ps = true) := Lib.hid (by rw [hps.out, hS.out]; exact dst_norm (by rw [HN.out]; exact h3) (by rw [← hS.out]; exact hS0))
          obtain ⟨rs, hrs⟩ : ∃ r, Hid (sgn S = r) := ⟨_, Lib.hid rfl⟩
          have hrs0 : (rs == 0) = false := beq_eq_false_iff_ne.2 (fun e => hS0 ((sgn_zero_iff S).1 (by rw [hrs.out]; exact e)))
          have HS0 := Lib.hid hS0
          clear h3 hz hS0
          go_wp2_with fail
          refine C48.out.mono ?_
          rintro e w1 ⟨B, cB, rfl, hff, b5⟩
          replace F3 := F3.below b5
          replace xb := bthen xb b5
          clear C48
          go_wp2_with fail
          refine (C40.out _ F3).mono ?_
          rintro e w2 ⟨s2, A3, n3, c3, A4, n4, c4, rfl, f2, b5⟩
          have hn3 : n3 ≤ 2000 := by have := f2.lens; have := HSL.out; omega
          have hn4 : n4 ≤ 2000 := by have := f2.lens; have := HSL.out; omega
          obtain ⟨u, HU, x2, zb⟩ := boxes1 w2 (.bool s2) (.slice A3 n3 c3) (.slice A4 n4 c4) 24
          replace f2 := f2.below zb
          replace F3 := (F3.below b5).below zb
          replace hff := (hff.below b5).below zb
          replace xb := bthen (bthen xb b5) zb
          have p0 := x2.c0
          have p1 := x2.c1
          have p2 := x2.c2
          rw [HU.out] at p0 p1 p2
          go_wp2_with fail
          rw [← HU.out]
          refine (sgn_eq (rSign_any s2 A3 A4 n3 n4 c3 c4 S _ f2.rf (by omega) (by omega)) hrs.out).mono ?_
          rintro e w3 ⟨rfl, b5⟩
          replace f2 := f2.below b5
          replace F3 := F3.below b5
          replace hff := hff.below b5
          replace x2 := x2.below b5
          replace xb := bthen xb b5
          clear p0 p1 p2
          have C45 := Lib.hid (Distribution_any B k cB ps w3 (hff.fl HPB.out) HPL.out hn10)
          rw [HD.out] at C45
          go_wp2_with fail
          refine C45.out.mono ?_
          rintro e w4 ⟨rfl, b5⟩
          replace f2 := f2.below b5
          replace F3 := F3.below b5
          replace hff := hff.below b5
          replace x2 := x2.below b5
          replace xb := bthen xb b5
          clear C45
          go_wp2_with fail
          go_loopw [8] (fun i wr => ∃ (j : Nat), j ≤ k ∧ i = .int .i64 j ∧ Below w4.heap.size w4 wr) (fun i _ => k - (intOf i).toNat)
          case atStart => exact ⟨0, Nat.zero_le _, rfl, Below.refl _ _⟩
          case round =>
            obtain ⟨j, hj, rfl, yb⟩ := hrel
            by_cases hjk : j < k
            · obtain ⟨ad, s5, A9, n9, c9, A10, n10, c10, rfl, k0, k1, k2, hr, hn9, hn10'⟩ := (F3.below yb) j (by rw [HN.out]; exact hjk)
              obtain ⟨ad', s6, A11, n11, c11, A12, n12, c12, rfl, m0, m1, m2, mr⟩ := (hff.below yb) j (by rw [HPL.out]; exact hjk)
              have hl6 := mr.lens
              have hb6 := HPB.out j (by rw [HPL.out]; exact hjk)
              rw [HPG.out j hjk] at mr
              have hn11 : n11 ≤ 1000 := by omega
              have hn12 : n12 ≤ 1000 := by omega
              clear hl6 hb6
              obtain ⟨q, hqe⟩ : ∃ q, q = qs.getD j 0 := ⟨_, rfl⟩
              have HLd : Hid (ln (q / S) ≤ 1000000 ∧ ld (q / S) ≤ 1000000) := Lib.hid (by rw [hqe, ← HPG.out j hjk]; have := HPB.out j (by rw [HPL.out]; exact hjk); omega)
              rw [← hqe] at hr mr
              have X2 := x2.below yb
              have y2 := X2.drew
              have gr := hr.drew
              have gm := mr.below (below_drew (Below.refl _ wr))
              have gf := (f2.below yb).below (below_drew (Below.refl _ wr))
              have yd := below_drew yb
              have l0 : wr.drew.cell? (ad.add (j * 3)) = some (.bool s5) := k0
              have l1 : wr.drew.cell? (ad'.add (j * 3)) = some (.bool s6) := m0
              have r0 := X2.c0
              have r1 := X2.c1
              have r2 := X2.c2
              have i1 : (0 : Int) ≤ (j : Int) := by omega
              have i2 : (j : Int) < (k : Int) := by omega
              clear hqe F3 hff
              go_wp2_with fail
              go_region_held3 (fun w' => w'.cell? ⟨w2.heap.size, 0, none⟩ = some (.bool s2) ∧ w'.cell? ⟨w2.heap.size, 1, none⟩ = some (.slice A3 n3 c3) ∧ w'.cell? ⟨w2.heap.size, 2, none⟩ = some (.slice A4 n4 c4) ∧ w'.cell? (ad.add (j * 3)) = some (.bool s5) ∧ w'.cell? ⟨(ad.add (j * 3)).block, (ad.add (j * 3)).off + 1, none⟩ = some (.slice A9 n9 c9) ∧ w'.cell? ⟨(ad.add (j * 3)).block, (ad.add (j * 3)).off + 2, none⟩ = some (.slice A10 n10 c10) ∧ w'.cell? (ad'.add (j * 3)) = some (.bool s6) ∧ w'.cell? ⟨(ad'.add (j * 3)).block, (ad'.add (j * 3)).off + 1, none⟩ = some (.slice A11 n11 c11) ∧ w'.cell? ⟨(ad'.add (j * 3)).block, (ad'.add (j * 3)).off + 2, none⟩ = some (.slice A12 n12 c12))
                (first | (with_reducible exact ⟨r0, r1, r2, k0, k1, k2, m0, m1, m2⟩) | (with_reducible exact KF) | go_keep)
                (first
                  | (go_at_call 49
                     (with_reducible refine (rDiv_any s5 A9 A10 n9 n10 c9 c10 s2 A3 A4 n3 n4 c3 c4 q S _ gr gf.rf (by omega) (by omega) (by omega) (by omega) HS0.out).mono ?_)
                     rintro e w5 ⟨s7, A13, n13, c13, A14, n14, c14, rfl, f7, _, _, b5⟩
                     have hn13 : n13 ≤ 1000000 := by have := f7.lens; have := HLd.out; omega
                     have hn14 : n14 ≤ 1000000 := by have := f7.lens; have := HLd.out; omega
                     have b3 := b5
                     replace y2 := y2.below b5
                     replace gm := gm.below b5
                     replace yd := bthen yd b5
                     have KF := And.intro y2.c0 (And.intro y2.c1 (And.intro y2.c2 (And.intro (cell_below b3 l0) (And.intro (cell_below b3 (show wr.drew.cell? _ = _ from k1)) (And.intro (cell_below b3 (show wr.drew.cell? _ = _ from k2)) (And.intro (cell_below b3 l1) (And.intro (cell_below b3 (show wr.drew.cell? _ = _ from m1)) (cell_below b3 (show wr.drew.cell? _ = _ from m2))))))))))
                  | (go_at_call 22
                     (with_reducible refine (SameFr_any s6 s7 A11 A12 A13 A14 n11 n12 n13 n14 c11 c12 c13 c14 _ _ _ gm f7 (by omega) (by omega) (by omega) (by omega) true (decide_eq_true rfl).symm).mono ?_)
                     rintro e w6 ⟨rfl, b5⟩
                     have b4 := bthen b3 b5
                     replace y2 := y2.below b5
                     replace yd := bthen yd b5
                     have KF := And.intro y2.c0 (And.intro y2.c1 (And.intro y2.c2 (And.intro (cell_below b4 l0) (And.intro (cell_below b4 (show wr.drew.cell? _ = _ from k1)) (And.intro (cell_below b4 (show wr.drew.cell? _ = _ from k2)) (And.intro (cell_below b4 l1) (And.intro (cell_below b4 (show wr.drew.cell? _ = _ from m1)) (cell_below b4 (show wr.drew.cell? _ = _ from m2)))))))))))
              all_goals
                go_wp2_with fail
                go_roundw
                case rel => exact ⟨j + 1, by omega, by go_num, yd⟩
                case measure => simp [intOf]; omega
            · obtain rfl : j = k := by omega
              have xb3 := bthen xb yb
              have htx := ht.on xb3
              go_wp2_with fail
              refine (known_any _ htx).mono ?_
              rintro e w9 ⟨rfl, b9⟩
              go_wp2_with fail
              go_ret
              exact ⟨rfl, bthen xb3 b9⟩
end Go.Proofs.YtaahbabdbopphaaDoor
