/- The specification: times, low, Canon, Neg, Of, Sign, Inverse, Mul, Div, Add, Sub, Cmp. -/
import Derived.Test.YtaahbabdbopphaaDoorKA
import Derived.Test.YtaahbabdbopphaaDoorMB
import Derived.IntWalk
import Derived.Deep.RegionHeld3
namespace Go.Proofs.YtaahbabdbopphaaDoor
open Go.RowKit Mx
set_option maxRecDepth 100000

theorem wrap_u64 {z : Int} (h0 : 0 ≤ z) (h1 : z ≤ 18446744073709551615) : IntKind.u64.wrap z = z := by
  have k : IntKind.u64.wrap z = z % 18446744073709551616 := rfl
  rw [k]; omega
theorem Row.drewN {w wr : World} {g L c : Nat} {xs : List Nat} (h : Row w wr g L c xs) (n : Nat) : Row w (wr.drewN n) g L c xs := h.later (below_drewN (Below.refl _ _) n)
set_option maxHeartbeats 2000000 in
theorem rtimes_any (A1 A2 : Option Addr) (n1 n2 c1 c2 a b : Nat) (w : World) (h1 : Sl w A1 n1 c1 (dig a)) (h2 : Sl w A2 n2 c2 (dig b)) (hl1 : n1 ≤ 100000000) (hl2 : n2 ≤ 100000000) :
    Calls Tryd.prog 93 #[.slice A1 n1 c1, .slice A2 n2 c2] w (NatPost (a * b) w) := by
  obtain ⟨i0, hi0, hz0, hz1, hz2⟩ := info_parts Tryd.info57
  go_enter Tryd.func93, Tryd.ntmps93
  go_wp2_with ((with_reducible refine wpList_make_full _ rfl _ _ 22 rfl w.heap.size 57 i0 (.int .u32 0) 1 Tryd.underlying22 hi0 hz0 hz1 .i64 .i64 _ _ (n1 + n2) rfl rfl (by omega) (by omega) (by rw [hz2]; omega) (by simp only [maxLen]; omega) (Nat.le_refl _) ?_); intro w1 hown hgrow)
  have hrow := Row.made (Below.refl _ w) hown hgrow
  clear hown hgrow
  go_loopw [6, 7, 8] (fun i c jx wr => ∃ (k : Nat) (out : List Nat), k ≤ n1 ∧ i = .int .i64 k ∧ Row w wr w.heap.size (n1 + n2) (n1 + n2) out ∧
      Hid (val out = val ((dig a).take k) * b) ∧ Hid (∀ j, k + n2 ≤ j → out.getD j 0 = 0))
    (fun i _ _ _ => n1 - (intOf i).toNat)
  case atStart => exact ⟨0, List.replicate (n1 + n2) 0, Nat.zero_le _, rfl, hrow, by simp [Hid, val, val_replicate], fun j _ => getD_replicate _ _⟩
  case round =>
    clear hrow
    obtain ⟨k, out0, hk, rfl, hR, HV, HZ⟩ := hrel
    by_cases hkM : k < n1
    · obtain ⟨x, hx⟩ : ∃ x : Nat, x = (dig a).getD k 0 := ⟨_, rfl⟩
      have hx32 : x < 4294967296 := by rw [hx]; exact ds_get (ds_dig a) k
      have HX := Lib.hid hx
      clear hx
      go_wp2_with fail
      obtain ⟨wo, hwo⟩ : ∃ wo : World, wo = wr := ⟨_, rfl⟩
      subst hwo
      go_loopw [7, 8] (fun c jj wi => ∃ (j C : Nat) (out : List Nat), j ≤ n2 ∧ jj = .int .i64 j ∧ c = .int .u64 C ∧ C < 4294967296 ∧ Row w wi w.heap.size (n1 + n2) (n1 + n2) out ∧
          Hid (val out + 4294967296 ^ (k + j) * C = val ((dig a).take k) * b + 4294967296 ^ k * (x * val ((dig b).take j))) ∧ Hid (∀ i, k + n2 ≤ i → out.getD i 0 = 0))
        (fun _ jj _ => n2 - (intOf jj).toNat)
      case atStart => exact ⟨0, 0, out0, Nat.zero_le _, rfl, rfl, by omega, hR, by have := HV.out; simp [Hid, val, this], HZ⟩
      case round =>
        clear hR HV HZ
        obtain ⟨j, C, out, hj, rfl, rfl, hC, hR, HV, HZ⟩ := hrel
        have hl := hR.len
        by_cases hjM : j < n2
        · obtain ⟨y, hy⟩ : ∃ y : Nat, y = (dig b).getD j 0 := ⟨_, rfl⟩
          obtain ⟨o, ho⟩ : ∃ o : Nat, o = out.getD (k + j) 0 := ⟨_, rfl⟩
          have hy32 : y < 4294967296 := by rw [hy]; exact ds_get (ds_dig b) j
          have ho32 : o < 4294967296 := by rw [ho]; exact hR.get_lt _
          obtain ⟨ad1, rfl, hc1⟩ := (h1.below hR.bel).at_ hkM
          rw [← HX.out] at hc1
          obtain ⟨ad2, rfl, hc2⟩ := (h2.below hR.bel).at_ hjM
          rw [← hy] at hc2
          have hcell := hR.cell (k := k + j) (by omega)
          rw [← ho] at hcell
          have hR2 := fun m => hR.drewN m
          have hfz := fun m => (hR2 m).frozen (k + j)
          have hcell2 : ∀ m, (wr.drewN m).cell? ⟨w.heap.size, k + j, none⟩ = some (.int .u32 (o : Int)) := fun m => by
            have := (hR2 m).cell (k := k + j) (by omega)
            rwa [← ho] at this
          obtain ⟨p, hp⟩ : ∃ p : Nat, p = x * y := ⟨_, rfl⟩
          obtain ⟨S, hS⟩ : ∃ S : Nat, S = C + o + p := ⟨_, rfl⟩
          have hpb := pbound hx32 hy32
          rw [← hp] at hpb
          have HN : Hid (Hid (val (out.set (k + j) (S % 4294967296)) + 4294967296 ^ (k + (j + 1)) * (S / 4294967296) = val ((dig a).take k) * b + 4294967296 ^ k * (x * val ((dig b).take (j + 1))))) := Lib.hid (by
            rw [val_take_succ' (dig b), ← hy]
            refine mul_step (o := o) (o' := S % 4294967296) (c := C) HV.out ?_ (by rw [← hp]; omega)
            rw [ho]; exact val_set out (k + j) _ (by omega))
          have HZ' : Hid (∀ v : Nat, Hid (∀ i, k + n2 ≤ i → (out.set (k + j) v).getD i 0 = 0)) := Lib.hid (fun v i hi => by
            rw [getD_set_other _ _ _ _ (by omega)]; exact HZ.out i hi)
          have hS0 : (S : Int) ≤ 18446744073709551615 := by omega
          have e1 : IntKind.u64.wrap ((x : Int) * (y : Int)) = (p : Int) := by rw [hp, Int.natCast_mul]; exact wrap_u64 (by rw [← Int.natCast_mul]; omega) (by rw [← Int.natCast_mul, ← hp]; omega)
          have e3 : IntKind.u64.wrap ((C : Int) + (o : Int) + (p : Int)) = (S : Int) := by rw [wrap_u64 (by omega) (by omega)]; omega
          have i1 : (0 : Int) ≤ ((k + j : Nat) : Int) := by omega
          have i2 : ((k + j : Nat) : Int) < ((n1 + n2 : Nat) : Int) := by omega
          have i3 : (0 : Int) ≤ (k : Int) := by omega
          have i4 : (0 : Int) ≤ (j : Int) := by omega
          have hkj : k + j < n1 + n2 := by omega
          have HSS := Lib.hid hS
          have HPI : Hid ((x : Int) * (y : Int) = (p : Int)) := Lib.hid (by rw [hp, Int.natCast_mul])
          clear hp hy ho h1 h2 hl hS hpb
          go_wp2_with fail
          go_quiet (fail)
          clear e1 e3
          go_wp2_with fail
          go_roundw
          case rel =>
            have hSx := HSS.out
            have hPx := HPI.out
            exact ⟨j + 1, S / 4294967296, out.set (k + j) (S % 4294967296), by omega, by go_num, by go_num, by omega, (hR2 _).set (k + j) _ (by omega) (by omega), HN.out, HZ'.out _⟩
          case measure => simp [intOf]; omega
        · obtain rfl : j = n2 := by omega
          have hcell := hR.cell (k := k + j) (by omega)
          have hfz := hR.frozen (k + j)
          have HN : Hid (val (out.set (k + j) C) = val ((dig a).take (k + 1)) * b) := Lib.hid (by
            have hv := val_set out (k + j) C (by omega)
            rw [HZ.out (k + j) (Nat.le_refl _), Nat.mul_zero, Nat.add_zero, HV.out] at hv
            rw [hv, val_take_succ', ← HX.out, val_take_all (dig b) j (by rw [h2.len]; exact Nat.le_refl _), val_dig, Nat.add_mul, Nat.mul_assoc])
          have HZ' : Hid (∀ i, k + 1 + j ≤ i → (out.set (k + j) C).getD i 0 = 0) := Lib.hid (fun i hi => by
            rw [getD_set_other _ _ _ _ (by omega)]; exact HZ.out i (by omega))
          clear hl h1 h2
          go_wp2_with fail
          go_roundw
          case rel => exact ⟨k + 1, out.set (k + j) C, by omega, by go_num, hR.set (k + j) _ (by omega) hC, HN, HZ'⟩
          case measure => simp [intOf]; omega
    · have HT : Hid (val out0 = a * b) := Lib.hid (by
        rw [HV.out, val_take_all (dig a) k (by rw [h1.len]; omega), val_dig])
      go_wp2_with fail
      refine (own_trim (A := some ⟨w.heap.size, 0, none⟩) hR.own hR.bel hR.ds (by omega) HT.out).mono ?_
      rintro e w2 ⟨A4, n4, c4, rfl, hs4, hb4⟩
      go_wp2_with fail
      go_ret
      exact ⟨_, _, _, rfl, hs4, hb4⟩
set_option maxHeartbeats 1000000 in
theorem rlow_any (sb : Bool) (A1 A2 : Option Addr) (n1 n2 c1 c2 : Nat) (ys : List Nat) (w : World) (h2 : Sl w A2 n2 c2 ys) (d2 : Ds ys) (hl2 : n2 ≤ 100000000) :
    Calls Tryd.prog 94 #[.agg #[.bool sb, .slice A1 n1 c1, .slice A2 n2 c2]] w (RdPost (low (val ys)) w) := by
  obtain ⟨u, HU, x1, xb⟩ := boxes1 w (.bool sb) (.slice A1 n1 c1) (.slice A2 n2 c2) 24
  replace h2 := h2.below xb
  have q2 := x1.c2
  rw [HU.out] at q2
  by_cases h0 : val ys = 0
  · have HL : Hid (low (val ys) = 1) := Lib.hid (by rw [h0]; rfl)
    go_enter Tryd.func94, Tryd.ntmps94
    go_wp2_with fail
    rw [← HU.out]
    refine (rtrim_any A2 c2 ys _ n2 h2 d2 (by omega)).mono ?_
    rintro e w1 ⟨m1, e1, rfl, k1, hw⟩
    replace hw := hw.symm
    subst hw
    have hm : m1 = 0 := by rw [← k1.len, h0, dig_zero]; rfl
    subst hm
    have ho := one_new u
    go_wp2_with fail
    go_ret
    exact ⟨_, _, _, rfl, by rw [HL.out]; exact ho, below_alloc xb _⟩
  · have HL : Hid (low (val ys) = val ys) := Lib.hid (low_of h0)
    have H0 := Lib.hid h0
    clear h0
    go_enter Tryd.func94, Tryd.ntmps94
    go_wp2_with fail
    rw [← HU.out]
    refine (rtrim_any A2 c2 ys _ n2 h2 d2 (by omega)).mono ?_
    rintro e w1 ⟨m1, e1, rfl, k1, hw⟩
    replace hw := hw.symm
    subst hw
    have hm : 0 < m1 := by rw [← k1.len]; exact len_dig_pos.2 H0.out
    have hm' : ((m1 : Int) == 0) = false := beq_eq_false_iff_ne.2 (by omega)
    go_wp2_with fail
    go_ret
    exact ⟨_, _, _, rfl, by rw [HL.out]; exact k1, xb⟩
theorem sg_not (s : Bool) (n : Nat) : sg (!s) n = - sg s n := by cases s <;> simp [sg]
theorem fv_not (s : Bool) (n d : Nat) : fv (!s) n d = - fv s n d := by rw [fv_low, fv_low, sg_not, Rat.neg_mkRat]
theorem fv_int (n : Int) (s : Bool) (hs : s = decide (n < 0)) : fv s n.natAbs 0 = (n : Rat) := by
  have := fv_make n 1 (by decide) s (by rw [hs]; simp)
  rw [show fv s n.natAbs 0 = fv s n.natAbs (Int.natAbs 1) from rfl, this, Rat.intCast_one, Rat.div_def, show (1 : Rat)⁻¹ = 1 from by decide +kernel, Rat.mul_one]
theorem fv_inv (s : Bool) (a b : Nat) (ha : a ≠ 0) : fv s (low b) a = (fv s a b)⁻¹ := by
  rw [fv_low, fv_low, low_of ha, ← Rat.divInt_ofNat, ← Rat.divInt_ofNat, Rat.inv_divInt]
  cases s
  · rfl
  · simp only [sg, if_true]; rw [Rat.divInt_neg']
theorem fv_mul (s t : Bool) (a b c d : Nat) : fv (s != t) (a * c) (low b * low d) = fv s a b * fv t c d := by
  rw [fv_low, fv_low, fv_low, low_of (Nat.mul_ne_zero (low_ne b) (low_ne d)), sg_mul, ← Rat.mkRat_mul_mkRat]
theorem fv_add (s t : Bool) (a b c d : Nat) : fv s a b + fv t c d = mkRat (sg s a * (low d : Int) + sg t c * (low b : Int)) (low b * low d) := by
  rw [fv_low, fv_low, Rat.mkRat_add_mkRat _ _ (low_ne b) (low_ne d)]
theorem fv_add_same (s : Bool) (a b c d : Nat) : fv s (a * low d + c * low b) (low b * low d) = fv s a b + fv s c d := by
  rw [fv_add, fv_low, low_of (Nat.mul_ne_zero (low_ne b) (low_ne d))]
  congr 1
  cases s
  · simp [sg]
  · simp only [sg, if_true]; rw [Int.natCast_add, Int.natCast_mul, Int.natCast_mul, Int.neg_mul, Int.neg_mul]; omega
theorem fv_add_more (s t : Bool) (a b c d : Nat) (hst : s ≠ t) (h : c * low b ≤ a * low d) : fv s (a * low d - c * low b) (low b * low d) = fv s a b + fv t c d := by
  rw [fv_add, fv_low, low_of (Nat.mul_ne_zero (low_ne b) (low_ne d))]
  congr 1
  have e : ((a * low d - c * low b : Nat) : Int) = (a : Int) * (low d : Int) - (c : Int) * (low b : Int) := by rw [← Int.natCast_mul, ← Int.natCast_mul]; omega
  cases s <;> cases t <;> first | (exact absurd rfl hst) | skip
  · simp only [sg, if_true, Bool.false_eq_true, if_false]; rw [e, Int.neg_mul]; omega
  · simp only [sg, if_true, Bool.false_eq_true, if_false]; rw [e, Int.neg_mul]; omega
theorem fv_add_less (s t : Bool) (a b c d : Nat) (hst : s ≠ t) (h : a * low d ≤ c * low b) : fv t (c * low b - a * low d) (low b * low d) = fv s a b + fv t c d := by
  rw [fv_add, fv_low, low_of (Nat.mul_ne_zero (low_ne b) (low_ne d))]
  congr 1
  have e : ((c * low b - a * low d : Nat) : Int) = (c : Int) * (low b : Int) - (a : Int) * (low d : Int) := by rw [← Int.natCast_mul, ← Int.natCast_mul]; omega
  cases s <;> cases t <;> first | (exact absurd rfl hst) | skip
  · simp only [sg, if_true, Bool.false_eq_true, if_false]; rw [e, Int.neg_mul]; omega
  · simp only [sg, if_true, Bool.false_eq_true, if_false]; rw [e, Int.neg_mul]; omega
theorem sgn_fv (s : Bool) (a b : Nat) : sgn (fv s a b) = if a = 0 then 0 else if s = true then -1 else 1 := by
  rw [sgn_is]
  by_cases h : a = 0
  · subst h
    rw [if_pos rfl, fv_low, show sg s 0 = 0 from by cases s <;> rfl, Rat.zero_mkRat]; rfl
  · have hp := fv_parts_red s a b h
    have hn : rn (fv s a b) ≠ 0 := by
      rw [hp.2.1]
      have := Nat.div_pos (Nat.le_of_dvd (by omega) (Nat.gcd_dvd_left a (low b))) (Nat.gcd_pos_of_pos_left (low b) (by omega))
      omega
    rw [if_neg hn, if_neg h, hp.1]
theorem low_len (xs : List Nat) (h : Ds xs) : (dig (low (val xs))).length ≤ xs.length + 1 := by
  have := len_val h
  have := len_low (val xs)
  omega

set_option maxHeartbeats 1000000 in
theorem rCanon_any (s1 : Bool) (A1 A2 : Option Addr) (n1 n2 c1 c2 : Nat) (q : Rat) (w : World) (h : Rf w s1 A1 n1 c1 A2 n2 c2 q) (hl1 : n1 ≤ 1000000) (hl2 : n2 ≤ 1000000) :
    Calls Tryd.prog 34 #[.agg #[.bool s1, .slice A1 n1 c1, .slice A2 n2 c2]] w (FrPost (q) w) := by
  obtain ⟨xs, ys, h1, h2, d1, d2, hq⟩ := h
  obtain ⟨u, HU, x1, x2, xb⟩ := boxes2 w (.bool s1) (.slice A1 n1 c1) (.slice A2 n2 c2) (.bool false) (.slice none 0 0) (.slice none 0 0) 24 24
  have M := Lib.hid (make1_any s1 A1 A2 n1 n2 c1 c2 xs ys u (h1.below xb) (h2.below xb) d1 d2 (by omega) (by omega))
  have HQ : Hid (fv s1 (val xs) (val ys) = q) := Lib.hid (by exact hq.symm)
  rw [HQ.out] at M
  have p0 := x1.c0
  have p1 := x1.c1
  have p2 := x1.c2
  rw [HU.out] at p0 p1 p2
  clear h1 h2 hq
  go_enter Tryd.func34, Tryd.ntmps34
  go_wp2_with fail
  rw [← HU.out]
  refine M.out.mono ?_
  rintro e w1 ⟨s9, A17, n17, c17, A18, n18, c18, rfl, f5, o17, o18, b5⟩
  have G := Lib.hid (f5.ret o17 o18 (by omega) x2.lt (bthen xb b5))
  have hlt := x2.lt
  replace x2 := x2.below b5
  have t0 := x2.c0
  have t1 := x2.c1
  have t2 := x2.c2
  have v0 := x2.fz 0
  have v1 := x2.fz 1
  have v2 := x2.fz 2
  clear f5 o17 o18 x1 x2 xb b5 M
  go_wp2_with fail
  exact bodyPost_ret (v := .agg #[.bool s9, .slice A17 n17 c17, .slice A18 n18 c18]) (by simp [results, Tryd.results34, go_sem, t0, t1, t2]) rfl G.out

set_option maxHeartbeats 1000000 in
theorem rNeg_t (A1 A2 : Option Addr) (n1 n2 c1 c2 : Nat) (q : Rat) (w : World) (h : Rf w true A1 n1 c1 A2 n2 c2 q) (hl1 : n1 ≤ 1000000) (hl2 : n2 ≤ 1000000) :
    Calls Tryd.prog 56 #[.agg #[.bool true, .slice A1 n1 c1, .slice A2 n2 c2]] w (FrPost (-q) w) := by
  obtain ⟨xs, ys, h1, h2, d1, d2, hq⟩ := h
  obtain ⟨u, HU, x1, x2, xb⟩ := boxes2 w (.bool true) (.slice A1 n1 c1) (.slice A2 n2 c2) (.bool false) (.slice none 0 0) (.slice none 0 0) 24 24
  have M := Lib.hid (make1_any false A1 A2 n1 n2 c1 c2 xs ys u (h1.below xb) (h2.below xb) d1 d2 (by omega) (by omega))
  have HQ : Hid (fv false (val xs) (val ys) = -q) := Lib.hid (by rw [hq, ← fv_not]; rfl)
  rw [HQ.out] at M
  have p0 := x1.c0
  have p1 := x1.c1
  have p2 := x1.c2
  rw [HU.out] at p0 p1 p2
  clear h1 h2 hq
  go_enter Tryd.func56, Tryd.ntmps56
  go_wp2_with fail
  rw [← HU.out]
  refine M.out.mono ?_
  rintro e w1 ⟨s9, A17, n17, c17, A18, n18, c18, rfl, f5, o17, o18, b5⟩
  have G := Lib.hid (f5.ret o17 o18 (by omega) x2.lt (bthen xb b5))
  have hlt := x2.lt
  replace x2 := x2.below b5
  have t0 := x2.c0
  have t1 := x2.c1
  have t2 := x2.c2
  have v0 := x2.fz 0
  have v1 := x2.fz 1
  have v2 := x2.fz 2
  clear f5 o17 o18 x1 x2 xb b5 M
  go_wp2_with fail
  exact bodyPost_ret (v := .agg #[.bool s9, .slice A17 n17 c17, .slice A18 n18 c18]) (by simp [results, Tryd.results56, go_sem, t0, t1, t2]) rfl G.out

set_option maxHeartbeats 1000000 in
theorem rNeg_f (A1 A2 : Option Addr) (n1 n2 c1 c2 : Nat) (q : Rat) (w : World) (h : Rf w false A1 n1 c1 A2 n2 c2 q) (hl1 : n1 ≤ 1000000) (hl2 : n2 ≤ 1000000) :
    Calls Tryd.prog 56 #[.agg #[.bool false, .slice A1 n1 c1, .slice A2 n2 c2]] w (FrPost (-q) w) := by
  obtain ⟨xs, ys, h1, h2, d1, d2, hq⟩ := h
  obtain ⟨u, HU, x1, x2, xb⟩ := boxes2 w (.bool false) (.slice A1 n1 c1) (.slice A2 n2 c2) (.bool false) (.slice none 0 0) (.slice none 0 0) 24 24
  have M := Lib.hid (make1_any true A1 A2 n1 n2 c1 c2 xs ys u (h1.below xb) (h2.below xb) d1 d2 (by omega) (by omega))
  have HQ : Hid (fv true (val xs) (val ys) = -q) := Lib.hid (by rw [hq, ← fv_not]; rfl)
  rw [HQ.out] at M
  have p0 := x1.c0
  have p1 := x1.c1
  have p2 := x1.c2
  rw [HU.out] at p0 p1 p2
  clear h1 h2 hq
  go_enter Tryd.func56, Tryd.ntmps56
  go_wp2_with fail
  rw [← HU.out]
  refine M.out.mono ?_
  rintro e w1 ⟨s9, A17, n17, c17, A18, n18, c18, rfl, f5, o17, o18, b5⟩
  have G := Lib.hid (f5.ret o17 o18 (by omega) x2.lt (bthen xb b5))
  have hlt := x2.lt
  replace x2 := x2.below b5
  have t0 := x2.c0
  have t1 := x2.c1
  have t2 := x2.c2
  have v0 := x2.fz 0
  have v1 := x2.fz 1
  have v2 := x2.fz 2
  clear f5 o17 o18 x1 x2 xb b5 M
  go_wp2_with fail
  exact bodyPost_ret (v := .agg #[.bool s9, .slice A17 n17 c17, .slice A18 n18 c18]) (by simp [results, Tryd.results56, go_sem, t0, t1, t2]) rfl G.out
theorem rNeg_any (s1 : Bool) (A1 A2 : Option Addr) (n1 n2 c1 c2 : Nat) (q : Rat) (w : World) (h : Rf w s1 A1 n1 c1 A2 n2 c2 q) (hl1 : n1 ≤ 1000000) (hl2 : n2 ≤ 1000000) :
    Calls Tryd.prog 56 #[.agg #[.bool s1, .slice A1 n1 c1, .slice A2 n2 c2]] w (FrPost (-q) w) := by
  cases s1
  · exact rNeg_f A1 A2 n1 n2 c1 c2 q w h hl1 hl2
  · exact rNeg_t A1 A2 n1 n2 c1 c2 q w h hl1 hl2

set_option maxHeartbeats 1000000 in
theorem rOf_any (n : Int) (w : World) (h0 : -9223372036854775808 ≤ n) (h1 : n ≤ 9223372036854775807) :
    Calls Tryd.prog 38 #[.int .i64 n] w (FrPost (n : Rat) w) := by
  obtain ⟨u, HU, x1, xb⟩ := boxes1 w (.bool false) (.slice none 0 0) (.slice none 0 0) 24
  have ha0 : n.natAbs ≤ 9223372036854775808 := by omega
  have main : ∀ s, s = decide (n < 0) → Hid (∀ (A1 : Option Addr) (n1 c1 : Nat) (W : World), Sl W A1 n1 c1 (dig n.natAbs) →
      Calls Tryd.prog 81 #[.bool s, .slice A1 n1 c1, .slice none 0 0] W (FrPost (n : Rat) W)) := fun s hs => Lib.hid (by
    intro A1 n1 c1 W k1
    have l1 : n1 ≤ 2 := by rw [← k1.len]; exact len_two (by omega)
    have := make1_any s A1 none n1 0 c1 0 _ [] W k1 ⟨rfl, Nat.le_refl _, Rd.nil_ _ _⟩ (ds_dig _) ds_nil (by omega) (by omega)
    rwa [val_dig, show val [] = 0 from rfl, fv_int n s hs] at this)
  by_cases hn : n < 0
  · have M := main true (by simp [hn])
    clear main
    go_enter Tryd.func38, Tryd.ntmps38
    go_wp2_with fail
    rw [← HU.out]
    refine (rsize_any n _ h0 h1).mono ?_
    rintro e w1 ⟨rfl, hw⟩
    replace hw := hw.symm
    subst hw
    go_wp2_with fail
    refine (rnatural_any _ _ (by omega) (by omega)).mono ?_
    rintro e w2 ⟨A1, n1, c1, rfl, k1, ⟨b1, _⟩⟩
    rw [Int.toNat_natCast] at k1
    replace x1 := x1.below b1
    replace xb := bthen xb b1
    go_wp2_with fail
    refine (M.out _ _ _ _ k1).mono ?_
    rintro e w5 ⟨s9, A17, n17, c17, A18, n18, c18, rfl, f5, o17, o18, b5⟩
    have G := Lib.hid (f5.ret o17 o18 (Nat.le_refl _) x1.lt (bthen xb b5))
    have hlt := x1.lt
    replace x1 := x1.below b5
    have t0 := x1.c0
    have t1 := x1.c1
    have t2 := x1.c2
    have v0 := x1.fz 0
    have v1 := x1.fz 1
    have v2 := x1.fz 2
    clear f5 o17 o18 k1 x1 xb b5 b1 M
    go_wp2_with fail
    exact bodyPost_ret (v := .agg #[.bool s9, .slice A17 n17 c17, .slice A18 n18 c18]) (by simp [results, Tryd.results38, go_sem, t0, t1, t2]) rfl G.out
  · have M := main false (by simp [hn])
    clear main
    go_enter Tryd.func38, Tryd.ntmps38
    go_wp2_with fail
    rw [← HU.out]
    refine (rsize_any n _ h0 h1).mono ?_
    rintro e w1 ⟨rfl, hw⟩
    replace hw := hw.symm
    subst hw
    go_wp2_with fail
    refine (rnatural_any _ _ (by omega) (by omega)).mono ?_
    rintro e w2 ⟨A1, n1, c1, rfl, k1, ⟨b1, _⟩⟩
    rw [Int.toNat_natCast] at k1
    replace x1 := x1.below b1
    replace xb := bthen xb b1
    go_wp2_with fail
    refine (M.out _ _ _ _ k1).mono ?_
    rintro e w5 ⟨s9, A17, n17, c17, A18, n18, c18, rfl, f5, o17, o18, b5⟩
    have G := Lib.hid (f5.ret o17 o18 (Nat.le_refl _) x1.lt (bthen xb b5))
    have hlt := x1.lt
    replace x1 := x1.below b5
    have t0 := x1.c0
    have t1 := x1.c1
    have t2 := x1.c2
    have v0 := x1.fz 0
    have v1 := x1.fz 1
    have v2 := x1.fz 2
    clear f5 o17 o18 k1 x1 xb b5 b1 M
    go_wp2_with fail
    exact bodyPost_ret (v := .agg #[.bool s9, .slice A17 n17 c17, .slice A18 n18 c18]) (by simp [results, Tryd.results38, go_sem, t0, t1, t2]) rfl G.out

set_option maxHeartbeats 1000000 in
theorem rSign_any (s1 : Bool) (A1 A2 : Option Addr) (n1 n2 c1 c2 : Nat) (q : Rat) (w : World) (h : Rf w s1 A1 n1 c1 A2 n2 c2 q) (hl1 : n1 ≤ 1000000) (_hl2 : n2 ≤ 1000000) :
    Calls Tryd.prog 23 #[.agg #[.bool s1, .slice A1 n1 c1, .slice A2 n2 c2]] w (ValPost (.int .i64 (sgn q)) w) := by
  obtain ⟨xs, ys, h1, h2, d1, d2, hq⟩ := h
  have HS : Hid (sgn q = if val xs = 0 then 0 else if s1 = true then -1 else 1) := Lib.hid (by rw [hq, sgn_fv])
  obtain ⟨u, HU, x1, xb⟩ := boxes1 w (.bool s1) (.slice A1 n1 c1) (.slice A2 n2 c2) 24
  have k := Lib.hid (rtrim_any A1 c1 xs u n1 (h1.below xb) d1 (by omega))
  have p0 := x1.c0
  have p1 := x1.c1
  have p2 := x1.c2
  rw [HU.out] at p1
  clear h1 h2 hq
  by_cases h0 : val xs = 0
  · have HZ : Hid (sgn q = 0) := Lib.hid (by rw [HS.out, if_pos h0])
    have H0 := Lib.hid h0
    clear h0
    go_enter Tryd.func23, Tryd.ntmps23
    go_wp2_with fail
    rw [← HU.out]
    refine k.out.mono ?_
    rintro e w1 ⟨m1, e1, rfl, k1, hw⟩
    replace hw := hw.symm
    subst hw
    have hm : m1 = 0 := by rw [← k1.len, H0.out, dig_zero]; rfl
    subst hm
    go_wp2_with fail
    go_ret
    exact ⟨by rw [HZ.out]; rfl, xb⟩
  · cases s1
    all_goals
      have HZ := HS.out
      rw [if_neg h0] at HZ
      replace HZ := Lib.hid HZ
      have H0 := Lib.hid h0
      clear h0
      go_enter Tryd.func23, Tryd.ntmps23
      go_wp2_with fail
      rw [← HU.out]
      refine k.out.mono ?_
      rintro e w1 ⟨m1, e1, rfl, k1, hw⟩
      replace hw := hw.symm
      subst hw
      have hm : 0 < m1 := by rw [← k1.len]; exact len_dig_pos.2 H0.out
      have hm' : ((m1 : Int) == 0) = false := beq_eq_false_iff_ne.2 (by omega)
      go_wp2_with fail
      go_ret
      exact ⟨by rw [HZ.out]; rfl, xb⟩

set_option maxHeartbeats 2000000 in
theorem rInverse_any (s1 : Bool) (A1 A2 : Option Addr) (n1 n2 c1 c2 : Nat) (q : Rat) (w : World) (h : Rf w s1 A1 n1 c1 A2 n2 c2 q) (hl1 : n1 ≤ 1000000) (hl2 : n2 ≤ 1000000) (hz : q ≠ 0) :
    Calls Tryd.prog 77 #[.agg #[.bool s1, .slice A1 n1 c1, .slice A2 n2 c2]] w (FrPost q⁻¹ w) := by
  obtain ⟨xs, ys, h1, h2, d1, d2, hq⟩ := h
  have HA : Hid (val xs ≠ 0) := Lib.hid (fun e => hz ((sgn_zero_iff q).1 (by rw [hq, sgn_fv, if_pos e])))
  have HQ : Hid (fv s1 (val (dig (low (val ys)))) (val (dig (val xs))) = q⁻¹) := Lib.hid (by rw [val_dig, val_dig, fv_inv _ _ _ HA.out, ← hq])
  obtain ⟨u, HU, x1, x2, xb⟩ := boxes2 w (.bool s1) (.slice A1 n1 c1) (.slice A2 n2 c2) (.bool false) (.slice none 0 0) (.slice none 0 0) 24 24
  replace h1 := h1.below xb
  replace h2 := h2.below xb
  have y1 := x1.drew
  have y2 := x2.drew
  have g1 := h1.drew
  have g2 := h2.drew
  have yu := below_drew xb
  clear hq hz
  go_enter Tryd.func77, Tryd.ntmps77
  go_wp2_with fail
  rw [← HU.out]
  go_region_held3 (fun w' => w'.cell? ⟨w.heap.size, 0, none⟩ = some (.bool s1) ∧ w'.cell? ⟨w.heap.size, 1, none⟩ = some (.slice A1 n1 c1) ∧ w'.cell? ⟨w.heap.size, 2, none⟩ = some (.slice A2 n2 c2))
    (first | (with_reducible exact ⟨x1.c0, x1.c1, x1.c2⟩) | (with_reducible exact ⟨y1.c0, y1.c1, y1.c2⟩) | (with_reducible exact KF) | go_keep)
    (first
      | (go_at_call 94
         (with_reducible refine (rlow_any s1 A1 A2 n1 n2 c1 c2 ys _ g2 d2 (by omega)).mono ?_)
         rintro e w5 ⟨B1, m2, e2, rfl, k2, b5⟩
         have lm2 : m2 ≤ 1000001 := by have := low_len ys d2; have := k2.len; have := g2.len; omega
         replace y1 := y1.below b5
         replace y2 := y2.below b5
         replace g1 := g1.below b5
         replace g2 := g2.below b5
         replace yu := bthen yu b5)
      | (go_at_call 76
         (with_reducible refine (rtrim_any A1 c1 xs _ n1 g1 d1 (by omega)).mono ?_)
         rintro e w5 ⟨m1, em1, rfl, k1, hw⟩
         replace hw := hw.symm
         subst hw
         have lm1 : m1 ≤ 1000000 := by have := len_val d1; have := k1.len; have := g1.len; omega)
      | (go_at_call 81
         (with_reducible refine (make1_any s1 B1 A1 m2 m1 e2 em1 _ _ _ k2 k1 (ds_dig _) (ds_dig _) (by omega) (by omega)).mono ?_)
         rintro e w5 ⟨s9, A17, n17, c17, A18, n18, c18, rfl, f5, o17, o18, b5⟩
         rw [HQ.out] at f5 o17 o18
         have glt := y2.lt
         replace y1 := y1.below b5
         replace y2 := y2.below b5
         replace yu := bthen yu b5
         have G := Lib.hid (f5.ret o17 o18 (g := w.heap.size + 1) (by omega) glt yu)
         have my1 := y1.put (g' := w.heap.size + 1) (by omega) (.bool s9) (.slice A17 n17 c17) (.slice A18 n18 c18)
         have KF := And.intro my1.c0 (And.intro my1.c1 (my1.c2))
         unfold put3 at KF
         have t0 := y2.c0
         have t1 := y2.c1
         have t2 := y2.c2
         have v0 := y2.fz 0
         have v1 := y2.fz 1
         have v2 := y2.fz 2))
  go_wp2_with fail
  exact bodyPost_ret (v := .agg #[.bool s9, .slice A17 n17 c17, .slice A18 n18 c18]) (by simp [results, Tryd.results77, go_sem, t0, t1, t2]) rfl G.out

set_option maxHeartbeats 4000000 in
theorem rMul_any (s1 : Bool) (A1 A2 : Option Addr) (n1 n2 c1 c2 : Nat) (s2 : Bool) (A3 A4 : Option Addr) (n3 n4 c3 c4 : Nat) (p q : Rat) (w : World) (h1 : Rf w s1 A1 n1 c1 A2 n2 c2 p) (h2 : Rf w s2 A3 n3 c3 A4 n4 c4 q) (l1 : n1 ≤ 1000000) (l2 : n2 ≤ 1000000) (l3 : n3 ≤ 1000000) (l4 : n4 ≤ 1000000) :
    Calls Tryd.prog 37 #[.agg #[.bool s1, .slice A1 n1 c1, .slice A2 n2 c2], .agg #[.bool s2, .slice A3 n3 c3, .slice A4 n4 c4]] w (FrPost (p * q) w) := by
  obtain ⟨zs, ts, h3, h4, d3, d4, hq⟩ := h2
  obtain ⟨xs, ys, h1, h2, d1, d2, hp⟩ := h1
  have HQ : Hid (fv (!(s1 == s2)) (val (dig (val xs * val zs))) (val (dig (low (val ys) * low (val ts)))) = p * q) := Lib.hid (by rw [val_dig, val_dig]; show fv (s1 != s2) _ _ = _; rw [fv_mul, ← hp, ← hq])
  clear hp hq
  obtain ⟨u, HU, x1, x2, x3, xb⟩ := boxes3 w (.bool s1) (.slice A1 n1 c1) (.slice A2 n2 c2) (.bool s2) (.slice A3 n3 c3) (.slice A4 n4 c4) (.bool false) (.slice none 0 0) (.slice none 0 0) 24 24 24
  replace h1 := h1.below xb
  replace h2 := h2.below xb
  replace h3 := h3.below xb
  replace h4 := h4.below xb
  have y1 := x1.drew
  have y2 := x2.drew
  have y3 := x3.drew
  have g1 := h1.drew
  have g2 := h2.drew
  have g3 := h3.drew
  have g4 := h4.drew
  have yu := below_drew xb
  go_enter Tryd.func37, Tryd.ntmps37
  go_wp2_with fail
  rw [← HU.out]
  go_region_held3 (fun w' => w'.cell? ⟨w.heap.size, 0, none⟩ = some (.bool s1) ∧ w'.cell? ⟨w.heap.size, 1, none⟩ = some (.slice A1 n1 c1) ∧ w'.cell? ⟨w.heap.size, 2, none⟩ = some (.slice A2 n2 c2) ∧ w'.cell? ⟨w.heap.size + 1, 0, none⟩ = some (.bool s2) ∧ w'.cell? ⟨w.heap.size + 1, 1, none⟩ = some (.slice A3 n3 c3) ∧ w'.cell? ⟨w.heap.size + 1, 2, none⟩ = some (.slice A4 n4 c4))
    (first | (with_reducible exact ⟨x1.c0, x1.c1, x1.c2, x2.c0, x2.c1, x2.c2⟩) | (with_reducible exact ⟨y1.c0, y1.c1, y1.c2, y2.c0, y2.c1, y2.c2⟩) | (with_reducible exact KF) | go_keep)
    (first
      | (go_at_call 76
         (with_reducible refine (rtrim_any A1 c1 xs _ n1 g1 d1 (by omega)).mono ?_)
         rintro e w5 ⟨m1, em1, rfl, k1, hw⟩
         replace hw := hw.symm
         subst hw
         have lm1 : m1 ≤ 1000000 := by have := len_val d1; have := k1.len; have := g1.len; omega)
      | (go_at_call 76
         (with_reducible refine (rtrim_any A3 c3 zs _ n3 g3 d3 (by omega)).mono ?_)
         rintro e w5 ⟨m3, em3, rfl, k3, hw⟩
         replace hw := hw.symm
         subst hw
         have lm3 : m3 ≤ 1000000 := by have := len_val d3; have := k3.len; have := g3.len; omega)
      | (go_at_call 93
         (with_reducible refine (rtimes_any A1 A3 m1 m3 em1 em3 (val xs) (val zs) _ k1 k3 (by omega) (by omega)).mono ?_)
         rintro e w5 ⟨R1, r1, q1, rfl, j1, ⟨b5, _⟩⟩
         have lr1 : r1 ≤ 2000000 := by have := len_mul (val xs) (val zs); have := j1.len; have := k1.len; have := k3.len; omega
         replace y1 := y1.below b5
         replace y2 := y2.below b5
         replace y3 := y3.below b5
         replace g1 := g1.below b5
         replace g2 := g2.below b5
         replace g3 := g3.below b5
         replace g4 := g4.below b5
         replace yu := bthen yu b5)
      | (go_at_call 94
         (with_reducible refine (rlow_any s1 A1 A2 n1 n2 c1 c2 ys _ g2 d2 (by omega)).mono ?_)
         rintro e w5 ⟨B1, m2, e2, rfl, k2, b5⟩
         have lm2 : m2 ≤ 1000001 := by have := low_len ys d2; have := k2.len; have := g2.len; omega
         replace y1 := y1.below b5
         replace y2 := y2.below b5
         replace y3 := y3.below b5
         replace g1 := g1.below b5
         replace g2 := g2.below b5
         replace g3 := g3.below b5
         replace g4 := g4.below b5
         replace j1 := j1.below b5
         replace yu := bthen yu b5)
      | (go_at_call 94
         (with_reducible refine (rlow_any s2 A3 A4 n3 n4 c3 c4 ts _ g4 d4 (by omega)).mono ?_)
         rintro e w5 ⟨B2, m4, e4, rfl, k4, b5⟩
         have lm4 : m4 ≤ 1000001 := by have := low_len ts d4; have := k4.len; have := g4.len; omega
         replace y1 := y1.below b5
         replace y2 := y2.below b5
         replace y3 := y3.below b5
         replace g1 := g1.below b5
         replace g2 := g2.below b5
         replace g3 := g3.below b5
         replace g4 := g4.below b5
         replace j1 := j1.below b5
         replace k2 := k2.below b5
         replace yu := bthen yu b5)
      | (go_at_call 93
         (with_reducible refine (rtimes_any B1 B2 m2 m4 e2 e4 (low (val ys)) (low (val ts)) _ k2 k4 (by omega) (by omega)).mono ?_)
         rintro e w5 ⟨R2, r2, q2, rfl, j2, ⟨b5, _⟩⟩
         have lr2 : r2 ≤ 2000002 := by have := len_mul (low (val ys)) (low (val ts)); have := j2.len; have := k2.len; have := k4.len; omega
         replace y1 := y1.below b5
         replace y2 := y2.below b5
         replace y3 := y3.below b5
         replace g1 := g1.below b5
         replace g2 := g2.below b5
         replace g3 := g3.below b5
         replace g4 := g4.below b5
         replace j1 := j1.below b5
         replace yu := bthen yu b5)
      | (go_at_call 81
         (with_reducible refine (make1_any (!(s1 == s2)) R1 R2 r1 r2 q1 q2 _ _ _ j1 j2 (ds_dig _) (ds_dig _) (by omega) (by omega)).mono ?_)
         rintro e w5 ⟨s9, A17, n17, c17, A18, n18, c18, rfl, f5, o17, o18, b5⟩
         rw [HQ.out] at f5 o17 o18
         have glt := y3.lt
         replace y1 := y1.below b5
         replace y2 := y2.below b5
         replace y3 := y3.below b5
         replace yu := bthen yu b5
         have G := Lib.hid (f5.ret o17 o18 (g := w.heap.size + 1 + 1) (by omega) glt yu)
         have my1 := y1.put (g' := w.heap.size + 1 + 1) (by omega) (.bool s9) (.slice A17 n17 c17) (.slice A18 n18 c18)
         have my2 := y2.put (g' := w.heap.size + 1 + 1) (by omega) (.bool s9) (.slice A17 n17 c17) (.slice A18 n18 c18)
         have KF := And.intro my1.c0 (And.intro my1.c1 (And.intro my1.c2 (And.intro my2.c0 (And.intro my2.c1 (my2.c2)))))
         unfold put3 at KF
         have t0 := y3.c0
         have t1 := y3.c1
         have t2 := y3.c2
         have v0 := y3.fz 0
         have v1 := y3.fz 1
         have v2 := y3.fz 2))
  go_wp2_with fail
  exact bodyPost_ret (v := .agg #[.bool s9, .slice A17 n17 c17, .slice A18 n18 c18]) (by simp [results, Tryd.results37, go_sem, t0, t1, t2]) rfl G.out

set_option maxHeartbeats 4000000 in
theorem rDiv_any (s1 : Bool) (A1 A2 : Option Addr) (n1 n2 c1 c2 : Nat) (s2 : Bool) (A3 A4 : Option Addr) (n3 n4 c3 c4 : Nat) (p q : Rat) (w : World) (h1 : Rf w s1 A1 n1 c1 A2 n2 c2 p) (h2 : Rf w s2 A3 n3 c3 A4 n4 c4 q) (l1 : n1 ≤ 100000) (l2 : n2 ≤ 100000) (l3 : n3 ≤ 100000) (l4 : n4 ≤ 100000) (hz : q ≠ 0) :
    Calls Tryd.prog 49 #[.agg #[.bool s1, .slice A1 n1 c1, .slice A2 n2 c2], .agg #[.bool s2, .slice A3 n3 c3, .slice A4 n4 c4]] w (FrPost (p / q) w) := by
  have HQ : Hid (p * q⁻¹ = p / q) := Lib.hid (Rat.div_def p q).symm
  have e2 := h2.len
  have HL : Hid (ln q⁻¹ ≤ 100001 ∧ ld q⁻¹ ≤ 100001) := Lib.hid (by have := ln_inv (fun e => hz (rn_zero.1 e)); omega)
  obtain ⟨u, HU, x1, x2, x3, xb⟩ := boxes3 w (.bool s1) (.slice A1 n1 c1) (.slice A2 n2 c2) (.bool s2) (.slice A3 n3 c3) (.slice A4 n4 c4) (.bool false) (.slice none 0 0) (.slice none 0 0) 24 24 24
  replace h1 := h1.below xb
  replace h2 := h2.below xb
  have y1 := x1.drew
  have y2 := x2.drew
  have y3 := x3.drew
  have g1 := h1.drew
  have g2 := h2.drew
  have yu := below_drew xb
  have HZ := Lib.hid hz
  clear hz e2
  go_enter Tryd.func49, Tryd.ntmps49
  go_wp2_with fail
  rw [← HU.out]
  go_region_held3 (fun w' => w'.cell? ⟨w.heap.size, 0, none⟩ = some (.bool s1) ∧ w'.cell? ⟨w.heap.size, 1, none⟩ = some (.slice A1 n1 c1) ∧ w'.cell? ⟨w.heap.size, 2, none⟩ = some (.slice A2 n2 c2) ∧ w'.cell? ⟨w.heap.size + 1, 0, none⟩ = some (.bool s2) ∧ w'.cell? ⟨w.heap.size + 1, 1, none⟩ = some (.slice A3 n3 c3) ∧ w'.cell? ⟨w.heap.size + 1, 2, none⟩ = some (.slice A4 n4 c4))
    (first | (with_reducible exact ⟨x1.c0, x1.c1, x1.c2, x2.c0, x2.c1, x2.c2⟩) | (with_reducible exact ⟨y1.c0, y1.c1, y1.c2, y2.c0, y2.c1, y2.c2⟩) | (with_reducible exact KF) | go_keep)
    (first
      | (go_at_call 77
         (with_reducible refine (rInverse_any s2 A3 A4 n3 n4 c3 c4 q _ g2 (by omega) (by omega) HZ.out).mono ?_)
         rintro e w5 ⟨s4, A7, n7, c7, A8, n8, c8, rfl, f4, _, _, b5⟩
         replace y1 := y1.below b5
         replace y2 := y2.below b5
         replace y3 := y3.below b5
         replace g1 := g1.below b5
         replace g2 := g2.below b5
         replace yu := bthen yu b5
         have hn7 : n7 ≤ 100001 := by have := f4.lens; have := HL.out; omega
         have hn8 : n8 ≤ 100001 := by have := f4.lens; have := HL.out; omega)
      | (go_at_call 37
         (with_reducible refine (rMul_any s1 A1 A2 n1 n2 c1 c2 s4 A7 A8 n7 n8 c7 c8 p q⁻¹ _ g1 f4.rf (by omega) (by omega) (by omega) (by omega)).mono ?_)
         rintro e w5 ⟨s9, A17, n17, c17, A18, n18, c18, rfl, f5, o17, o18, b5⟩
         rw [HQ.out] at f5 o17 o18
         have glt := y3.lt
         replace y1 := y1.below b5
         replace y2 := y2.below b5
         replace y3 := y3.below b5
         replace yu := bthen yu b5
         have G := Lib.hid (f5.ret o17 o18 (g := w.heap.size + 1 + 1) (by omega) glt yu)
         have my1 := y1.put (g' := w.heap.size + 1 + 1) (by omega) (.bool s9) (.slice A17 n17 c17) (.slice A18 n18 c18)
         have my2 := y2.put (g' := w.heap.size + 1 + 1) (by omega) (.bool s9) (.slice A17 n17 c17) (.slice A18 n18 c18)
         have KF := And.intro my1.c0 (And.intro my1.c1 (And.intro my1.c2 (And.intro my2.c0 (And.intro my2.c1 (my2.c2)))))
         unfold put3 at KF
         have t0 := y3.c0
         have t1 := y3.c1
         have t2 := y3.c2
         have v0 := y3.fz 0
         have v1 := y3.fz 1
         have v2 := y3.fz 2))
  go_wp2_with fail
  exact bodyPost_ret (v := .agg #[.bool s9, .slice A17 n17 c17, .slice A18 n18 c18]) (by simp [results, Tryd.results49, go_sem, t0, t1, t2]) rfl G.out

set_option maxHeartbeats 8000000 in
theorem rAdd_same (s1 : Bool) (A1 A2 : Option Addr) (n1 n2 c1 c2 : Nat) (s2 : Bool) (A3 A4 : Option Addr) (n3 n4 c3 c4 : Nat) (p q : Rat) (w : World) (h1 : Rf w s1 A1 n1 c1 A2 n2 c2 p) (h2 : Rf w s2 A3 n3 c3 A4 n4 c4 q) (l1 : n1 ≤ 1000000) (l2 : n2 ≤ 1000000) (l3 : n3 ≤ 1000000) (l4 : n4 ≤ 1000000) (hs : s1 = s2) :
    Calls Tryd.prog 53 #[.agg #[.bool s1, .slice A1 n1 c1, .slice A2 n2 c2], .agg #[.bool s2, .slice A3 n3 c3, .slice A4 n4 c4]] w (FrPost (p + q) w) := by
  subst hs
  obtain ⟨zs, ts, h3, h4, d3, d4, hq⟩ := h2
  obtain ⟨xs, ys, h1, h2, d1, d2, hp⟩ := h1
  have HQ : Hid (fv s1 (val (dig (val xs * low (val ts) + val zs * low (val ys)))) (val (dig (low (val ys) * low (val ts)))) = p + q) := Lib.hid (by rw [val_dig, val_dig, fv_add_same, ← hp, ← hq])
  clear hp hq
  obtain ⟨u, HU, x1, x2, x3, xb⟩ := boxes3 w (.bool s1) (.slice A1 n1 c1) (.slice A2 n2 c2) (.bool s1) (.slice A3 n3 c3) (.slice A4 n4 c4) (.bool false) (.slice none 0 0) (.slice none 0 0) 24 24 24
  replace h1 := h1.below xb
  replace h2 := h2.below xb
  replace h3 := h3.below xb
  replace h4 := h4.below xb
  have y1 := x1.drew
  have y2 := x2.drew
  have y3 := x3.drew
  have g1 := h1.drew
  have g2 := h2.drew
  have g3 := h3.drew
  have g4 := h4.drew
  have yu := below_drew xb
  go_enter Tryd.func53, Tryd.ntmps53
  go_wp2_with fail
  rw [← HU.out]
  go_region_held3 (fun w' => w'.cell? ⟨w.heap.size, 0, none⟩ = some (.bool s1) ∧ w'.cell? ⟨w.heap.size, 1, none⟩ = some (.slice A1 n1 c1) ∧ w'.cell? ⟨w.heap.size, 2, none⟩ = some (.slice A2 n2 c2) ∧ w'.cell? ⟨w.heap.size + 1, 0, none⟩ = some (.bool s1) ∧ w'.cell? ⟨w.heap.size + 1, 1, none⟩ = some (.slice A3 n3 c3) ∧ w'.cell? ⟨w.heap.size + 1, 2, none⟩ = some (.slice A4 n4 c4))
    (first | (with_reducible exact ⟨x1.c0, x1.c1, x1.c2, x2.c0, x2.c1, x2.c2⟩) | (with_reducible exact ⟨y1.c0, y1.c1, y1.c2, y2.c0, y2.c1, y2.c2⟩) | go_keep)
    (first
      | (go_at_call 76
         (with_reducible refine (rtrim_any A1 c1 xs _ n1 g1 d1 (by omega)).mono ?_)
         rintro e w5 ⟨m1, em1, rfl, k1, hw⟩
         replace hw := hw.symm
         subst hw
         have lm1 : m1 ≤ 1000000 := by have := len_val d1; have := k1.len; have := g1.len; omega)
      | (go_at_call 76
         (with_reducible refine (rtrim_any A3 c3 zs _ n3 g3 d3 (by omega)).mono ?_)
         rintro e w5 ⟨m3, em3, rfl, k3, hw⟩
         replace hw := hw.symm
         subst hw
         have lm3 : m3 ≤ 1000000 := by have := len_val d3; have := k3.len; have := g3.len; omega)
      | (go_at_call 94
         (with_reducible refine (rlow_any s1 A1 A2 n1 n2 c1 c2 ys _ g2 d2 (by omega)).mono ?_)
         rintro e w5 ⟨B1, m2, e2, rfl, k2, b5⟩
         have lm2 : m2 ≤ 1000001 := by have := low_len ys d2; have := k2.len; have := g2.len; omega
         replace y1 := y1.below b5
         replace y2 := y2.below b5
         replace y3 := y3.below b5
         replace g1 := g1.below b5
         replace g2 := g2.below b5
         replace g3 := g3.below b5
         replace g4 := g4.below b5
         replace yu := bthen yu b5
         (try replace k1 := k1.below b5)
         (try replace k3 := k3.below b5)
         (try replace k4 := k4.below b5)
         (try replace j1 := j1.below b5)
         (try replace j2 := j2.below b5))
      | (go_at_call 94
         (with_reducible refine (rlow_any s1 A3 A4 n3 n4 c3 c4 ts _ g4 d4 (by omega)).mono ?_)
         rintro e w5 ⟨B2, m4, e4, rfl, k4, b5⟩
         have lm4 : m4 ≤ 1000001 := by have := low_len ts d4; have := k4.len; have := g4.len; omega
         replace y1 := y1.below b5
         replace y2 := y2.below b5
         replace y3 := y3.below b5
         replace g1 := g1.below b5
         replace g2 := g2.below b5
         replace g3 := g3.below b5
         replace g4 := g4.below b5
         replace yu := bthen yu b5
         (try replace k1 := k1.below b5)
         (try replace k2 := k2.below b5)
         (try replace k3 := k3.below b5)
         (try replace j1 := j1.below b5)
         (try replace j2 := j2.below b5))
      | (go_at_call 93
         (with_reducible refine (rtimes_any A1 B2 m1 m4 em1 e4 (val xs) (low (val ts)) _ k1 k4 (by omega) (by omega)).mono ?_)
         rintro e w5 ⟨R1, r1, q1, rfl, j1, ⟨b5, _⟩⟩
         have lr1 : r1 ≤ 2000001 := by have := len_mul (val xs) (low (val ts)); have := j1.len; have := k1.len; have := k4.len; omega
         replace y1 := y1.below b5
         replace y2 := y2.below b5
         replace y3 := y3.below b5
         replace g1 := g1.below b5
         replace g2 := g2.below b5
         replace g3 := g3.below b5
         replace g4 := g4.below b5
         replace yu := bthen yu b5
         (try replace k1 := k1.below b5)
         (try replace k2 := k2.below b5)
         (try replace k3 := k3.below b5)
         (try replace k4 := k4.below b5)
         (try replace j2 := j2.below b5))
      | (go_at_call 93
         (with_reducible refine (rtimes_any A3 B1 m3 m2 em3 e2 (val zs) (low (val ys)) _ k3 k2 (by omega) (by omega)).mono ?_)
         rintro e w5 ⟨R2, r2, q2, rfl, j2, ⟨b5, _⟩⟩
         have lr2 : r2 ≤ 2000001 := by have := len_mul (val zs) (low (val ys)); have := j2.len; have := k3.len; have := k2.len; omega
         replace y1 := y1.below b5
         replace y2 := y2.below b5
         replace y3 := y3.below b5
         replace g1 := g1.below b5
         replace g2 := g2.below b5
         replace g3 := g3.below b5
         replace g4 := g4.below b5
         replace yu := bthen yu b5
         (try replace k1 := k1.below b5)
         (try replace k2 := k2.below b5)
         (try replace k3 := k3.below b5)
         (try replace k4 := k4.below b5)
         (try replace j1 := j1.below b5))
      | (go_at_call 93
         (with_reducible refine (rtimes_any B1 B2 m2 m4 e2 e4 (low (val ys)) (low (val ts)) _ k2 k4 (by omega) (by omega)).mono ?_)
         rintro e w5 ⟨R3, r3, q3, rfl, j3, ⟨b5, _⟩⟩
         have lr3 : r3 ≤ 2000002 := by have := len_mul (low (val ys)) (low (val ts)); have := j3.len; have := k2.len; have := k4.len; omega
         replace y1 := y1.below b5
         replace y2 := y2.below b5
         replace y3 := y3.below b5
         replace g1 := g1.below b5
         replace g2 := g2.below b5
         replace g3 := g3.below b5
         replace g4 := g4.below b5
         replace yu := bthen yu b5
         (try replace k1 := k1.below b5)
         (try replace k2 := k2.below b5)
         (try replace k3 := k3.below b5)
         (try replace k4 := k4.below b5)
         (try replace j1 := j1.below b5)
         (try replace j2 := j2.below b5)))
  have x1 := y1
  have x2 := y2
  have x3 := y3
  have xb := yu
  clear y1 y2 y3 g1 g2 g3 g4 yu
  have p0 := x1.c0
  have p1 := x2.c0
  have y1 := x1.drew
  have y2 := x2.drew
  have y3 := x3.drew
  have g1 := j1.drew
  have g2 := j2.drew
  have g3 := j3.drew
  have yu := below_drew xb
  go_wp2_with fail
  go_region_held3 (fun w' => w'.cell? ⟨w.heap.size, 0, none⟩ = some (.bool s1) ∧ w'.cell? ⟨w.heap.size, 1, none⟩ = some (.slice A1 n1 c1) ∧ w'.cell? ⟨w.heap.size, 2, none⟩ = some (.slice A2 n2 c2) ∧ w'.cell? ⟨w.heap.size + 1, 0, none⟩ = some (.bool s1) ∧ w'.cell? ⟨w.heap.size + 1, 1, none⟩ = some (.slice A3 n3 c3) ∧ w'.cell? ⟨w.heap.size + 1, 2, none⟩ = some (.slice A4 n4 c4))
    (first | (with_reducible exact ⟨x1.c0, x1.c1, x1.c2, x2.c0, x2.c1, x2.c2⟩) | (with_reducible exact ⟨y1.c0, y1.c1, y1.c2, y2.c0, y2.c1, y2.c2⟩) | (with_reducible exact KF) | go_keep)
    (first
      | (go_at_call 102
         (with_reducible refine (rplus_any R1 R2 r1 r2 q1 q2 (val xs * low (val ts)) (val zs * low (val ys)) _ g1 g2 (by omega) (by omega)).mono ?_)
         rintro e w5 ⟨R4, r4, q4, rfl, k4, ⟨b5, _⟩⟩
         have lr4 : r4 ≤ 2000010 := by have := len_add (val xs * low (val ts)) (val zs * low (val ys)); have := k4.len; have := g1.len; have := g2.len; omega
         replace y1 := y1.below b5
         replace y2 := y2.below b5
         replace y3 := y3.below b5
         replace g3 := g3.below b5
         replace yu := bthen yu b5)
      | (go_at_call 81
         (with_reducible refine (make1_any s1 R4 R3 r4 r3 q4 q3 _ _ _ k4 g3 (ds_dig _) (ds_dig _) (by omega) (by omega)).mono ?_)
         rintro e w5 ⟨s9, A17, n17, c17, A18, n18, c18, rfl, f5, o17, o18, b5⟩
         rw [HQ.out] at f5 o17 o18
         have glt := y3.lt
         replace y1 := y1.below b5
         replace y2 := y2.below b5
         replace y3 := y3.below b5
         replace yu := bthen yu b5
         have G := Lib.hid (f5.ret o17 o18 (g := w.heap.size + 1 + 1) (by omega) glt yu)
         have my1 := y1.put (g' := w.heap.size + 1 + 1) (by omega) (.bool s9) (.slice A17 n17 c17) (.slice A18 n18 c18)
         have my2 := y2.put (g' := w.heap.size + 1 + 1) (by omega) (.bool s9) (.slice A17 n17 c17) (.slice A18 n18 c18)
         have KF := And.intro my1.c0 (And.intro my1.c1 (And.intro my1.c2 (And.intro my2.c0 (And.intro my2.c1 (my2.c2)))))
         unfold put3 at KF
         have t0 := y3.c0
         have t1 := y3.c1
         have t2 := y3.c2
         have v0 := y3.fz 0
         have v1 := y3.fz 1
         have v2 := y3.fz 2))
  go_wp2_with fail
  exact bodyPost_ret (v := .agg #[.bool s9, .slice A17 n17 c17, .slice A18 n18 c18]) (by simp [results, Tryd.results53, go_sem, t0, t1, t2]) rfl G.out

set_option maxHeartbeats 8000000 in
theorem rAdd_more (s1 : Bool) (A1 A2 : Option Addr) (n1 n2 c1 c2 : Nat) (s2 : Bool) (A3 A4 : Option Addr) (n3 n4 c3 c4 : Nat) (p q : Rat) (w : World) (_h1 : Rf w s1 A1 n1 c1 A2 n2 c2 p) (_h2 : Rf w s2 A3 n3 c3 A4 n4 c4 q) (l1 : n1 ≤ 1000000) (l2 : n2 ≤ 1000000) (l3 : n3 ≤ 1000000) (l4 : n4 ≤ 1000000) (hs : s1 ≠ s2) (hx : ∃ xs ys zs ts, Sl w A1 n1 c1 xs ∧ Sl w A2 n2 c2 ys ∧ Sl w A3 n3 c3 zs ∧ Sl w A4 n4 c4 ts ∧ Ds xs ∧ Ds ys ∧ Ds zs ∧ Ds ts ∧ p = fv s1 (val xs) (val ys) ∧ q = fv s2 (val zs) (val ts) ∧ val zs * low (val ys) ≤ val xs * low (val ts)) :
    Calls Tryd.prog 53 #[.agg #[.bool s1, .slice A1 n1 c1, .slice A2 n2 c2], .agg #[.bool s2, .slice A3 n3 c3, .slice A4 n4 c4]] w (FrPost (p + q) w) := by
  have hsf : (s1 == s2) = false := beq_eq_false_iff_ne.2 hs
  have HS := Lib.hid hs
  clear hs
  obtain ⟨xs, ys, zs, ts, hex⟩ := hx
  obtain ⟨h1, h2, h3, h4, d1, d2, d3, d4, hp, hq, hcmp⟩ := hex
  have HQ : Hid (fv s1 (val (dig (val xs * low (val ts) - val zs * low (val ys)))) (val (dig (low (val ys) * low (val ts)))) = p + q) := Lib.hid (by rw [val_dig, val_dig, fv_add_more _ _ _ _ _ _ HS.out hcmp, ← hp, ← hq])
  clear hp hq
  have HC := Lib.hid hcmp
  clear hcmp
  obtain ⟨u, HU, x1, x2, x3, xb⟩ := boxes3 w (.bool s1) (.slice A1 n1 c1) (.slice A2 n2 c2) (.bool s2) (.slice A3 n3 c3) (.slice A4 n4 c4) (.bool false) (.slice none 0 0) (.slice none 0 0) 24 24 24
  replace h1 := h1.below xb
  replace h2 := h2.below xb
  replace h3 := h3.below xb
  replace h4 := h4.below xb
  have y1 := x1.drew
  have y2 := x2.drew
  have y3 := x3.drew
  have g1 := h1.drew
  have g2 := h2.drew
  have g3 := h3.drew
  have g4 := h4.drew
  have yu := below_drew xb
  go_enter Tryd.func53, Tryd.ntmps53
  go_wp2_with fail
  rw [← HU.out]
  go_region_held3 (fun w' => w'.cell? ⟨w.heap.size, 0, none⟩ = some (.bool s1) ∧ w'.cell? ⟨w.heap.size, 1, none⟩ = some (.slice A1 n1 c1) ∧ w'.cell? ⟨w.heap.size, 2, none⟩ = some (.slice A2 n2 c2) ∧ w'.cell? ⟨w.heap.size + 1, 0, none⟩ = some (.bool s2) ∧ w'.cell? ⟨w.heap.size + 1, 1, none⟩ = some (.slice A3 n3 c3) ∧ w'.cell? ⟨w.heap.size + 1, 2, none⟩ = some (.slice A4 n4 c4))
    (first | (with_reducible exact ⟨x1.c0, x1.c1, x1.c2, x2.c0, x2.c1, x2.c2⟩) | (with_reducible exact ⟨y1.c0, y1.c1, y1.c2, y2.c0, y2.c1, y2.c2⟩) | go_keep)
    (first
      | (go_at_call 76
         (with_reducible refine (rtrim_any A1 c1 xs _ n1 g1 d1 (by omega)).mono ?_)
         rintro e w5 ⟨m1, em1, rfl, k1, hw⟩
         replace hw := hw.symm
         subst hw
         have lm1 : m1 ≤ 1000000 := by have := len_val d1; have := k1.len; have := g1.len; omega)
      | (go_at_call 76
         (with_reducible refine (rtrim_any A3 c3 zs _ n3 g3 d3 (by omega)).mono ?_)
         rintro e w5 ⟨m3, em3, rfl, k3, hw⟩
         replace hw := hw.symm
         subst hw
         have lm3 : m3 ≤ 1000000 := by have := len_val d3; have := k3.len; have := g3.len; omega)
      | (go_at_call 94
         (with_reducible refine (rlow_any s1 A1 A2 n1 n2 c1 c2 ys _ g2 d2 (by omega)).mono ?_)
         rintro e w5 ⟨B1, m2, e2, rfl, k2, b5⟩
         have lm2 : m2 ≤ 1000001 := by have := low_len ys d2; have := k2.len; have := g2.len; omega
         replace y1 := y1.below b5
         replace y2 := y2.below b5
         replace y3 := y3.below b5
         replace g1 := g1.below b5
         replace g2 := g2.below b5
         replace g3 := g3.below b5
         replace g4 := g4.below b5
         replace yu := bthen yu b5
         (try replace k1 := k1.below b5)
         (try replace k3 := k3.below b5)
         (try replace k4 := k4.below b5)
         (try replace j1 := j1.below b5)
         (try replace j2 := j2.below b5))
      | (go_at_call 94
         (with_reducible refine (rlow_any s2 A3 A4 n3 n4 c3 c4 ts _ g4 d4 (by omega)).mono ?_)
         rintro e w5 ⟨B2, m4, e4, rfl, k4, b5⟩
         have lm4 : m4 ≤ 1000001 := by have := low_len ts d4; have := k4.len; have := g4.len; omega
         replace y1 := y1.below b5
         replace y2 := y2.below b5
         replace y3 := y3.below b5
         replace g1 := g1.below b5
         replace g2 := g2.below b5
         replace g3 := g3.below b5
         replace g4 := g4.below b5
         replace yu := bthen yu b5
         (try replace k1 := k1.below b5)
         (try replace k2 := k2.below b5)
         (try replace k3 := k3.below b5)
         (try replace j1 := j1.below b5)
         (try replace j2 := j2.below b5))
      | (go_at_call 93
         (with_reducible refine (rtimes_any A1 B2 m1 m4 em1 e4 (val xs) (low (val ts)) _ k1 k4 (by omega) (by omega)).mono ?_)
         rintro e w5 ⟨R1, r1, q1, rfl, j1, ⟨b5, _⟩⟩
         have lr1 : r1 ≤ 2000001 := by have := len_mul (val xs) (low (val ts)); have := j1.len; have := k1.len; have := k4.len; omega
         replace y1 := y1.below b5
         replace y2 := y2.below b5
         replace y3 := y3.below b5
         replace g1 := g1.below b5
         replace g2 := g2.below b5
         replace g3 := g3.below b5
         replace g4 := g4.below b5
         replace yu := bthen yu b5
         (try replace k1 := k1.below b5)
         (try replace k2 := k2.below b5)
         (try replace k3 := k3.below b5)
         (try replace k4 := k4.below b5)
         (try replace j2 := j2.below b5))
      | (go_at_call 93
         (with_reducible refine (rtimes_any A3 B1 m3 m2 em3 e2 (val zs) (low (val ys)) _ k3 k2 (by omega) (by omega)).mono ?_)
         rintro e w5 ⟨R2, r2, q2, rfl, j2, ⟨b5, _⟩⟩
         have lr2 : r2 ≤ 2000001 := by have := len_mul (val zs) (low (val ys)); have := j2.len; have := k3.len; have := k2.len; omega
         replace y1 := y1.below b5
         replace y2 := y2.below b5
         replace y3 := y3.below b5
         replace g1 := g1.below b5
         replace g2 := g2.below b5
         replace g3 := g3.below b5
         replace g4 := g4.below b5
         replace yu := bthen yu b5
         (try replace k1 := k1.below b5)
         (try replace k2 := k2.below b5)
         (try replace k3 := k3.below b5)
         (try replace k4 := k4.below b5)
         (try replace j1 := j1.below b5))
      | (go_at_call 93
         (with_reducible refine (rtimes_any B1 B2 m2 m4 e2 e4 (low (val ys)) (low (val ts)) _ k2 k4 (by omega) (by omega)).mono ?_)
         rintro e w5 ⟨R3, r3, q3, rfl, j3, ⟨b5, _⟩⟩
         have lr3 : r3 ≤ 2000002 := by have := len_mul (low (val ys)) (low (val ts)); have := j3.len; have := k2.len; have := k4.len; omega
         replace y1 := y1.below b5
         replace y2 := y2.below b5
         replace y3 := y3.below b5
         replace g1 := g1.below b5
         replace g2 := g2.below b5
         replace g3 := g3.below b5
         replace g4 := g4.below b5
         replace yu := bthen yu b5
         (try replace k1 := k1.below b5)
         (try replace k2 := k2.below b5)
         (try replace k3 := k3.below b5)
         (try replace k4 := k4.below b5)
         (try replace j1 := j1.below b5)
         (try replace j2 := j2.below b5)))
  have x1 := y1
  have x2 := y2
  have x3 := y3
  have xb := yu
  clear y1 y2 y3 g1 g2 g3 g4 yu
  have p0 := x1.c0
  have p1 := x2.c0
  go_wp2_with fail
  refine (rorder_ge R1 R2 r1 r2 q1 q2 (val xs * low (val ts)) (val zs * low (val ys)) _ j1 j2 (by omega) (by omega) HC.out).mono ?_
  rintro e w6 ⟨kz, rfl, hkz, kk, hw⟩
  have b5 : Below w5.heap.size w5 w6 := by rw [hw]; exact below_drewN (Below.refl _ _) kk
  clear hw
  replace x1 := x1.below b5
  replace x2 := x2.below b5
  replace x3 := x3.below b5
  replace j1 := j1.below b5
  replace j2 := j2.below b5
  replace j3 := j3.below b5
  replace xb := bthen xb b5
  have p0 := x1.c0
  have p1 := x2.c0
  have y1 := x1.drew
  have y2 := x2.drew
  have y3 := x3.drew
  have g1 := j1.drew
  have g2 := j2.drew
  have g3 := j3.drew
  have yu := below_drew xb
  go_wp2_with fail
  go_region_held3 (fun w' => w'.cell? ⟨w.heap.size, 0, none⟩ = some (.bool s1) ∧ w'.cell? ⟨w.heap.size, 1, none⟩ = some (.slice A1 n1 c1) ∧ w'.cell? ⟨w.heap.size, 2, none⟩ = some (.slice A2 n2 c2) ∧ w'.cell? ⟨w.heap.size + 1, 0, none⟩ = some (.bool s2) ∧ w'.cell? ⟨w.heap.size + 1, 1, none⟩ = some (.slice A3 n3 c3) ∧ w'.cell? ⟨w.heap.size + 1, 2, none⟩ = some (.slice A4 n4 c4))
    (first | (with_reducible exact ⟨x1.c0, x1.c1, x1.c2, x2.c0, x2.c1, x2.c2⟩) | (with_reducible exact ⟨y1.c0, y1.c1, y1.c2, y2.c0, y2.c1, y2.c2⟩) | (with_reducible exact KF) | go_keep)
    (first
      | (go_at_call 107
         (with_reducible refine (rminus_any R1 R2 r1 r2 q1 q2 (val xs * low (val ts)) (val zs * low (val ys)) _ g1 g2 (by omega) (by omega) HC.out).mono ?_)
         rintro e w5 ⟨R4, r4, q4, rfl, k4, ⟨b5, _⟩⟩
         have lr4 : r4 ≤ 2000010 := by have := len_mono (Nat.sub_le (val xs * low (val ts)) (val zs * low (val ys))); have := k4.len; have := g1.len; omega
         replace y1 := y1.below b5
         replace y2 := y2.below b5
         replace y3 := y3.below b5
         replace g3 := g3.below b5
         replace yu := bthen yu b5)
      | (go_at_call 81
         (with_reducible refine (make1_any s1 R4 R3 r4 r3 q4 q3 _ _ _ k4 g3 (ds_dig _) (ds_dig _) (by omega) (by omega)).mono ?_)
         rintro e w5 ⟨s9, A17, n17, c17, A18, n18, c18, rfl, f5, o17, o18, b5⟩
         rw [HQ.out] at f5 o17 o18
         have glt := y3.lt
         replace y1 := y1.below b5
         replace y2 := y2.below b5
         replace y3 := y3.below b5
         replace yu := bthen yu b5
         have G := Lib.hid (f5.ret o17 o18 (g := w.heap.size + 1 + 1) (by omega) glt yu)
         have my1 := y1.put (g' := w.heap.size + 1 + 1) (by omega) (.bool s9) (.slice A17 n17 c17) (.slice A18 n18 c18)
         have my2 := y2.put (g' := w.heap.size + 1 + 1) (by omega) (.bool s9) (.slice A17 n17 c17) (.slice A18 n18 c18)
         have KF := And.intro my1.c0 (And.intro my1.c1 (And.intro my1.c2 (And.intro my2.c0 (And.intro my2.c1 (my2.c2)))))
         unfold put3 at KF
         have t0 := y3.c0
         have t1 := y3.c1
         have t2 := y3.c2
         have v0 := y3.fz 0
         have v1 := y3.fz 1
         have v2 := y3.fz 2))
  go_wp2_with fail
  exact bodyPost_ret (v := .agg #[.bool s9, .slice A17 n17 c17, .slice A18 n18 c18]) (by simp [results, Tryd.results53, go_sem, t0, t1, t2]) rfl G.out

set_option maxHeartbeats 8000000 in
theorem rAdd_less (s1 : Bool) (A1 A2 : Option Addr) (n1 n2 c1 c2 : Nat) (s2 : Bool) (A3 A4 : Option Addr) (n3 n4 c3 c4 : Nat) (p q : Rat) (w : World) (_h1 : Rf w s1 A1 n1 c1 A2 n2 c2 p) (_h2 : Rf w s2 A3 n3 c3 A4 n4 c4 q) (l1 : n1 ≤ 1000000) (l2 : n2 ≤ 1000000) (l3 : n3 ≤ 1000000) (l4 : n4 ≤ 1000000) (hs : s1 ≠ s2) (hx : ∃ xs ys zs ts, Sl w A1 n1 c1 xs ∧ Sl w A2 n2 c2 ys ∧ Sl w A3 n3 c3 zs ∧ Sl w A4 n4 c4 ts ∧ Ds xs ∧ Ds ys ∧ Ds zs ∧ Ds ts ∧ p = fv s1 (val xs) (val ys) ∧ q = fv s2 (val zs) (val ts) ∧ val xs * low (val ts) < val zs * low (val ys)) :
    Calls Tryd.prog 53 #[.agg #[.bool s1, .slice A1 n1 c1, .slice A2 n2 c2], .agg #[.bool s2, .slice A3 n3 c3, .slice A4 n4 c4]] w (FrPost (p + q) w) := by
  have hsf : (s1 == s2) = false := beq_eq_false_iff_ne.2 hs
  have HS := Lib.hid hs
  clear hs
  obtain ⟨xs, ys, zs, ts, hex⟩ := hx
  obtain ⟨h1, h2, h3, h4, d1, d2, d3, d4, hp, hq, hcmp⟩ := hex
  have HQ : Hid (fv s2 (val (dig (val zs * low (val ys) - (val xs * low (val ts))))) (val (dig (low (val ys) * low (val ts)))) = p + q) := Lib.hid (by rw [val_dig, val_dig, fv_add_less _ _ _ _ _ _ HS.out (Nat.le_of_lt hcmp), ← hp, ← hq])
  clear hp hq
  have HC := Lib.hid hcmp
  clear hcmp
  obtain ⟨u, HU, x1, x2, x3, xb⟩ := boxes3 w (.bool s1) (.slice A1 n1 c1) (.slice A2 n2 c2) (.bool s2) (.slice A3 n3 c3) (.slice A4 n4 c4) (.bool false) (.slice none 0 0) (.slice none 0 0) 24 24 24
  replace h1 := h1.below xb
  replace h2 := h2.below xb
  replace h3 := h3.below xb
  replace h4 := h4.below xb
  have y1 := x1.drew
  have y2 := x2.drew
  have y3 := x3.drew
  have g1 := h1.drew
  have g2 := h2.drew
  have g3 := h3.drew
  have g4 := h4.drew
  have yu := below_drew xb
  go_enter Tryd.func53, Tryd.ntmps53
  go_wp2_with fail
  rw [← HU.out]
  go_region_held3 (fun w' => w'.cell? ⟨w.heap.size, 0, none⟩ = some (.bool s1) ∧ w'.cell? ⟨w.heap.size, 1, none⟩ = some (.slice A1 n1 c1) ∧ w'.cell? ⟨w.heap.size, 2, none⟩ = some (.slice A2 n2 c2) ∧ w'.cell? ⟨w.heap.size + 1, 0, none⟩ = some (.bool s2) ∧ w'.cell? ⟨w.heap.size + 1, 1, none⟩ = some (.slice A3 n3 c3) ∧ w'.cell? ⟨w.heap.size + 1, 2, none⟩ = some (.slice A4 n4 c4))
    (first | (with_reducible exact ⟨x1.c0, x1.c1, x1.c2, x2.c0, x2.c1, x2.c2⟩) | (with_reducible exact ⟨y1.c0, y1.c1, y1.c2, y2.c0, y2.c1, y2.c2⟩) | go_keep)
    (first
      | (go_at_call 76
         (with_reducible refine (rtrim_any A1 c1 xs _ n1 g1 d1 (by omega)).mono ?_)
         rintro e w5 ⟨m1, em1, rfl, k1, hw⟩
         replace hw := hw.symm
         subst hw
         have lm1 : m1 ≤ 1000000 := by have := len_val d1; have := k1.len; have := g1.len; omega)
      | (go_at_call 76
         (with_reducible refine (rtrim_any A3 c3 zs _ n3 g3 d3 (by omega)).mono ?_)
         rintro e w5 ⟨m3, em3, rfl, k3, hw⟩
         replace hw := hw.symm
         subst hw
         have lm3 : m3 ≤ 1000000 := by have := len_val d3; have := k3.len; have := g3.len; omega)
      | (go_at_call 94
         (with_reducible refine (rlow_any s1 A1 A2 n1 n2 c1 c2 ys _ g2 d2 (by omega)).mono ?_)
         rintro e w5 ⟨B1, m2, e2, rfl, k2, b5⟩
         have lm2 : m2 ≤ 1000001 := by have := low_len ys d2; have := k2.len; have := g2.len; omega
         replace y1 := y1.below b5
         replace y2 := y2.below b5
         replace y3 := y3.below b5
         replace g1 := g1.below b5
         replace g2 := g2.below b5
         replace g3 := g3.below b5
         replace g4 := g4.below b5
         replace yu := bthen yu b5
         (try replace k1 := k1.below b5)
         (try replace k3 := k3.below b5)
         (try replace k4 := k4.below b5)
         (try replace j1 := j1.below b5)
         (try replace j2 := j2.below b5))
      | (go_at_call 94
         (with_reducible refine (rlow_any s2 A3 A4 n3 n4 c3 c4 ts _ g4 d4 (by omega)).mono ?_)
         rintro e w5 ⟨B2, m4, e4, rfl, k4, b5⟩
         have lm4 : m4 ≤ 1000001 := by have := low_len ts d4; have := k4.len; have := g4.len; omega
         replace y1 := y1.below b5
         replace y2 := y2.below b5
         replace y3 := y3.below b5
         replace g1 := g1.below b5
         replace g2 := g2.below b5
         replace g3 := g3.below b5
         replace g4 := g4.below b5
         replace yu := bthen yu b5
         (try replace k1 := k1.below b5)
         (try replace k2 := k2.below b5)
         (try replace k3 := k3.below b5)
         (try replace j1 := j1.below b5)
         (try replace j2 := j2.below b5))
      | (go_at_call 93
         (with_reducible refine (rtimes_any A1 B2 m1 m4 em1 e4 (val xs) (low (val ts)) _ k1 k4 (by omega) (by omega)).mono ?_)
         rintro e w5 ⟨R1, r1, q1, rfl, j1, ⟨b5, _⟩⟩
         have lr1 : r1 ≤ 2000001 := by have := len_mul (val xs) (low (val ts)); have := j1.len; have := k1.len; have := k4.len; omega
         replace y1 := y1.below b5
         replace y2 := y2.below b5
         replace y3 := y3.below b5
         replace g1 := g1.below b5
         replace g2 := g2.below b5
         replace g3 := g3.below b5
         replace g4 := g4.below b5
         replace yu := bthen yu b5
         (try replace k1 := k1.below b5)
         (try replace k2 := k2.below b5)
         (try replace k3 := k3.below b5)
         (try replace k4 := k4.below b5)
         (try replace j2 := j2.below b5))
      | (go_at_call 93
         (with_reducible refine (rtimes_any A3 B1 m3 m2 em3 e2 (val zs) (low (val ys)) _ k3 k2 (by omega) (by omega)).mono ?_)
         rintro e w5 ⟨R2, r2, q2, rfl, j2, ⟨b5, _⟩⟩
         have lr2 : r2 ≤ 2000001 := by have := len_mul (val zs) (low (val ys)); have := j2.len; have := k3.len; have := k2.len; omega
         replace y1 := y1.below b5
         replace y2 := y2.below b5
         replace y3 := y3.below b5
         replace g1 := g1.below b5
         replace g2 := g2.below b5
         replace g3 := g3.below b5
         replace g4 := g4.below b5
         replace yu := bthen yu b5
         (try replace k1 := k1.below b5)
         (try replace k2 := k2.below b5)
         (try replace k3 := k3.below b5)
         (try replace k4 := k4.below b5)
         (try replace j1 := j1.below b5))
      | (go_at_call 93
         (with_reducible refine (rtimes_any B1 B2 m2 m4 e2 e4 (low (val ys)) (low (val ts)) _ k2 k4 (by omega) (by omega)).mono ?_)
         rintro e w5 ⟨R3, r3, q3, rfl, j3, ⟨b5, _⟩⟩
         have lr3 : r3 ≤ 2000002 := by have := len_mul (low (val ys)) (low (val ts)); have := j3.len; have := k2.len; have := k4.len; omega
         replace y1 := y1.below b5
         replace y2 := y2.below b5
         replace y3 := y3.below b5
         replace g1 := g1.below b5
         replace g2 := g2.below b5
         replace g3 := g3.below b5
         replace g4 := g4.below b5
         replace yu := bthen yu b5
         (try replace k1 := k1.below b5)
         (try replace k2 := k2.below b5)
         (try replace k3 := k3.below b5)
         (try replace k4 := k4.below b5)
         (try replace j1 := j1.below b5)
         (try replace j2 := j2.below b5)))
  have x1 := y1
  have x2 := y2
  have x3 := y3
  have xb := yu
  clear y1 y2 y3 g1 g2 g3 g4 yu
  have p0 := x1.c0
  have p1 := x2.c0
  go_wp2_with fail
  refine (rorder_lt R1 R2 r1 r2 q1 q2 (val xs * low (val ts)) (val zs * low (val ys)) _ j1 j2 (by omega) (by omega) HC.out).mono ?_
  rintro e w6 ⟨rfl, kk, hw⟩
  have b5 : Below w5.heap.size w5 w6 := by rw [hw]; exact below_drewN (Below.refl _ _) kk
  clear hw
  replace x1 := x1.below b5
  replace x2 := x2.below b5
  replace x3 := x3.below b5
  replace j1 := j1.below b5
  replace j2 := j2.below b5
  replace j3 := j3.below b5
  replace xb := bthen xb b5
  have p0 := x1.c0
  have p1 := x2.c0
  have y1 := x1.drew
  have y2 := x2.drew
  have y3 := x3.drew
  have g1 := j1.drew
  have g2 := j2.drew
  have g3 := j3.drew
  have yu := below_drew xb
  go_wp2_with fail
  go_region_held3 (fun w' => w'.cell? ⟨w.heap.size, 0, none⟩ = some (.bool s1) ∧ w'.cell? ⟨w.heap.size, 1, none⟩ = some (.slice A1 n1 c1) ∧ w'.cell? ⟨w.heap.size, 2, none⟩ = some (.slice A2 n2 c2) ∧ w'.cell? ⟨w.heap.size + 1, 0, none⟩ = some (.bool s2) ∧ w'.cell? ⟨w.heap.size + 1, 1, none⟩ = some (.slice A3 n3 c3) ∧ w'.cell? ⟨w.heap.size + 1, 2, none⟩ = some (.slice A4 n4 c4))
    (first | (with_reducible exact ⟨x1.c0, x1.c1, x1.c2, x2.c0, x2.c1, x2.c2⟩) | (with_reducible exact ⟨y1.c0, y1.c1, y1.c2, y2.c0, y2.c1, y2.c2⟩) | (with_reducible exact KF) | go_keep)
    (first
      | (go_at_call 107
         (with_reducible refine (rminus_any R2 R1 r2 r1 q2 q1 (val zs * low (val ys)) (val xs * low (val ts)) _ g2 g1 (by omega) (by omega) (Nat.le_of_lt HC.out)).mono ?_)
         rintro e w5 ⟨R4, r4, q4, rfl, k4, ⟨b5, _⟩⟩
         have lr4 : r4 ≤ 2000010 := by have := len_mono (Nat.sub_le (val zs * low (val ys)) (val xs * low (val ts))); have := k4.len; have := g2.len; omega
         replace y1 := y1.below b5
         replace y2 := y2.below b5
         replace y3 := y3.below b5
         replace g3 := g3.below b5
         replace yu := bthen yu b5)
      | (go_at_call 81
         (with_reducible refine (make1_any s2 R4 R3 r4 r3 q4 q3 _ _ _ k4 g3 (ds_dig _) (ds_dig _) (by omega) (by omega)).mono ?_)
         rintro e w5 ⟨s9, A17, n17, c17, A18, n18, c18, rfl, f5, o17, o18, b5⟩
         rw [HQ.out] at f5 o17 o18
         have glt := y3.lt
         replace y1 := y1.below b5
         replace y2 := y2.below b5
         replace y3 := y3.below b5
         replace yu := bthen yu b5
         have G := Lib.hid (f5.ret o17 o18 (g := w.heap.size + 1 + 1) (by omega) glt yu)
         have my1 := y1.put (g' := w.heap.size + 1 + 1) (by omega) (.bool s9) (.slice A17 n17 c17) (.slice A18 n18 c18)
         have my2 := y2.put (g' := w.heap.size + 1 + 1) (by omega) (.bool s9) (.slice A17 n17 c17) (.slice A18 n18 c18)
         have KF := And.intro my1.c0 (And.intro my1.c1 (And.intro my1.c2 (And.intro my2.c0 (And.intro my2.c1 (my2.c2)))))
         unfold put3 at KF
         have t0 := y3.c0
         have t1 := y3.c1
         have t2 := y3.c2
         have v0 := y3.fz 0
         have v1 := y3.fz 1
         have v2 := y3.fz 2))
  go_wp2_with fail
  exact bodyPost_ret (v := .agg #[.bool s9, .slice A17 n17 c17, .slice A18 n18 c18]) (by simp [results, Tryd.results53, go_sem, t0, t1, t2]) rfl G.out
theorem rAdd_any (s1 : Bool) (A1 A2 : Option Addr) (n1 n2 c1 c2 : Nat) (s2 : Bool) (A3 A4 : Option Addr) (n3 n4 c3 c4 : Nat) (p q : Rat) (w : World) (h1 : Rf w s1 A1 n1 c1 A2 n2 c2 p) (h2 : Rf w s2 A3 n3 c3 A4 n4 c4 q) (l1 : n1 ≤ 1000000) (l2 : n2 ≤ 1000000) (l3 : n3 ≤ 1000000) (l4 : n4 ≤ 1000000) :
    Calls Tryd.prog 53 #[.agg #[.bool s1, .slice A1 n1 c1, .slice A2 n2 c2], .agg #[.bool s2, .slice A3 n3 c3, .slice A4 n4 c4]] w (FrPost (p + q) w) := by
  by_cases hs : s1 = s2
  · exact rAdd_same s1 A1 A2 n1 n2 c1 c2 s2 A3 A4 n3 n4 c3 c4 p q w h1 h2 l1 l2 l3 l4 hs
  · obtain ⟨xs, ys, a1, a2, d1, d2, hp⟩ := id h1
    obtain ⟨zs, ts, a3, a4, d3, d4, hq⟩ := id h2
    by_cases hc : val zs * low (val ys) ≤ val xs * low (val ts)
    · exact rAdd_more s1 A1 A2 n1 n2 c1 c2 s2 A3 A4 n3 n4 c3 c4 p q w h1 h2 l1 l2 l3 l4 hs ⟨xs, ys, zs, ts, a1, a2, a3, a4, d1, d2, d3, d4, hp, hq, hc⟩
    · exact rAdd_less s1 A1 A2 n1 n2 c1 c2 s2 A3 A4 n3 n4 c3 c4 p q w h1 h2 l1 l2 l3 l4 hs ⟨xs, ys, zs, ts, a1, a2, a3, a4, d1, d2, d3, d4, hp, hq, by omega⟩

set_option maxHeartbeats 4000000 in
theorem rSub_any (s1 : Bool) (A1 A2 : Option Addr) (n1 n2 c1 c2 : Nat) (s2 : Bool) (A3 A4 : Option Addr) (n3 n4 c3 c4 : Nat) (p q : Rat) (w : World) (h1 : Rf w s1 A1 n1 c1 A2 n2 c2 p) (h2 : Rf w s2 A3 n3 c3 A4 n4 c4 q) (l1 : n1 ≤ 100000) (l2 : n2 ≤ 100000) (l3 : n3 ≤ 100000) (l4 : n4 ≤ 100000) :
    Calls Tryd.prog 27 #[.agg #[.bool s1, .slice A1 n1 c1, .slice A2 n2 c2], .agg #[.bool s2, .slice A3 n3 c3, .slice A4 n4 c4]] w (FrPost (p - q) w) := by
  have HQ : Hid (p + -q = p - q) := Lib.hid (by grind)
  have e2 := h2.len
  have HL : Hid (ln (-q) ≤ 100001 ∧ ld (-q) ≤ 100001) := Lib.hid (by have := ln_neg q; omega)
  obtain ⟨u, HU, x1, x2, x3, xb⟩ := boxes3 w (.bool s1) (.slice A1 n1 c1) (.slice A2 n2 c2) (.bool s2) (.slice A3 n3 c3) (.slice A4 n4 c4) (.bool false) (.slice none 0 0) (.slice none 0 0) 24 24 24
  replace h1 := h1.below xb
  replace h2 := h2.below xb
  have y1 := x1.drew
  have y2 := x2.drew
  have y3 := x3.drew
  have g1 := h1.drew
  have g2 := h2.drew
  have yu := below_drew xb
  clear e2
  go_enter Tryd.func27, Tryd.ntmps27
  go_wp2_with fail
  rw [← HU.out]
  go_region_held3 (fun w' => w'.cell? ⟨w.heap.size, 0, none⟩ = some (.bool s1) ∧ w'.cell? ⟨w.heap.size, 1, none⟩ = some (.slice A1 n1 c1) ∧ w'.cell? ⟨w.heap.size, 2, none⟩ = some (.slice A2 n2 c2) ∧ w'.cell? ⟨w.heap.size + 1, 0, none⟩ = some (.bool s2) ∧ w'.cell? ⟨w.heap.size + 1, 1, none⟩ = some (.slice A3 n3 c3) ∧ w'.cell? ⟨w.heap.size + 1, 2, none⟩ = some (.slice A4 n4 c4))
    (first | (with_reducible exact ⟨x1.c0, x1.c1, x1.c2, x2.c0, x2.c1, x2.c2⟩) | (with_reducible exact ⟨y1.c0, y1.c1, y1.c2, y2.c0, y2.c1, y2.c2⟩) | (with_reducible exact KF) | go_keep)
    (first
      | (go_at_call 56
         (with_reducible refine (rNeg_any s2 A3 A4 n3 n4 c3 c4 q _ g2 (by omega) (by omega)).mono ?_)
         rintro e w5 ⟨s4, A7, n7, c7, A8, n8, c8, rfl, f4, _, _, b5⟩
         replace y1 := y1.below b5
         replace y2 := y2.below b5
         replace y3 := y3.below b5
         replace g1 := g1.below b5
         replace g2 := g2.below b5
         replace yu := bthen yu b5
         have hn7 : n7 ≤ 100001 := by have := f4.lens; have := HL.out; omega
         have hn8 : n8 ≤ 100001 := by have := f4.lens; have := HL.out; omega)
      | (go_at_call 53
         (with_reducible refine (rAdd_any s1 A1 A2 n1 n2 c1 c2 s4 A7 A8 n7 n8 c7 c8 p (-q) _ g1 f4.rf (by omega) (by omega) (by omega) (by omega)).mono ?_)
         rintro e w5 ⟨s9, A17, n17, c17, A18, n18, c18, rfl, f5, o17, o18, b5⟩
         rw [HQ.out] at f5 o17 o18
         have glt := y3.lt
         replace y1 := y1.below b5
         replace y2 := y2.below b5
         replace y3 := y3.below b5
         replace yu := bthen yu b5
         have G := Lib.hid (f5.ret o17 o18 (g := w.heap.size + 1 + 1) (by omega) glt yu)
         have my1 := y1.put (g' := w.heap.size + 1 + 1) (by omega) (.bool s9) (.slice A17 n17 c17) (.slice A18 n18 c18)
         have my2 := y2.put (g' := w.heap.size + 1 + 1) (by omega) (.bool s9) (.slice A17 n17 c17) (.slice A18 n18 c18)
         have KF := And.intro my1.c0 (And.intro my1.c1 (And.intro my1.c2 (And.intro my2.c0 (And.intro my2.c1 (my2.c2)))))
         unfold put3 at KF
         have t0 := y3.c0
         have t1 := y3.c1
         have t2 := y3.c2
         have v0 := y3.fz 0
         have v1 := y3.fz 1
         have v2 := y3.fz 2))
  go_wp2_with fail
  exact bodyPost_ret (v := .agg #[.bool s9, .slice A17 n17 c17, .slice A18 n18 c18]) (by simp [results, Tryd.results27, go_sem, t0, t1, t2]) rfl G.out

set_option maxHeartbeats 4000000 in
theorem rCmp_any (s1 : Bool) (A1 A2 : Option Addr) (n1 n2 c1 c2 : Nat) (s2 : Bool) (A3 A4 : Option Addr) (n3 n4 c3 c4 : Nat) (p q : Rat) (w : World) (h1 : Rf w s1 A1 n1 c1 A2 n2 c2 p) (h2 : Rf w s2 A3 n3 c3 A4 n4 c4 q) (l1 : n1 ≤ 10000) (l2 : n2 ≤ 10000) (l3 : n3 ≤ 10000) (l4 : n4 ≤ 10000) :
    Calls Tryd.prog 29 #[.agg #[.bool s1, .slice A1 n1 c1, .slice A2 n2 c2], .agg #[.bool s2, .slice A3 n3 c3, .slice A4 n4 c4]] w (ValPost (.int .i64 (sgn (p - q))) w) := by
  have e1 := h1.len
  have e2 := h2.len
  have HL : Hid (ln (p - q) ≤ 100001 ∧ ld (p - q) ≤ 100001) := Lib.hid (by rw [show p - q = p + -q from by grind]; have := ln_add p (-q); have := ln_neg q; omega)
  obtain ⟨u, HU, x1, x2, xb⟩ := boxes2 w (.bool s1) (.slice A1 n1 c1) (.slice A2 n2 c2) (.bool s2) (.slice A3 n3 c3) (.slice A4 n4 c4) 24 24
  replace h1 := h1.below xb
  replace h2 := h2.below xb
  have p0 := x1.c0
  have p1 := x1.c1
  have p2 := x1.c2
  have q0 := x2.c0
  have q1 := x2.c1
  have q2 := x2.c2
  rw [HU.out] at p0 p1 p2 q0 q1 q2
  clear e1 e2
  go_enter Tryd.func29, Tryd.ntmps29
  go_wp2_with fail
  rw [← HU.out]
  refine (rSub_any s1 A1 A2 n1 n2 c1 c2 s2 A3 A4 n3 n4 c3 c4 p q _ h1 h2 (by omega) (by omega) (by omega) (by omega)).mono ?_
  rintro e w1 ⟨s4, A7, n7, c7, A8, n8, c8, rfl, f4, _, _, b1⟩
  have hn7 : n7 ≤ 100001 := by have := f4.lens; have := HL.out; omega
  have hn8 : n8 ≤ 100001 := by have := f4.lens; have := HL.out; omega
  go_wp2_with fail
  refine (rSign_any s4 A7 A8 n7 n8 c7 c8 _ _ f4.rf (by omega) (by omega)).mono ?_
  rintro e w2 ⟨rfl, b2⟩
  go_wp2_with fail
  go_ret
  exact ⟨rfl, bthen (bthen xb b1) b2⟩
end Go.Proofs.YtaahbabdbopphaaDoor
