/- The specification: digits, Text. -/
import Derived.Test.YtaahbabdbopphaaDoorPW
import Derived.Laws.IdiomStrings
namespace Go.Proofs.YtaahbabdbopphaaDoor
open Go.RowKit Mx
set_option maxRecDepth 100000

theorem ten_new (w : World) : Sl (w.alloc (.cells #[.int .u32 10] 57)) (some ⟨w.heap.size, 0, none⟩) 1 1 (dig 10) := by
  refine Sl.of_own (base := w.heap.size) (e := 57) ?_
  have e : u32s (dig 10) = (#[Value.int .u32 10] : Array Value).toList := by rw [dig_pos (by decide), show 10 / 4294967296 = 0 from rfl, dig_zero]; rfl
  rw [e]
  exact World.ownsRow_lit (e := 57) (size := 1) (base := w.heap.size) w #[.int .u32 10] 1 (Nat.le_refl _) (by simp [maxLen]) rfl
theorem conv_one (W : World) (b : UInt8) (z : Int) (hz : z = (b.toNat : Int)) :
    (convert 109 9 (.slice (some ⟨W.heap.size, 0, none⟩) 1 1)).run Tryd.prog (W.alloc (.cells #[.int .u8 z] 5)) = .ok (.string (bs [b])) (W.alloc (.cells #[.int .u8 z] 5)) := by
  subst hz
  refine run_convert_bytes_back (P := Tryd.prog) _ 109 9 5 ⟨W.heap.size, 0, none⟩ 1 [b] Tryd.underlying109 Tryd.underlying5 Tryd.underlying9 (fun j hj => ?_)
  have hj : j = 0 := by simp at hj; exact hj
  subst hj
  rw [show (⟨W.heap.size, 0, none⟩ : Addr).add 0 = ⟨W.heap.size, 0, none⟩ from rfl, World.cell?_alloc_mark]
  rfl
theorem rest_ten {m : Nat} (h : m ≠ 0) : rest m = rest (m / 10) ++ [UInt8.ofNat (48 + m % 10)] := by
  unfold rest
  rw [if_neg h]
  by_cases h1 : m < 10
  · rw [if_pos (by omega), dd1 h1, Nat.mod_eq_of_lt h1]; rfl
  · rw [if_neg (by omega), dd2 h1]
set_option maxHeartbeats 4000000 in
theorem digits_any (A1 : Option Addr) (n1 c1 a : Nat) (w : World) (h1 : Sl w A1 n1 c1 (dig a)) (hl1 : n1 ≤ 100000) :
    Calls Tryd.prog 91 #[.slice A1 n1 c1] w (ValPost (.string (bs (Lib.decDigits a))) w) := by
  by_cases h0 : a = 0
  · have HB : Hid (bs (Lib.decDigits a) = ⟨#[48]⟩) := Lib.hid (by rw [h0, dd1 (by decide)]; rfl)
    have hn : n1 = 0 := by rw [← h1.len, h0, dig_zero]; rfl
    rw [HB.out]
    subst hn
    clear h0
    go_enter Tryd.func91, Tryd.ntmps91
    go_wp2_with fail
    refine (rtrim_dig A1 0 c1 a _ h1 (by omega)).mono ?_
    rintro e w1 ⟨m1, d1, rfl, k1, hw⟩
    replace hw := hw.symm
    subst hw
    have hm := h1.len.symm.trans k1.len
    subst hm
    go_wp2_with fail
    go_ret
    exact ⟨rfl, Below.refl _ _⟩
  · have hn0 : 0 < n1 := by rw [← h1.len]; exact len_dig_pos.2 h0
    have hn0' : ((n1 : Int) == 0) = false := beq_eq_false_iff_ne.2 (by omega)
    have H0 := Lib.hid h0
    clear h0
    go_enter Tryd.func91, Tryd.ntmps91
    go_wp2_with fail
    refine (rtrim_dig A1 n1 c1 a _ h1 (by omega)).mono ?_
    rintro e w1 ⟨m1, d1, rfl, k1, hw⟩
    replace hw := hw.symm
    subst hw
    have hm := h1.len.symm.trans k1.len
    subst hm
    go_wp2_with fail
    go_loopg [0, 3] a (fun k sa st wr => ∃ (A : Option Addr) (n c : Nat) (l : List UInt8) (S : ByteArray), sa = .slice A n c ∧ st = .string S ∧ Hid (S = bs l) ∧ Sl wr A n c (dig k) ∧ n ≤ 100000 ∧ Hid (rest k ++ l = Lib.decDigits a) ∧ Below w.heap.size w wr)
    case atStart => exact ⟨A1, n1, d1, [], ⟨#[]⟩, rfl, rfl, rfl, k1, hl1, Lib.hid (by unfold rest; rw [if_neg H0.out, List.append_nil]), Below.refl _ _⟩
    case round =>
      obtain ⟨A, n, c, l, S, rfl, rfl, HSS, hs, hn, HL, hb⟩ := hrel
      by_cases hk : gk = 0
      · have hn : n = 0 := by rw [← hs.len]; exact len_dig_zero.2 hk
        have HE : Hid (l = Lib.decDigits a) := Lib.hid (by rw [← HL.out, hk]; rfl)
        subst hn
        clear hk
        go_wp2_with fail
        go_ret
        exact ⟨by rw [← HE.out, ← HSS.out]; rfl, hb⟩
      · have hn2 : 0 < n := by rw [← hs.len]; exact len_dig_pos.2 hk
        have HK := Lib.hid hk
        have hs1 := hs.alloc (.cells #[.int .u32 10] 57)
        have ht1 := ten_new wr
        have hb1 := below_alloc hb (.cells #[.int .u32 10] 57)
        clear hk
        go_wp2_with fail
        refine (rdivide_any A (some ⟨wr.heap.size, 0, none⟩) n 1 c 1 gk 10 _ hs1 ht1 (by omega) (by omega) (by decide)).mono ?_
        rintro e w3 ⟨A5, n5, c5, A6, n6, c6, rfl, k5, k6, b5⟩
        have hn5 : n5 ≤ 100000 := by rw [← k5.len]; have := len_mono (Nat.div_le_self gk 10); rw [hs.len] at this; omega
        replace hb1 := bthen hb1 b5
        obtain ⟨d, hd⟩ : ∃ d, Hid (d = gk % 10) := ⟨_, rfl⟩
        rw [← hd.out] at k6
        have hd9 : d ≤ 9 := by rw [hd.out]; omega
        have HLN : Hid (rest (gk / 10) ++ (UInt8.ofNat (48 + d) :: l) = Lib.decDigits a) := Lib.hid (by rw [← HL.out, rest_ten HK.out, ← hd.out, List.append_assoc]; rfl)
        have HSZ : Hid (l.length + 1 ≤ 10 * 100000) := Lib.hid (by
          have e1 := congrArg List.length HLN.out
          rw [List.length_append, List.length_cons] at e1
          have e2 := dec_len (Nat.le_of_eq h1.len) hn0
          omega)
        have hlt : gk / 10 < gk := by have := HK.out; omega
        have hsz1 : S.size ≤ 1000000 := by rw [HSS.out, bs_size]; have := HSZ.out; omega
        obtain ⟨D, HD⟩ : ∃ D, Hid (D = bs [UInt8.ofNat (48 + d)]) := ⟨_, rfl⟩
        have hsz2 : D.size ≤ 1 := by rw [HD.out, bs_size]; exact Nat.le_refl _
        have HAD : Hid (D ++ S = bs (UInt8.ofNat (48 + d) :: l)) := Lib.hid (by rw [HD.out, HSS.out, bs_add]; rfl)
        have hb6 := fun z => below_alloc hb1 (.cells #[.int .u8 z] 5)
        have hk5 := fun z => k5.alloc (.cells #[.int .u8 z] 5)
        by_cases hd0 : d = 0
        · have hn6 : n6 = 0 := by rw [← k6.len]; exact len_dig_zero.2 hd0
          subst hn6
          subst hd0
          have hcv := conv_one w3 (UInt8.ofNat (48 + 0)) 48 (by rfl)
          rw [← HD.out] at hcv
          go_wp2_with fail
          go_roundg (gk / 10)
          case measure => exact hlt
          case rel => exact ⟨_, _, _, _, _, rfl, rfl, HAD, hk5 _, hn5, HLN, hb6 _⟩
        · obtain ⟨ad, rfl, hc⟩ := k6.at_ (k := 0) (by have := k6.len; have := len_dig_pos.2 hd0; omega)
          rw [dig_get0, Nat.mod_eq_of_lt (by omega), show ad.add 0 = ad from rfl] at hc
          have hn6 : 0 < n6 := by have := k6.len; have := len_dig_pos.2 hd0; omega
          have hcv := conv_one w3 (UInt8.ofNat (48 + d)) (48 + (d : Int)) (by rw [UInt8.toNat_ofNat']; omega)
          rw [← HD.out] at hcv
          go_wp2_with fail
          go_roundg (gk / 10)
          case measure => exact hlt
          case rel => exact ⟨_, _, _, _, _, rfl, rfl, HAD, hk5 _, hn5, HLN, hb6 _⟩

set_option maxHeartbeats 4000000 in
theorem rText_a (s1 : Bool) (A1 A2 : Option Addr) (n1 n2 c1 c2 : Nat) (q : Rat) (w : World) (h : Rf w s1 A1 n1 c1 A2 n2 c2 q) (hl1 : n1 ≤ 10000) (hl2 : n2 ≤ 10000) (hs : rneg q = false) (hd : rd q = 1) :
    Calls Tryd.prog 33 #[.agg #[.bool s1, .slice A1 n1 c1, .slice A2 n2 c2]] w (ValPost (.string (bs (txt q))) w) := by
  have hln := h.len
  have HL : Hid (ln q ≤ 10000 ∧ ld q ≤ 10001) := Lib.hid (by omega)
  have HRD : Hid (rD q = 0) := Lib.hid (by rw [rD_of, if_pos hd])
  obtain ⟨D1, hD1⟩ : ∃ D, Hid (D = bs (Lib.decDigits (rn q))) := ⟨_, rfl⟩
  obtain ⟨D2, hD2⟩ : ∃ D, Hid (D = bs (Lib.decDigits (rd q))) := ⟨_, rfl⟩
  have z1 : D1.size ≤ 10000010 := by rw [hD1.out]; exact txt_size (n := 10000) (by unfold ln at hln; omega) (by omega)
  have z2 : D2.size ≤ 10000010 := by rw [hD2.out]; exact txt_size (n := 10001) (by unfold ld at hln; omega) (by omega)
  obtain ⟨E1, hE1⟩ : ∃ E : ByteArray, Hid (E = D1) := ⟨_, rfl⟩
  have z3 : E1.size ≤ 10000020 := by rw [hE1.out]; omega
  obtain ⟨E2, hE2⟩ : ∃ E : ByteArray, Hid (E = E1 ++ (⟨#[47]⟩ : ByteArray)) := ⟨_, rfl⟩
  have z4 : E2.size ≤ 10000030 := by rw [hE2.out, ByteArray.size_append, show (⟨#[47]⟩ : ByteArray).size = 1 from rfl]; omega
  have HT : Hid (bs (txt q) = E1) := Lib.hid (by
    rw [hE1.out, hD1.out]
    unfold txt
    rw [hs, if_pos hd]
    simp [bs])
  rw [HT.out]
  obtain ⟨u, HU, x1, xb⟩ := boxes1 w (.bool s1) (.slice A1 n1 c1) (.slice A2 n2 c2) 24
  replace h := h.below xb
  have p0 := x1.c0
  have p1 := x1.c1
  have p2 := x1.c2
  rw [HU.out] at p0 p1 p2
  have HS := Lib.hid hs
  have HD := Lib.hid hd
  clear hln hs hd
  go_enter Tryd.func33, Tryd.ntmps33
  go_wp2_with fail
  rw [← HU.out]
  refine (rCanon_any s1 A1 A2 n1 n2 c1 c2 q _ h (by omega) (by omega)).mono ?_
  rintro e w1 ⟨s2, A3, n3, c3, A4, n4, c4, rfl, f2, _, _, b5⟩
  have hn3 : n3 ≤ 10000 := by have := f2.lens; have := HL.out; omega
  have hn4 : n4 ≤ 10001 := by have := f2.lens; have := HL.out; omega
  have hsb := f2.neg
  rw [HS.out] at hsb
  subst hsb
  replace x1 := x1.below b5
  replace xb := bthen xb b5
  have t0 := x1.c0
  have t1 := x1.c1
  have t2 := x1.c2
  have v0 := x1.fz 0
  have v1 := x1.fz 1
  have v2 := x1.fz 2
  obtain ⟨V, HV⟩ : ∃ V, Hid (V = put3 w1 w.heap.size (.bool false) (.slice A3 n3 c3) (.slice A4 n4 c4)) := ⟨_, rfl⟩
  have X1 : Bk V w.heap.size (.bool false) (.slice A3 n3 c3) (.slice A4 n4 c4) := by rw [HV.out]; exact x1.self _ _ _
  have F2 : Fr V false A3 n3 c3 A4 n4 c4 q := by rw [HV.out]; exact f2.put3 x1 _ _ _
  have XB : Below w.heap.size w V := by rw [HV.out]; exact below_put3 xb (Nat.le_refl _) _ _ _
  have q1 := X1.c1
  rw [HV.out] at q1
  unfold put3 at q1
  have HV2 := HV.out
  unfold put3 at HV2
  have HV3 := Lib.hid HV2
  clear HV2 HV f2 h p0 p1 p2
  go_wp2_with fail
  rw [← HV3.out]
  clear t0 t1 t2 v0 v1 v2 x1 q1
  have K1 := F2.num
  have K2 := F2.den
  rw [HRD.out] at K2
  have DG1 := Lib.hid (digits_any A3 n3 c3 _ V K1 (by omega))
  rw [← hD1.out] at DG1
  refine DG1.out.mono ?_
  rintro e w2 ⟨rfl, b6⟩
  replace X1 := X1.below b6
  replace XB := bthen XB b6
  have p0 := X1.c0
  have p2 := X1.c2
  have e1 := hE1.out
  have hn0 : n4 = 0 := by rw [← K2.len, dig_zero]; rfl
  subst hn0
  clear DG1 K1 K2 F2
  have ee1 := hE1.out
  subst ee1
  clear e1
  go_wp2_with fail
  go_ret
  exact ⟨rfl, XB⟩

set_option maxHeartbeats 4000000 in
theorem rText_b (s1 : Bool) (A1 A2 : Option Addr) (n1 n2 c1 c2 : Nat) (q : Rat) (w : World) (h : Rf w s1 A1 n1 c1 A2 n2 c2 q) (hl1 : n1 ≤ 10000) (hl2 : n2 ≤ 10000) (hs : rneg q = true) (hd : rd q = 1) :
    Calls Tryd.prog 33 #[.agg #[.bool s1, .slice A1 n1 c1, .slice A2 n2 c2]] w (ValPost (.string (bs (txt q))) w) := by
  have hln := h.len
  have HL : Hid (ln q ≤ 10000 ∧ ld q ≤ 10001) := Lib.hid (by omega)
  have HRD : Hid (rD q = 0) := Lib.hid (by rw [rD_of, if_pos hd])
  obtain ⟨D1, hD1⟩ : ∃ D, Hid (D = bs (Lib.decDigits (rn q))) := ⟨_, rfl⟩
  obtain ⟨D2, hD2⟩ : ∃ D, Hid (D = bs (Lib.decDigits (rd q))) := ⟨_, rfl⟩
  have z1 : D1.size ≤ 10000010 := by rw [hD1.out]; exact txt_size (n := 10000) (by unfold ln at hln; omega) (by omega)
  have z2 : D2.size ≤ 10000010 := by rw [hD2.out]; exact txt_size (n := 10001) (by unfold ld at hln; omega) (by omega)
  obtain ⟨E1, hE1⟩ : ∃ E : ByteArray, Hid (E = (⟨#[45]⟩ : ByteArray) ++ D1) := ⟨_, rfl⟩
  have z3 : E1.size ≤ 10000020 := by rw [hE1.out]; rw [ByteArray.size_append, show (⟨#[45]⟩ : ByteArray).size = 1 from rfl]; omega
  obtain ⟨E2, hE2⟩ : ∃ E : ByteArray, Hid (E = E1 ++ (⟨#[47]⟩ : ByteArray)) := ⟨_, rfl⟩
  have z4 : E2.size ≤ 10000030 := by rw [hE2.out, ByteArray.size_append, show (⟨#[47]⟩ : ByteArray).size = 1 from rfl]; omega
  have HT : Hid (bs (txt q) = E1) := Lib.hid (by
    rw [hE1.out, hD1.out]
    unfold txt
    rw [hs, if_pos hd]
    simp [bs, ByteArray.mk_append_mk])
  rw [HT.out]
  obtain ⟨u, HU, x1, xb⟩ := boxes1 w (.bool s1) (.slice A1 n1 c1) (.slice A2 n2 c2) 24
  replace h := h.below xb
  have p0 := x1.c0
  have p1 := x1.c1
  have p2 := x1.c2
  rw [HU.out] at p0 p1 p2
  have HS := Lib.hid hs
  have HD := Lib.hid hd
  clear hln hs hd
  go_enter Tryd.func33, Tryd.ntmps33
  go_wp2_with fail
  rw [← HU.out]
  refine (rCanon_any s1 A1 A2 n1 n2 c1 c2 q _ h (by omega) (by omega)).mono ?_
  rintro e w1 ⟨s2, A3, n3, c3, A4, n4, c4, rfl, f2, _, _, b5⟩
  have hn3 : n3 ≤ 10000 := by have := f2.lens; have := HL.out; omega
  have hn4 : n4 ≤ 10001 := by have := f2.lens; have := HL.out; omega
  have hsb := f2.neg
  rw [HS.out] at hsb
  subst hsb
  replace x1 := x1.below b5
  replace xb := bthen xb b5
  have t0 := x1.c0
  have t1 := x1.c1
  have t2 := x1.c2
  have v0 := x1.fz 0
  have v1 := x1.fz 1
  have v2 := x1.fz 2
  obtain ⟨V, HV⟩ : ∃ V, Hid (V = put3 w1 w.heap.size (.bool true) (.slice A3 n3 c3) (.slice A4 n4 c4)) := ⟨_, rfl⟩
  have X1 : Bk V w.heap.size (.bool true) (.slice A3 n3 c3) (.slice A4 n4 c4) := by rw [HV.out]; exact x1.self _ _ _
  have F2 : Fr V true A3 n3 c3 A4 n4 c4 q := by rw [HV.out]; exact f2.put3 x1 _ _ _
  have XB : Below w.heap.size w V := by rw [HV.out]; exact below_put3 xb (Nat.le_refl _) _ _ _
  have q1 := X1.c1
  rw [HV.out] at q1
  unfold put3 at q1
  have HV2 := HV.out
  unfold put3 at HV2
  have HV3 := Lib.hid HV2
  clear HV2 HV f2 h p0 p1 p2
  go_wp2_with fail
  rw [← HV3.out]
  clear t0 t1 t2 v0 v1 v2 x1 q1
  have K1 := F2.num
  have K2 := F2.den
  rw [HRD.out] at K2
  have DG1 := Lib.hid (digits_any A3 n3 c3 _ V K1 (by omega))
  rw [← hD1.out] at DG1
  refine DG1.out.mono ?_
  rintro e w2 ⟨rfl, b6⟩
  replace X1 := X1.below b6
  replace XB := bthen XB b6
  have p0 := X1.c0
  have p2 := X1.c2
  have e1 := hE1.out
  have hn0 : n4 = 0 := by rw [← K2.len, dig_zero]; rfl
  subst hn0
  clear DG1 K1 K2 F2
  have ee1 := hE1.out.symm
  clear e1
  go_wp2_with fail
  go_ret
  exact ⟨rfl, XB⟩

set_option maxHeartbeats 4000000 in
theorem rText_c (s1 : Bool) (A1 A2 : Option Addr) (n1 n2 c1 c2 : Nat) (q : Rat) (w : World) (h : Rf w s1 A1 n1 c1 A2 n2 c2 q) (hl1 : n1 ≤ 10000) (hl2 : n2 ≤ 10000) (hs : rneg q = false) (hd : rd q ≠ 1) :
    Calls Tryd.prog 33 #[.agg #[.bool s1, .slice A1 n1 c1, .slice A2 n2 c2]] w (ValPost (.string (bs (txt q))) w) := by
  have hln := h.len
  have HL : Hid (ln q ≤ 10000 ∧ ld q ≤ 10001) := Lib.hid (by omega)
  have HRD : Hid (rD q = rd q) := Lib.hid (by rw [rD_of, if_neg hd])
  obtain ⟨D1, hD1⟩ : ∃ D, Hid (D = bs (Lib.decDigits (rn q))) := ⟨_, rfl⟩
  obtain ⟨D2, hD2⟩ : ∃ D, Hid (D = bs (Lib.decDigits (rd q))) := ⟨_, rfl⟩
  have z1 : D1.size ≤ 10000010 := by rw [hD1.out]; exact txt_size (n := 10000) (by unfold ln at hln; omega) (by omega)
  have z2 : D2.size ≤ 10000010 := by rw [hD2.out]; exact txt_size (n := 10001) (by unfold ld at hln; omega) (by omega)
  obtain ⟨E1, hE1⟩ : ∃ E : ByteArray, Hid (E = D1) := ⟨_, rfl⟩
  have z3 : E1.size ≤ 10000020 := by rw [hE1.out]; omega
  obtain ⟨E2, hE2⟩ : ∃ E : ByteArray, Hid (E = E1 ++ (⟨#[47]⟩ : ByteArray)) := ⟨_, rfl⟩
  have z4 : E2.size ≤ 10000030 := by rw [hE2.out, ByteArray.size_append, show (⟨#[47]⟩ : ByteArray).size = 1 from rfl]; omega
  have HT : Hid (bs (txt q) = E2 ++ D2) := Lib.hid (by
    rw [hE2.out, hD2.out, hE1.out, hD1.out]
    unfold txt
    rw [hs, if_neg hd]
    simp [bs, ByteArray.mk_append_mk])
  rw [HT.out]
  obtain ⟨u, HU, x1, xb⟩ := boxes1 w (.bool s1) (.slice A1 n1 c1) (.slice A2 n2 c2) 24
  replace h := h.below xb
  have p0 := x1.c0
  have p1 := x1.c1
  have p2 := x1.c2
  rw [HU.out] at p0 p1 p2
  have HS := Lib.hid hs
  have HD := Lib.hid hd
  clear hln hs hd
  go_enter Tryd.func33, Tryd.ntmps33
  go_wp2_with fail
  rw [← HU.out]
  refine (rCanon_any s1 A1 A2 n1 n2 c1 c2 q _ h (by omega) (by omega)).mono ?_
  rintro e w1 ⟨s2, A3, n3, c3, A4, n4, c4, rfl, f2, _, _, b5⟩
  have hn3 : n3 ≤ 10000 := by have := f2.lens; have := HL.out; omega
  have hn4 : n4 ≤ 10001 := by have := f2.lens; have := HL.out; omega
  have hsb := f2.neg
  rw [HS.out] at hsb
  subst hsb
  replace x1 := x1.below b5
  replace xb := bthen xb b5
  have t0 := x1.c0
  have t1 := x1.c1
  have t2 := x1.c2
  have v0 := x1.fz 0
  have v1 := x1.fz 1
  have v2 := x1.fz 2
  obtain ⟨V, HV⟩ : ∃ V, Hid (V = put3 w1 w.heap.size (.bool false) (.slice A3 n3 c3) (.slice A4 n4 c4)) := ⟨_, rfl⟩
  have X1 : Bk V w.heap.size (.bool false) (.slice A3 n3 c3) (.slice A4 n4 c4) := by rw [HV.out]; exact x1.self _ _ _
  have F2 : Fr V false A3 n3 c3 A4 n4 c4 q := by rw [HV.out]; exact f2.put3 x1 _ _ _
  have XB : Below w.heap.size w V := by rw [HV.out]; exact below_put3 xb (Nat.le_refl _) _ _ _
  have q1 := X1.c1
  rw [HV.out] at q1
  unfold put3 at q1
  have HV2 := HV.out
  unfold put3 at HV2
  have HV3 := Lib.hid HV2
  clear HV2 HV f2 h p0 p1 p2
  go_wp2_with fail
  rw [← HV3.out]
  clear t0 t1 t2 v0 v1 v2 x1 q1
  have K1 := F2.num
  have K2 := F2.den
  rw [HRD.out] at K2
  have DG1 := Lib.hid (digits_any A3 n3 c3 _ V K1 (by omega))
  rw [← hD1.out] at DG1
  refine DG1.out.mono ?_
  rintro e w2 ⟨rfl, b6⟩
  replace X1 := X1.below b6
  replace XB := bthen XB b6
  have p0 := X1.c0
  have p2 := X1.c2
  have e1 := hE1.out
  have hnp : 0 < n4 := by rw [← K2.len]; exact len_dig_pos.2 (rd_ne q)
  have DG2 := Lib.hid (digits_any A4 n4 c4 _ w2 (K2.below b6) (by omega))
  rw [← hD2.out] at DG2
  clear DG1 K1 K2 F2
  have ee1 := hE1.out
  subst ee1
  have ee2 := hE2.out.symm
  clear e1
  go_wp2_with fail
  refine DG2.out.mono ?_
  rintro e w3 ⟨rfl, b7⟩
  go_wp2_with fail
  go_ret
  exact ⟨rfl, bthen XB b7⟩

set_option maxHeartbeats 4000000 in
theorem rText_d (s1 : Bool) (A1 A2 : Option Addr) (n1 n2 c1 c2 : Nat) (q : Rat) (w : World) (h : Rf w s1 A1 n1 c1 A2 n2 c2 q) (hl1 : n1 ≤ 10000) (hl2 : n2 ≤ 10000) (hs : rneg q = true) (hd : rd q ≠ 1) :
    Calls Tryd.prog 33 #[.agg #[.bool s1, .slice A1 n1 c1, .slice A2 n2 c2]] w (ValPost (.string (bs (txt q))) w) := by
  have hln := h.len
  have HL : Hid (ln q ≤ 10000 ∧ ld q ≤ 10001) := Lib.hid (by omega)
  have HRD : Hid (rD q = rd q) := Lib.hid (by rw [rD_of, if_neg hd])
  obtain ⟨D1, hD1⟩ : ∃ D, Hid (D = bs (Lib.decDigits (rn q))) := ⟨_, rfl⟩
  obtain ⟨D2, hD2⟩ : ∃ D, Hid (D = bs (Lib.decDigits (rd q))) := ⟨_, rfl⟩
  have z1 : D1.size ≤ 10000010 := by rw [hD1.out]; exact txt_size (n := 10000) (by unfold ln at hln; omega) (by omega)
  have z2 : D2.size ≤ 10000010 := by rw [hD2.out]; exact txt_size (n := 10001) (by unfold ld at hln; omega) (by omega)
  obtain ⟨E1, hE1⟩ : ∃ E : ByteArray, Hid (E = (⟨#[45]⟩ : ByteArray) ++ D1) := ⟨_, rfl⟩
  have z3 : E1.size ≤ 10000020 := by rw [hE1.out]; rw [ByteArray.size_append, show (⟨#[45]⟩ : ByteArray).size = 1 from rfl]; omega
  obtain ⟨E2, hE2⟩ : ∃ E : ByteArray, Hid (E = E1 ++ (⟨#[47]⟩ : ByteArray)) := ⟨_, rfl⟩
  have z4 : E2.size ≤ 10000030 := by rw [hE2.out, ByteArray.size_append, show (⟨#[47]⟩ : ByteArray).size = 1 from rfl]; omega
  have HT : Hid (bs (txt q) = E2 ++ D2) := Lib.hid (by
    rw [hE2.out, hD2.out, hE1.out, hD1.out]
    unfold txt
    rw [hs, if_neg hd]
    simp [bs, ByteArray.mk_append_mk])
  rw [HT.out]
  obtain ⟨u, HU, x1, xb⟩ := boxes1 w (.bool s1) (.slice A1 n1 c1) (.slice A2 n2 c2) 24
  replace h := h.below xb
  have p0 := x1.c0
  have p1 := x1.c1
  have p2 := x1.c2
  rw [HU.out] at p0 p1 p2
  have HS := Lib.hid hs
  have HD := Lib.hid hd
  clear hln hs hd
  go_enter Tryd.func33, Tryd.ntmps33
  go_wp2_with fail
  rw [← HU.out]
  refine (rCanon_any s1 A1 A2 n1 n2 c1 c2 q _ h (by omega) (by omega)).mono ?_
  rintro e w1 ⟨s2, A3, n3, c3, A4, n4, c4, rfl, f2, _, _, b5⟩
  have hn3 : n3 ≤ 10000 := by have := f2.lens; have := HL.out; omega
  have hn4 : n4 ≤ 10001 := by have := f2.lens; have := HL.out; omega
  have hsb := f2.neg
  rw [HS.out] at hsb
  subst hsb
  replace x1 := x1.below b5
  replace xb := bthen xb b5
  have t0 := x1.c0
  have t1 := x1.c1
  have t2 := x1.c2
  have v0 := x1.fz 0
  have v1 := x1.fz 1
  have v2 := x1.fz 2
  obtain ⟨V, HV⟩ : ∃ V, Hid (V = put3 w1 w.heap.size (.bool true) (.slice A3 n3 c3) (.slice A4 n4 c4)) := ⟨_, rfl⟩
  have X1 : Bk V w.heap.size (.bool true) (.slice A3 n3 c3) (.slice A4 n4 c4) := by rw [HV.out]; exact x1.self _ _ _
  have F2 : Fr V true A3 n3 c3 A4 n4 c4 q := by rw [HV.out]; exact f2.put3 x1 _ _ _
  have XB : Below w.heap.size w V := by rw [HV.out]; exact below_put3 xb (Nat.le_refl _) _ _ _
  have q1 := X1.c1
  rw [HV.out] at q1
  unfold put3 at q1
  have HV2 := HV.out
  unfold put3 at HV2
  have HV3 := Lib.hid HV2
  clear HV2 HV f2 h p0 p1 p2
  go_wp2_with fail
  rw [← HV3.out]
  clear t0 t1 t2 v0 v1 v2 x1 q1
  have K1 := F2.num
  have K2 := F2.den
  rw [HRD.out] at K2
  have DG1 := Lib.hid (digits_any A3 n3 c3 _ V K1 (by omega))
  rw [← hD1.out] at DG1
  refine DG1.out.mono ?_
  rintro e w2 ⟨rfl, b6⟩
  replace X1 := X1.below b6
  replace XB := bthen XB b6
  have p0 := X1.c0
  have p2 := X1.c2
  have e1 := hE1.out
  have hnp : 0 < n4 := by rw [← K2.len]; exact len_dig_pos.2 (rd_ne q)
  have DG2 := Lib.hid (digits_any A4 n4 c4 _ w2 (K2.below b6) (by omega))
  rw [← hD2.out] at DG2
  clear DG1 K1 K2 F2
  have ee1 := hE1.out.symm
  have ee2 := hE2.out.symm
  clear e1
  go_wp2_with fail
  refine DG2.out.mono ?_
  rintro e w3 ⟨rfl, b7⟩
  go_wp2_with fail
  go_ret
  exact ⟨rfl, bthen XB b7⟩
theorem rText_any (s1 : Bool) (A1 A2 : Option Addr) (n1 n2 c1 c2 : Nat) (q : Rat) (w : World) (h : Rf w s1 A1 n1 c1 A2 n2 c2 q) (hl1 : n1 ≤ 10000) (hl2 : n2 ≤ 10000) :
    Calls Tryd.prog 33 #[.agg #[.bool s1, .slice A1 n1 c1, .slice A2 n2 c2]] w (ValPost (.string (bs (txt q))) w) := by
  by_cases hd : rd q = 1 <;> cases hs : rneg q
  · exact rText_a s1 A1 A2 n1 n2 c1 c2 q w h hl1 hl2 hs hd
  · exact rText_b s1 A1 A2 n1 n2 c1 c2 q w h hl1 hl2 hs hd
  · exact rText_c s1 A1 A2 n1 n2 c1 c2 q w h hl1 hl2 hs hd
  · exact rText_d s1 A1 A2 n1 n2 c1 c2 q w h hl1 hl2 hs hd
end Go.Proofs.YtaahbabdbopphaaDoor
