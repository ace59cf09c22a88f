/- The specification: trim, one, natural, size, even. The specification: even, half. The specification: order. The specification: plus, minus. The specification: gcd. The specification: bits. The specification: divide by one digit. The specification: divide. The specification: make1. The specification: Make; the law's q. -/
import Derived.Test.YtaahbabdbopphaaDoorHB
import Derived.Test.YtaahbabdbopphaaDoorMA
namespace Go.Proofs.YtaahbabdbopphaaDoor
open Go.RowKit Mx
set_option maxRecDepth 100000

/-- Hands back the front of a slice; nothing is turned. -/
def TrimPost (xs : List Nat) (A : Option Addr) (w : World) (e : Ending) (w' : World) : Prop :=
  ∃ n c, e = .returned (.slice A n c) ∧ Sl w A n c xs ∧ w' = w
set_option maxHeartbeats 400000 in
theorem rtrim_any (A : Option Addr) (c : Nat) (xs : List Nat) (w : World) (n : Nat) (h : Sl w A n c xs) (hds : Ds xs) (hl : n ≤ 1000000000) :
    Calls Tryd.prog 76 #[.slice A n c] w (TrimPost (dig (val xs)) A w) := by
  obtain ⟨rfl, hc, h⟩ := h
  go_enter Tryd.func76, Tryd.ntmps76
  go_wp2_with fail
  go_loop [3] (fun i => ∃ k : Nat, k ≤ xs.length ∧ i = .int .i64 k ∧ Hid (∀ j, k ≤ j → j < xs.length → xs.getD j 0 = 0)) (fun i => (intOf i).toNat)
  case atStart => exact ⟨xs.length, Nat.le_refl _, rfl, fun j h1 h2 => by omega⟩
  case round =>
    obtain ⟨k, hk, rfl, HZ⟩ := hrel
    by_cases hk0 : k = 0
    · subst hk0
      have HT := Lib.hid (trim_to hds hk HZ.out (.inl rfl))
      go_wp2_with fail
      go_ret
      exact ⟨_, _, rfl, by rw [← HT.out]; exact ⟨by simp, by omega, h.take_ 0⟩, rfl⟩
    · obtain ⟨ad, rfl, hcell⟩ := h (k - 1) (by omega)
      obtain ⟨d, hd⟩ : ∃ d : Nat, d = xs.getD (k - 1) 0 := ⟨_, rfl⟩
      rw [← hd] at hcell
      by_cases hz : d = 0
      · subst hz
        have HZ' : Hid (∀ j, k - 1 ≤ j → j < xs.length → xs.getD j 0 = 0) := fun j h1 h2 => by
          rcases Nat.eq_or_lt_of_le h1 with h1 | h1
          · rw [← h1, ← hd]
          · exact HZ.out j (by omega) h2
        clear hd
        go_wp2_with fail
        go_round
        case rel => exact ⟨k - 1, by omega, by go_num, HZ'⟩
        case measure => simp [intOf]; omega
      · have hz' : ((d : Int) == 0) = false := beq_eq_false_iff_ne.2 (by omega)
        have HT := Lib.hid (trim_to hds hk HZ.out (.inr (by rw [← hd]; exact hz)))
        clear hd
        go_wp2_with fail
        go_ret
        exact ⟨_, _, rfl, by rw [← HT.out]; exact ⟨by simp; omega, by omega, h.take_ k⟩, rfl⟩

/-- Trimming what is trimmed. -/
theorem rtrim_dig (A : Option Addr) (n c a : Nat) (w : World) (h : Sl w A n c (dig a)) (hl : n ≤ 1000000000) : Calls Tryd.prog 76 #[.slice A n c] w (TrimPost (dig a) A w) := by
  have := rtrim_any A c (dig a) w n h (ds_dig a) hl
  rwa [val_dig] at this
set_option maxHeartbeats 400000 in
theorem rone_any (A : Option Addr) (n c a : Nat) (w : World) (h : Sl w A n c (dig a)) (hl : n ≤ 1000000000) (b : Bool) (hb : b = decide (a = 1)) :
    Calls Tryd.prog 115 #[.slice A n c] w (fun e w' => e = .returned (.bool b) ∧ w' = w) := by
  by_cases hn : n = 1
  · obtain ⟨ad, rfl, hcell⟩ := h.at_ (k := 0) (by omega)
    obtain ⟨d, hd⟩ : ∃ d : Nat, d = (dig a).getD 0 0 := ⟨_, rfl⟩
    rw [← hd, show ad.add 0 = ad from rfl] at hcell
    have hv : a = d := by
      have h1 := h.len
      rw [hn] at h1
      match hx : dig a, h1 with
      | [x], _ =>
        rw [hx] at hd
        have := val_dig a
        rw [hx] at this
        simp [val] at this hd
        omega
    subst hn
    subst hb
    by_cases h1 : d = 1
    · have HB : Hid (decide (a = 1) = true) := Lib.hid (decide_eq_true (by omega))
      clear hd hv
      subst h1
      go_enter Tryd.func115, Tryd.ntmps115
      go_wp2_with fail
      go_ret
      exact ⟨by rw [HB.out]; rfl, rfl⟩
    · have HB : Hid (decide (a = 1) = false) := Lib.hid (decide_eq_false (by omega))
      have hf : ((d : Int) == 1) = false := beq_eq_false_iff_ne.2 (by omega)
      clear hd hv
      go_enter Tryd.func115, Tryd.ntmps115
      go_wp2_with fail
      go_ret
      exact ⟨by rw [HB.out]; rfl, rfl⟩
  · have hf : ((n : Int) == 1) = false := beq_eq_false_iff_ne.2 (by omega)
    have HB : Hid (b = false) := Lib.hid (by
      rw [hb]
      refine decide_eq_false (fun e => hn ?_)
      rw [← h.len, e]
      have h1 := len_small (a := 1) (by decide)
      have h2 := len_dig_pos.2 (show (1 : Nat) ≠ 0 by decide)
      omega)
    go_enter Tryd.func115, Tryd.ntmps115
    go_wp2_with fail
    go_ret
    exact ⟨by rw [HB.out]; rfl, rfl⟩
set_option maxHeartbeats 400000 in
theorem rnatural_any (m : Int) (w : World) (h0 : 0 ≤ m) (h1 : m ≤ 18446744073709551615) :
    Calls Tryd.prog 82 #[.int .u64 m] w (NatPost m.toNat w) := by
  have hrow := World.ownsRow_lit (e := 57) (size := 1) (base := w.heap.size) w #[.int .u32 (m % 4294967296), .int .u32 (m / 4294967296)] 2 (Nat.le_refl _) (by simp [maxLen]) rfl
  have hsl : Sl (w.alloc (.cells #[.int .u32 (m % 4294967296), .int .u32 (m / 4294967296)] 57)) (some ⟨w.heap.size, 0, none⟩) 2 2 [m.toNat % 4294967296, m.toNat / 4294967296] := by
    refine Sl.of_own (base := w.heap.size) (e := 57) ?_
    have e : u32s [m.toNat % 4294967296, m.toNat / 4294967296] = (#[Value.int .u32 (m % 4294967296), .int .u32 (m / 4294967296)] : Array Value).toList := by
      simp [u32s]; omega
    rw [e]; exact hrow
  have hds : Ds [m.toNat % 4294967296, m.toNat / 4294967296] := by
    intro x hx; simp at hx; omega
  have HV := Lib.hid (val_two m.toNat)
  clear hrow
  go_enter Tryd.func82, Tryd.ntmps82
  go_wp2_with fail
  refine (rtrim_any _ _ _ _ 2 hsl hds (by omega)).mono ?_
  rintro e w2 ⟨n3, c3, rfl, hs, rfl⟩
  rw [HV.out] at hs
  go_wp2_with fail
  go_ret
  refine ⟨_, _, _, rfl, hs, below_alloc (Below.refl _ w) _, fun ad hA _ => ?_⟩
  injection hA with hA
  rw [← hA]; exact Nat.le_refl _
set_option maxHeartbeats 400000 in
theorem rsize_any (n : Int) (w : World) (h0 : -9223372036854775808 ≤ n) (h1 : n ≤ 9223372036854775807) :
    Calls Tryd.prog 83 #[.int .i64 n] w (fun e w' => e = .returned (.int .u64 (n.natAbs : Int)) ∧ w' = w) := by
  by_cases h : n < 0
  · go_enter Tryd.func83, Tryd.ntmps83
    go_wp2_with fail
    go_ret
    refine ⟨?_, rfl⟩
    have e1 : (n.natAbs : Int) = -n := by omega
    have e2 : IntKind.u64.wrap (-IntKind.u64.wrap n) = -n := by
      have k : ∀ x : Int, IntKind.u64.wrap x = x % 18446744073709551616 := fun x => rfl
      rw [k, k]; omega
    rw [e1, ← e2]; rfl
  · go_enter Tryd.func83, Tryd.ntmps83
    go_wp2_with fail
    go_ret
    refine ⟨?_, rfl⟩
    have e1 : (n.natAbs : Int) = n := by omega
    rw [e1]; rfl
end Go.Proofs.YtaahbabdbopphaaDoor
namespace Go.Proofs.YtaahbabdbopphaaDoor
open Go.RowKit Mx
set_option maxRecDepth 100000

theorem ofInt_u32 (a : Nat) (ha : a < 4294967296) : (BitVec.ofInt 32 (a : Int)).toNat = a := by
  rw [BitVec.ofInt_natCast, BitVec.toNat_ofNat]; exact Nat.mod_eq_of_lt (by omega)
theorem u32_and_one (a : Nat) (ha : a < 4294967296) : bits .and .u32 (a : Int) 1 = ((a % 2 : Nat) : Int) := by
  show IntKind.u32.wrap ((BitVec.ofInt 32 (a : Int) &&& BitVec.ofInt 32 ((1 : Nat) : Int)).toNat : Int) = _
  rw [BitVec.toNat_and, ofInt_u32 a ha, ofInt_u32 1 (by omega), Nat.and_one_is_mod]
  show ((a % 2 : Nat) : Int) % 4294967296 = _
  omega
theorem u32_or_top (x R s : Nat) (hx : x < 4294967296) (hR : R ≤ 1) (hs : s = x / 2 + R * 2147483648) : bits .or .u32 ((x : Int) / 2) ((R : Int) * 2147483648) = (s : Int) := by
  rw [show (x : Int) / 2 = ((x / 2 : Nat) : Int) from by omega, show (R : Int) * 2147483648 = ((R * 2147483648 : Nat) : Int) from by omega]
  show IntKind.u32.wrap ((BitVec.ofInt 32 ((x / 2 : Nat) : Int) ||| BitVec.ofInt 32 ((R * 2147483648 : Nat) : Int)).toNat : Int) = _
  rw [BitVec.toNat_or, ofInt_u32 _ (by omega), ofInt_u32 _ (by omega), Nat.or_comm, nat_join 31 (R * 2147483648) (x / 2) (by omega) (by omega)]
  show ((R * 2147483648 + x / 2 : Nat) : Int) % 4294967296 = _
  omega
theorem dig_get0 (a : Nat) : (dig a).getD 0 0 = a % 4294967296 := by
  by_cases h : a = 0
  · subst h; rw [dig_zero]; rfl
  · rw [dig_pos h]; rfl
set_option maxHeartbeats 400000 in
theorem reven_any (A : Option Addr) (n c a : Nat) (w : World) (h : Sl w A n c (dig a)) (hl : n ≤ 1000000000) (b : Bool) (hb : b = decide (a % 2 = 0)) :
    Calls Tryd.prog 127 #[.slice A n c] w (fun e w' => e = .returned (.bool b) ∧ w' = w) := by
  by_cases hn : n = 0
  · have HB : Hid (b = true) := Lib.hid (by rw [hb, len_dig_zero.1 (h.len.trans hn)]; rfl)
    subst hn
    go_enter Tryd.func127, Tryd.ntmps127
    go_wp2_with fail
    go_ret
    exact ⟨by rw [HB.out]; rfl, rfl⟩
  · obtain ⟨ad, rfl, hcell⟩ := h.at_ (k := 0) (by omega)
    rw [dig_get0, show ad.add 0 = ad from rfl] at hcell
    obtain ⟨d, hd⟩ : ∃ d : Nat, d = a % 4294967296 := ⟨_, rfl⟩
    rw [← hd] at hcell
    have hn0 : 0 < n := by omega
    have hnf : ((n : Int) == 0) = false := beq_eq_false_iff_ne.2 (by omega)
    have hd2 : d % 2 = a % 2 := by omega
    have hd32 : d < 4294967296 := by omega
    subst hb
    by_cases h1 : d % 2 = 0
    · have HB : Hid (decide (a % 2 = 0) = true) := Lib.hid (decide_eq_true (by omega))
      have htm : ((d : Int).tmod 2) = 0 := by rw [Int.tmod_eq_emod_of_nonneg (by omega)]; omega
      clear hd hd2 h1
      go_enter Tryd.func127, Tryd.ntmps127
      go_wp2_with fail
      go_ret
      exact ⟨by rw [HB.out]; rfl, rfl⟩
    · have HB : Hid (decide (a % 2 = 0) = false) := Lib.hid (decide_eq_false (by omega))
      have htm : ((d : Int).tmod 2) = 1 := by rw [Int.tmod_eq_emod_of_nonneg (by omega)]; omega
      clear hd hd2 h1
      go_enter Tryd.func127, Tryd.ntmps127
      go_wp2_with fail
      go_ret
      exact ⟨by rw [HB.out]; rfl, rfl⟩
set_option maxHeartbeats 1000000 in
theorem rhalf_any (A1 : Option Addr) (n1 c1 a : Nat) (w : World) (h1 : Sl w A1 n1 c1 (dig a)) (hl1 : n1 ≤ 1000000000) :
    Calls Tryd.prog 128 #[.slice A1 n1 c1] w (NatPost (a / 2) w) := by
  obtain ⟨i0, hi0, hz0, hz1, hz2⟩ := info_parts Tryd.info57
  go_enter Tryd.func128, Tryd.ntmps128
  go_wp2_with ((with_reducible refine wpList_make_full _ rfl _ _ 22 rfl w.heap.size 57 i0 (.int .u32 0) 1 Tryd.underlying22 hi0 hz0 hz1 .i64 .i64 _ _ n1 rfl rfl (by omega) (by omega) (by rw [hz2]; omega) (by simp only [maxLen]; omega) (Nat.le_refl _) ?_); intro w1 hown hgrow)
  have hrow := Row.made (Below.refl _ w) hown hgrow
  clear hown hgrow
  go_loopw [4, 5] (fun r i wr => ∃ (k R : Nat) (out : List Nat), k ≤ n1 ∧ i = .int .i64 ((k : Int) - 1) ∧ r = .int .u32 R ∧ R ≤ 1 ∧ Row w wr w.heap.size n1 n1 out ∧
      Hid (val ((dig a).drop k) = 2 * val (out.drop k) + R))
    (fun _ i _ => (intOf i + 1).toNat)
  case atStart => exact ⟨n1, 0, List.replicate n1 0, Nat.le_refl _, by go_num, rfl, by omega, hrow, Lib.hid (by rw [val_drop_ge _ _ (by rw [h1.len]; omega), val_drop_ge _ _ (by simp)])⟩
  case round =>
    clear hrow
    obtain ⟨k, R, out, hk, rfl, rfl, hR32, hR, HV⟩ := hrel
    have hl := hR.len
    by_cases hk0 : k = 0
    · subst hk0
      have hq : Hid (val out = a / 2) := Lib.hid (by
        have hv := HV.out
        rw [List.drop_zero, List.drop_zero, val_dig] at hv
        omega)
      clear hl
      go_wp2_with fail
      refine (rtrim_any _ _ out _ n1 hR.sl hR.ds (by omega)).mono ?_
      rintro e w2 ⟨n4, c4, rfl, hs, rfl⟩
      rw [hq.out] at hs
      have hb := hR.bel
      have hg := hR.base
      go_wp2_with fail
      go_ret
      refine ⟨_, _, _, rfl, hs, hb, fun ad hA _ => ?_⟩
      injection hA with hA
      rw [← hA]; exact hg
    · obtain ⟨x, hx⟩ : ∃ x : Nat, x = (dig a).getD (k - 1) 0 := ⟨_, rfl⟩
      have hx32 : x < 4294967296 := by rw [hx]; exact ds_get (ds_dig a) _
      obtain ⟨ad1, rfl, hc1⟩ := (h1.below hR.bel).at_ (k := k - 1) (by omega)
      rw [← hx] at hc1
      have hcell := hR.cell (k := k - 1) (by omega)
      have hfz := hR.frozen (k - 1)
      have i1 : (0 : Int) ≤ (k : Int) - 1 := by omega
      have i2 : (k : Int) - 1 < (n1 : Int) := by omega
      have i3 : ((k : Int) - 1).toNat = k - 1 := by omega
      have hblk : ad1.block < w.heap.size := by
        obtain ⟨ad2, e2, hcw⟩ := h1.at_ (k := k - 1) (by omega)
        injection e2 with e2
        subst e2
        have := World.block_lt_of_cell? w _ hcw
        rwa [block_of_add] at this
      have hc2 : ∀ u, (wr.setCell ⟨w.heap.size, k - 1, none⟩ u).cell? (ad1.add (k - 1)) = some (.int .u32 (x : Int)) := fun u => by
        rw [World.cell?_setCell_other _ _ _ _ (by intro e; have e2 := congrArg Addr.block e; rw [block_of_add] at e2; simp at e2; omega)]
        exact hc1
      obtain ⟨s, hs⟩ : ∃ s : Nat, s = x / 2 + R * 2147483648 := ⟨_, rfl⟩
      have hor := u32_or_top x R s hx32 hR32 hs
      have hand := u32_and_one x hx32
      have HN : Hid (val ((dig a).drop (k - 1)) = 2 * val ((out.set (k - 1) s).drop (k - 1)) + x % 2) := Lib.hid (by
        rw [val_drop' (dig a), ← hx, val_drop' (out.set _ _), getD_set_same _ _ _ (by omega), show k - 1 + 1 = k from by omega, List.drop_set_of_lt (by omega)]
        have hv := HV.out
        rw [hv]; omega)
      have hs32 : s < 4294967296 := by omega
      clear hx hl hs h1
      go_wp2_with fail
      go_roundw
      case rel => exact ⟨k - 1, x % 2, out.set (k - 1) s, by omega, by go_num, by simp, by omega, hR.set (k - 1) _ rfl hs32, HN⟩
      case measure => simp [intOf]; omega
end Go.Proofs.YtaahbabdbopphaaDoor
namespace Go.Proofs.YtaahbabdbopphaaDoor
open Go.RowKit Mx
set_option maxRecDepth 100000

set_option maxHeartbeats 1000000 in
theorem rorder_lt (A1 A2 : Option Addr) (n1 n2 c1 c2 a b : Nat) (w : World) (h1 : Sl w A1 n1 c1 (dig a)) (h2 : Sl w A2 n2 c2 (dig b)) (hl1 : n1 ≤ 1000000000) (hl2 : n2 ≤ 1000000000) (hlt : a < b) :
    Calls Tryd.prog 106 #[.slice A1 n1 c1, .slice A2 n2 c2] w (CmpPost (-1) w) := by
  have hle : n1 ≤ n2 := by rw [← h1.len, ← h2.len]; exact len_mono (by omega)
  by_cases hn : n1 < n2
  · go_enter Tryd.func106, Tryd.ntmps106
    go_wp2_with fail
    refine (rtrim_dig A1 _ c1 a _ h1 (by omega)).mono ?_
    rintro e w1 ⟨m1, d1, rfl, k1, hw⟩
    replace hw := hw.symm
    subst hw
    have hm := h1.len.symm.trans k1.len
    subst hm
    go_wp2_with fail
    refine (rtrim_dig A2 _ c2 b _ h2 (by omega)).mono ?_
    rintro e w2 ⟨m2, d2, rfl, k2, hw⟩
    replace hw := hw.symm
    subst hw
    have hm := h2.len.symm.trans k2.len
    subst hm
    replace h1 := k1
    replace h2 := k2
    clear k1 k2
    go_wp2_with fail
    go_ret
    exact ⟨rfl, 0, rfl⟩
  · obtain rfl : n1 = n2 := by omega
    clear hle hn
    go_enter Tryd.func106, Tryd.ntmps106
    go_wp2_with fail
    refine (rtrim_dig A1 _ c1 a _ h1 (by omega)).mono ?_
    rintro e w1 ⟨m1, d1, rfl, k1, hw⟩
    replace hw := hw.symm
    subst hw
    have hm := h1.len.symm.trans k1.len
    subst hm
    go_wp2_with fail
    refine (rtrim_dig A2 _ c2 b _ h2 (by omega)).mono ?_
    rintro e w2 ⟨m2, d2, rfl, k2, hw⟩
    replace hw := hw.symm
    subst hw
    have hm := h2.len.symm.trans k2.len
    subst hm
    replace h1 := k1
    replace h2 := k2
    clear k1 k2
    go_wp2_with fail
    go_loopw [5] (fun i wr => ∃ (k n : Nat), k ≤ n1 ∧ i = .int .i64 ((k : Int) - 1) ∧ wr = w.drewN n ∧ Hid (val ((dig a).drop k) = val ((dig b).drop k)))
      (fun i _ => (intOf i + 1).toNat)
    case atStart => exact ⟨n1, 0, Nat.le_refl _, by go_num, rfl, by rw [val_drop_ge _ _ (by have := h1.len; omega), val_drop_ge _ _ (by have := h2.len; omega)]; rfl⟩
    case round =>
      obtain ⟨k, n, hk, rfl, rfl, HV⟩ := hrel
      by_cases hk0 : k = 0
      · exfalso
        have := HV.out
        rw [hk0] at this
        simp only [List.drop_zero, val_dig] at this
        omega
      · obtain ⟨x, hx⟩ : ∃ x : Nat, x = (dig a).getD (k - 1) 0 := ⟨_, rfl⟩
        obtain ⟨y, hy⟩ : ∃ y : Nat, y = (dig b).getD (k - 1) 0 := ⟨_, rfl⟩
        obtain ⟨ad1, rfl, hc1⟩ := h1.at_ (k := k - 1) (by omega)
        obtain ⟨ad2, rfl, hc2⟩ := h2.at_ (k := k - 1) (by omega)
        rw [← hx] at hc1
        rw [← hy] at hc2
        have i1 : (0 : Int) ≤ (k : Int) - 1 := by omega
        have i2 : (k : Int) - 1 < (n1 : Int) := by omega
        have i3 : ((k : Int) - 1).toNat = k - 1 := by omega
        have hk1 : k - 1 + 1 = k := by omega
        have L1 := h1.len
        have L2 := h2.len
        have BAD1 : x < y → a < b := fun h => by
          have := cmp_at (xs := dig a) (ys := dig b) (i := k - 1) (ds_dig a) (by omega) (by omega) (by rw [hk1]; exact HV.out) (by rw [← hx, ← hy]; exact h)
          rwa [val_dig, val_dig] at this
        have BAD2 : y < x → b < a := fun h => by
          have := cmp_at (xs := dig b) (ys := dig a) (i := k - 1) (ds_dig b) (by omega) (by omega) (by rw [hk1]; exact HV.out.symm) (by rw [← hx, ← hy]; exact h)
          rwa [val_dig, val_dig] at this
        have HV' : x = y → Hid (val ((dig a).drop (k - 1)) = val ((dig b).drop (k - 1))) := fun h => Lib.hid (by
          rw [val_drop' _ (k - 1), val_drop' _ (k - 1), hk1, HV.out, ← hx, ← hy, h])
        clear L1 L2 hk1 h1 h2 hx hy
        rcases Nat.lt_trichotomy x y with hxy | hxy | hxy
        · have HB := BAD1 hxy
          clear BAD1 BAD2 HV'
          have t1 : (x == y) = false := beq_eq_false_iff_ne.2 (by omega)
          have t2 : decide (x < y) = true := decide_eq_true hxy
          go_wp2_with fail
          go_quiet (fail)
          go_wp2_with fail
          go_quiet (fail)
          go_wp2_with fail
          go_ret
          refine ⟨rfl, ?_⟩
          simp only [World.drewN_drewN]
          exact ⟨_, rfl⟩
        · have HV1 := HV' hxy
          clear BAD1 BAD2 HV'
          subst hxy
          go_wp2_with fail
          go_quiet (fail)
          go_wp2_with fail
          go_roundw
          case rel => exact ⟨k - 1, _, by omega, by go_num, rfl, HV1⟩
          case measure => simp [intOf]; omega
        · have HB := BAD2 hxy
          clear BAD1 BAD2 HV'
          omega
set_option maxHeartbeats 1000000 in
theorem rorder_gt (A1 A2 : Option Addr) (n1 n2 c1 c2 a b : Nat) (w : World) (h1 : Sl w A1 n1 c1 (dig a)) (h2 : Sl w A2 n2 c2 (dig b)) (hl1 : n1 ≤ 1000000000) (hl2 : n2 ≤ 1000000000) (hlt : b < a) :
    Calls Tryd.prog 106 #[.slice A1 n1 c1, .slice A2 n2 c2] w (CmpPost (1) w) := by
  have hle : n2 ≤ n1 := by rw [← h1.len, ← h2.len]; exact len_mono (by omega)
  by_cases hn : n2 < n1
  · go_enter Tryd.func106, Tryd.ntmps106
    go_wp2_with fail
    refine (rtrim_dig A1 _ c1 a _ h1 (by omega)).mono ?_
    rintro e w1 ⟨m1, d1, rfl, k1, hw⟩
    replace hw := hw.symm
    subst hw
    have hm := h1.len.symm.trans k1.len
    subst hm
    go_wp2_with fail
    refine (rtrim_dig A2 _ c2 b _ h2 (by omega)).mono ?_
    rintro e w2 ⟨m2, d2, rfl, k2, hw⟩
    replace hw := hw.symm
    subst hw
    have hm := h2.len.symm.trans k2.len
    subst hm
    replace h1 := k1
    replace h2 := k2
    clear k1 k2
    go_wp2_with fail
    go_ret
    exact ⟨rfl, 0, rfl⟩
  · obtain rfl : n1 = n2 := by omega
    clear hle hn
    go_enter Tryd.func106, Tryd.ntmps106
    go_wp2_with fail
    refine (rtrim_dig A1 _ c1 a _ h1 (by omega)).mono ?_
    rintro e w1 ⟨m1, d1, rfl, k1, hw⟩
    replace hw := hw.symm
    subst hw
    have hm := h1.len.symm.trans k1.len
    subst hm
    go_wp2_with fail
    refine (rtrim_dig A2 _ c2 b _ h2 (by omega)).mono ?_
    rintro e w2 ⟨m2, d2, rfl, k2, hw⟩
    replace hw := hw.symm
    subst hw
    have hm := h2.len.symm.trans k2.len
    subst hm
    replace h1 := k1
    replace h2 := k2
    clear k1 k2
    go_wp2_with fail
    go_loopw [5] (fun i wr => ∃ (k n : Nat), k ≤ n1 ∧ i = .int .i64 ((k : Int) - 1) ∧ wr = w.drewN n ∧ Hid (val ((dig a).drop k) = val ((dig b).drop k)))
      (fun i _ => (intOf i + 1).toNat)
    case atStart => exact ⟨n1, 0, Nat.le_refl _, by go_num, rfl, by rw [val_drop_ge _ _ (by have := h1.len; omega), val_drop_ge _ _ (by have := h2.len; omega)]; rfl⟩
    case round =>
      obtain ⟨k, n, hk, rfl, rfl, HV⟩ := hrel
      by_cases hk0 : k = 0
      · exfalso
        have := HV.out
        rw [hk0] at this
        simp only [List.drop_zero, val_dig] at this
        omega
      · obtain ⟨x, hx⟩ : ∃ x : Nat, x = (dig a).getD (k - 1) 0 := ⟨_, rfl⟩
        obtain ⟨y, hy⟩ : ∃ y : Nat, y = (dig b).getD (k - 1) 0 := ⟨_, rfl⟩
        obtain ⟨ad1, rfl, hc1⟩ := h1.at_ (k := k - 1) (by omega)
        obtain ⟨ad2, rfl, hc2⟩ := h2.at_ (k := k - 1) (by omega)
        rw [← hx] at hc1
        rw [← hy] at hc2
        have i1 : (0 : Int) ≤ (k : Int) - 1 := by omega
        have i2 : (k : Int) - 1 < (n1 : Int) := by omega
        have i3 : ((k : Int) - 1).toNat = k - 1 := by omega
        have hk1 : k - 1 + 1 = k := by omega
        have L1 := h1.len
        have L2 := h2.len
        have BAD1 : x < y → a < b := fun h => by
          have := cmp_at (xs := dig a) (ys := dig b) (i := k - 1) (ds_dig a) (by omega) (by omega) (by rw [hk1]; exact HV.out) (by rw [← hx, ← hy]; exact h)
          rwa [val_dig, val_dig] at this
        have BAD2 : y < x → b < a := fun h => by
          have := cmp_at (xs := dig b) (ys := dig a) (i := k - 1) (ds_dig b) (by omega) (by omega) (by rw [hk1]; exact HV.out.symm) (by rw [← hx, ← hy]; exact h)
          rwa [val_dig, val_dig] at this
        have HV' : x = y → Hid (val ((dig a).drop (k - 1)) = val ((dig b).drop (k - 1))) := fun h => Lib.hid (by
          rw [val_drop' _ (k - 1), val_drop' _ (k - 1), hk1, HV.out, ← hx, ← hy, h])
        clear L1 L2 hk1 h1 h2 hx hy
        rcases Nat.lt_trichotomy x y with hxy | hxy | hxy
        · have HB := BAD1 hxy
          clear BAD1 BAD2 HV'
          omega
        · have HV1 := HV' hxy
          clear BAD1 BAD2 HV'
          subst hxy
          go_wp2_with fail
          go_quiet (fail)
          go_wp2_with fail
          go_roundw
          case rel => exact ⟨k - 1, _, by omega, by go_num, rfl, HV1⟩
          case measure => simp [intOf]; omega
        · have HB := BAD2 hxy
          clear BAD1 BAD2 HV'
          have t1 : (x == y) = false := beq_eq_false_iff_ne.2 (by omega)
          have t2 : decide (x < y) = false := decide_eq_false (by omega)
          go_wp2_with fail
          go_quiet (fail)
          go_wp2_with fail
          go_quiet (fail)
          go_wp2_with fail
          go_ret
          refine ⟨rfl, ?_⟩
          simp only [World.drewN_drewN]
          exact ⟨_, rfl⟩
set_option maxHeartbeats 1000000 in
theorem rorder_eq (A1 A2 : Option Addr) (n1 n2 c1 c2 a b : Nat) (w : World) (h1 : Sl w A1 n1 c1 (dig a)) (h2 : Sl w A2 n2 c2 (dig b)) (hl1 : n1 ≤ 1000000000) (hl2 : n2 ≤ 1000000000) (hlt : a = b) :
    Calls Tryd.prog 106 #[.slice A1 n1 c1, .slice A2 n2 c2] w (CmpPost (0) w) := by
  have hle : n1 ≤ n2 := by rw [← h1.len, ← h2.len]; exact len_mono (by omega)
  have hge : n2 ≤ n1 := by rw [← h1.len, ← h2.len]; exact len_mono (by omega)
  by_cases hn : n1 < n2
  · omega
  · obtain rfl : n1 = n2 := by omega
    clear hle hge hn
    have HEQ := Lib.hid hlt
    clear hlt
    go_enter Tryd.func106, Tryd.ntmps106
    go_wp2_with fail
    refine (rtrim_dig A1 _ c1 a _ h1 (by omega)).mono ?_
    rintro e w1 ⟨m1, d1, rfl, k1, hw⟩
    replace hw := hw.symm
    subst hw
    have hm := h1.len.symm.trans k1.len
    subst hm
    go_wp2_with fail
    refine (rtrim_dig A2 _ c2 b _ h2 (by omega)).mono ?_
    rintro e w2 ⟨m2, d2, rfl, k2, hw⟩
    replace hw := hw.symm
    subst hw
    have hm := h2.len.symm.trans k2.len
    subst hm
    replace h1 := k1
    replace h2 := k2
    clear k1 k2
    go_wp2_with fail
    go_loopw [5] (fun i wr => ∃ (k n : Nat), k ≤ n1 ∧ i = .int .i64 ((k : Int) - 1) ∧ wr = w.drewN n ∧ Hid (val ((dig a).drop k) = val ((dig b).drop k)))
      (fun i _ => (intOf i + 1).toNat)
    case atStart => exact ⟨n1, 0, Nat.le_refl _, by go_num, rfl, by rw [val_drop_ge _ _ (by have := h1.len; omega), val_drop_ge _ _ (by have := h2.len; omega)]; rfl⟩
    case round =>
      obtain ⟨k, n, hk, rfl, rfl, HV⟩ := hrel
      by_cases hk0 : k = 0
      · subst hk0
        go_wp2_with fail
        go_ret
        exact ⟨rfl, _, rfl⟩
      · obtain ⟨x, hx⟩ : ∃ x : Nat, x = (dig a).getD (k - 1) 0 := ⟨_, rfl⟩
        obtain ⟨y, hy⟩ : ∃ y : Nat, y = (dig b).getD (k - 1) 0 := ⟨_, rfl⟩
        obtain ⟨ad1, rfl, hc1⟩ := h1.at_ (k := k - 1) (by omega)
        obtain ⟨ad2, rfl, hc2⟩ := h2.at_ (k := k - 1) (by omega)
        rw [← hx] at hc1
        rw [← hy] at hc2
        have i1 : (0 : Int) ≤ (k : Int) - 1 := by omega
        have i2 : (k : Int) - 1 < (n1 : Int) := by omega
        have i3 : ((k : Int) - 1).toNat = k - 1 := by omega
        have hk1 : k - 1 + 1 = k := by omega
        have L1 := h1.len
        have L2 := h2.len
        have BAD1 : x < y → a < b := fun h => by
          have := cmp_at (xs := dig a) (ys := dig b) (i := k - 1) (ds_dig a) (by omega) (by omega) (by rw [hk1]; exact HV.out) (by rw [← hx, ← hy]; exact h)
          rwa [val_dig, val_dig] at this
        have BAD2 : y < x → b < a := fun h => by
          have := cmp_at (xs := dig b) (ys := dig a) (i := k - 1) (ds_dig b) (by omega) (by omega) (by rw [hk1]; exact HV.out.symm) (by rw [← hx, ← hy]; exact h)
          rwa [val_dig, val_dig] at this
        have HV' : x = y → Hid (val ((dig a).drop (k - 1)) = val ((dig b).drop (k - 1))) := fun h => Lib.hid (by
          rw [val_drop' _ (k - 1), val_drop' _ (k - 1), hk1, HV.out, ← hx, ← hy, h])
        clear L1 L2 hk1 h1 h2 hx hy
        rcases Nat.lt_trichotomy x y with hxy | hxy | hxy
        · have HB := BAD1 hxy
          have := HEQ.out
          omega
        · have HV1 := HV' hxy
          clear BAD1 BAD2 HV'
          subst hxy
          go_wp2_with fail
          go_quiet (fail)
          go_wp2_with fail
          go_roundw
          case rel => exact ⟨k - 1, _, by omega, by go_num, rfl, HV1⟩
          case measure => simp [intOf]; omega
        · have HB := BAD2 hxy
          have := HEQ.out
          omega
end Go.Proofs.YtaahbabdbopphaaDoor
namespace Go.Proofs.YtaahbabdbopphaaDoor
open Go.RowKit Mx
set_option maxRecDepth 100000

theorem own_snoc {w : World} {base : Nat} {v : Value} {n : Nat} {out : List Nat} {e : Int} {d : Nat} (h : w.ownsRow base 57 1 v n (u32s out ++ [.int .u32 e])) (he : e = (d : Int)) : w.ownsRow base 57 1 v n (u32s (out ++ [d])) := by
  subst he; rw [u32s_append]; exact h
theorem ds_snoc {out : List Nat} {d : Nat} (h : Ds out) (hd : d < 4294967296) : Ds (out ++ [d]) := by
  intro x hx
  rcases List.mem_append.1 hx with h1 | h1
  · exact h x h1
  · rw [List.mem_singleton.1 h1]; exact hd
/-- What trimming leaves of a row that was grown. -/
theorem own_trim {w wr : World} {A : Option Addr} {n c m : Nat} {out : List Nat} (h : wr.ownsRow w.heap.size 57 1 (.slice A n c) n (u32s out)) (hb : Below w.heap.size w wr) (hds : Ds out) (hl : n ≤ 1000000000) (hv : val out = m) :
    Calls Tryd.prog 76 #[.slice A n c] wr (NatPost m w) := by
  have hs := Sl.of_own h
  refine (rtrim_any A c out wr n hs hds hl).mono ?_
  rintro e w' ⟨n', c', rfl, hs', rfl⟩
  rw [hv] at hs'
  refine ⟨A, n', c', rfl, hs', hb, fun ad hA hn => ?_⟩
  refine new_of_own h ad hA ?_
  have := hs'.len
  have h2 := len_val hds
  have h3 := hs.len
  rw [hv] at h2
  omega

set_option maxHeartbeats 2000000 in
theorem rplus_any (A1 A2 : Option Addr) (n1 n2 c1 c2 a b : Nat) (w : World) (h1 : Sl w A1 n1 c1 (dig a)) (h2 : Sl w A2 n2 c2 (dig b)) (hl1 : n1 ≤ 100000000) (hl2 : n2 ≤ 100000000) :
    Calls Tryd.prog 102 #[.slice A1 n1 c1, .slice A2 n2 c2] w (NatPost (a + b) w) := by
  obtain ⟨i0, hi0, hz0, hz1, hz2⟩ := info_parts Tryd.info57
  go_enter Tryd.func102, Tryd.ntmps102
  go_wp2_with fail
  go_loopw [5, 6, 7] (fun so cy i wr => ∃ (A : Option Addr) (c k C : Nat) (out : List Nat), so = .slice A k c ∧ i = .int .i64 k ∧ cy = .int .u64 C ∧ wr.ownsRow w.heap.size 57 1 (.slice A k c) k (u32s out) ∧ Ds out ∧ C ≤ 1 ∧ k ≤ n1 + n2 + 1 ∧ Hid (k ≤ n1 ∨ k ≤ n2 ∨ C = 0) ∧
      Hid (val out + 4294967296 ^ k * C = val ((dig a).take k) + val ((dig b).take k)) ∧ Below w.heap.size w wr)
    (fun _ _ i _ => n1 + n2 + 1 - (intOf i).toNat)
  case atStart => exact ⟨none, 0, 0, 0, [], rfl, rfl, rfl, World.ownsRow_nil _ _ _ _, (fun x hx => nomatch hx), by omega, by omega, Lib.hid (Or.inl (Nat.zero_le _)), by simp [Hid, val], Below.refl _ _⟩
  case round =>
    obtain ⟨A, c, k, C, out, rfl, rfl, rfl, hown, hds, hC, hkb, HK, HV, hb⟩ := hrel
    have hsz := hb.size
    have hol : out.length = k := by have := hown.1; rw [u32s_length] at this; omega
    by_cases hend : n1 ≤ k ∧ n2 ≤ k ∧ C = 0
    · obtain ⟨e1, e2, rfl⟩ := hend
      have HT : Hid (val out = a + b) := Lib.hid (by
        have := HV.out
        rw [val_take_all (dig a) k (by rw [h1.len]; exact e1), val_take_all (dig b) k (by rw [h2.len]; exact e2), val_dig, val_dig] at this
        omega)
      clear hol
      go_wp2_with fail
      refine (own_trim hown hb hds (by omega) HT.out).mono ?_
      rintro e w2 ⟨A4, n4, c4, rfl, hs4, hb4⟩
      go_wp2_with fail
      go_ret
      exact ⟨_, _, _, rfl, hs4, hb4⟩
    · obtain ⟨x, hx⟩ : ∃ x : Nat, x = (dig a).getD k 0 := ⟨_, rfl⟩
      obtain ⟨y, hy⟩ : ∃ y : Nat, y = (dig b).getD k 0 := ⟨_, rfl⟩
      have hx32 : x < 4294967296 := by rw [hx]; exact ds_get (ds_dig a) k
      have hy32 : y < 4294967296 := by rw [hy]; exact ds_get (ds_dig b) k
      have hx0 : n1 ≤ k → x = 0 := fun h => by rw [hx]; exact getD_ge _ _ (by rw [h1.len]; exact h)
      have hy0 : n2 ≤ k → y = 0 := fun h => by rw [hy]; exact getD_ge _ _ (by rw [h2.len]; exact h)
      have hcx : k < n1 → ∃ ad, A1 = some ad ∧ wr.cell? (ad.add k) = some (.int .u32 (x : Int)) := fun h => by rw [hx]; exact (h1.below hb).at_ h
      have hcy : k < n2 → ∃ ad, A2 = some ad ∧ wr.cell? (ad.add k) = some (.int .u32 (y : Int)) := fun h => by rw [hy]; exact (h2.below hb).at_ h
      have HN : Hid (∀ o c' : Nat, c' * 4294967296 + o = C + x + y → Hid (val (out ++ [o]) + 4294967296 ^ (k + 1) * c' = val ((dig a).take (k + 1)) + val ((dig b).take (k + 1)))) := Lib.hid (fun o c' hs => by
        rw [val_snoc, val_take_succ', val_take_succ', hol, ← hx, ← hy]
        exact add_step HV.out hs)
      have hKK := HK.out
      clear hx hy h1 h2 HK HV hol
      by_cases hk1 : k < n1 <;> by_cases hk2 : k < n2
      · obtain ⟨ad1, rfl, hc1⟩ := hcx hk1
        obtain ⟨ad2, rfl, hc2⟩ := hcy hk2
        clear hcx hcy hx0 hy0 hend hKK
        go_wp2_with (at_builtin; refine wpList_append_own _ rfl _ _ 22 rfl w.heap.size 57 i0 (.int .u32 0) 1 4 Tryd.underlying22 hi0 hz0 hz1 hz2 rfl (by decide) (.slice A k c) k (u32s out) rfl (hown.alloc _) ⟨wr.heap.size, 0, none⟩ 1 1 [_] rfl rfl (cell_one_new _ _ _) (by intro u hu; rw [List.mem_singleton.1 hu]; rfl) (by unfold maxLen; omega) (by omega) (by simp; omega) ?_; intro v' w3 hown3 hgrow3 _)
        have hb4 := (below_alloc hb (.cells #[.int .u32 _] 57)).grown hgrow3 (by simp; omega) (fun g hg => (hown.lt g hg).1)
        obtain ⟨A', c', rfl⟩ := own_shape hown3
        have hown4 := own_snoc (d := (C + x + y) % 4294967296) hown3 (by omega)
        clear hown3 hgrow3 hown
        go_roundw
        case rel => exact ⟨A', c', k + 1, (C + x + y) / 4294967296, out ++ [(C + x + y) % 4294967296], rfl, by go_num, by go_num, hown4, ds_snoc hds (by omega), by omega, by omega, Lib.hid (by omega), HN.out _ _ (by omega), hb4⟩
        case measure => simp [intOf]; omega
      · obtain ⟨ad1, rfl, hc1⟩ := hcx hk1
        obtain rfl := hy0 (by omega)
        clear hcx hcy hx0 hy0 hend hKK
        go_wp2_with (at_builtin; refine wpList_append_own _ rfl _ _ 22 rfl w.heap.size 57 i0 (.int .u32 0) 1 4 Tryd.underlying22 hi0 hz0 hz1 hz2 rfl (by decide) (.slice A k c) k (u32s out) rfl (hown.alloc _) ⟨wr.heap.size, 0, none⟩ 1 1 [_] rfl rfl (cell_one_new _ _ _) (by intro u hu; rw [List.mem_singleton.1 hu]; rfl) (by unfold maxLen; omega) (by omega) (by simp; omega) ?_; intro v' w3 hown3 hgrow3 _)
        have hb4 := (below_alloc hb (.cells #[.int .u32 _] 57)).grown hgrow3 (by simp; omega) (fun g hg => (hown.lt g hg).1)
        obtain ⟨A', c', rfl⟩ := own_shape hown3
        have hown4 := own_snoc (d := (C + x) % 4294967296) hown3 (by omega)
        clear hown3 hgrow3 hown
        go_roundw
        case rel => exact ⟨A', c', k + 1, (C + x) / 4294967296, out ++ [(C + x) % 4294967296], rfl, by go_num, by go_num, hown4, ds_snoc hds (by omega), by omega, by omega, Lib.hid (by omega), HN.out _ _ (by omega), hb4⟩
        case measure => simp [intOf]; omega
      · obtain ⟨ad2, rfl, hc2⟩ := hcy hk2
        obtain rfl := hx0 (by omega)
        clear hcx hcy hx0 hy0 hend hKK
        go_wp2_with (at_builtin; refine wpList_append_own _ rfl _ _ 22 rfl w.heap.size 57 i0 (.int .u32 0) 1 4 Tryd.underlying22 hi0 hz0 hz1 hz2 rfl (by decide) (.slice A k c) k (u32s out) rfl (hown.alloc _) ⟨wr.heap.size, 0, none⟩ 1 1 [_] rfl rfl (cell_one_new _ _ _) (by intro u hu; rw [List.mem_singleton.1 hu]; rfl) (by unfold maxLen; omega) (by omega) (by simp; omega) ?_; intro v' w3 hown3 hgrow3 _)
        have hb4 := (below_alloc hb (.cells #[.int .u32 _] 57)).grown hgrow3 (by simp; omega) (fun g hg => (hown.lt g hg).1)
        obtain ⟨A', c', rfl⟩ := own_shape hown3
        have hown4 := own_snoc (d := (C + y) % 4294967296) hown3 (by omega)
        clear hown3 hgrow3 hown
        go_roundw
        case rel => exact ⟨A', c', k + 1, (C + y) / 4294967296, out ++ [(C + y) % 4294967296], rfl, by go_num, by go_num, hown4, ds_snoc hds (by omega), by omega, by omega, Lib.hid (by omega), HN.out _ _ (by omega), hb4⟩
        case measure => simp [intOf]; omega
      · obtain rfl := hx0 (by omega)
        obtain rfl := hy0 (by omega)
        obtain rfl : C = 1 := by omega
        have hkk : k ≤ n1 ∨ k ≤ n2 := by omega
        clear hcx hcy hx0 hy0 hend hKK
        go_wp2_with (at_builtin; refine wpList_append_own _ rfl _ _ 22 rfl w.heap.size 57 i0 (.int .u32 0) 1 4 Tryd.underlying22 hi0 hz0 hz1 hz2 rfl (by decide) (.slice A k c) k (u32s out) rfl (hown.alloc _) ⟨wr.heap.size, 0, none⟩ 1 1 [_] rfl rfl (cell_one_new _ _ _) (by intro u hu; rw [List.mem_singleton.1 hu]; rfl) (by unfold maxLen; omega) (by omega) (by simp; omega) ?_; intro v' w3 hown3 hgrow3 _)
        have hb4 := (below_alloc hb (.cells #[.int .u32 _] 57)).grown hgrow3 (by simp; omega) (fun g hg => (hown.lt g hg).1)
        obtain ⟨A', c', rfl⟩ := own_shape hown3
        have hown4 := own_snoc (d := 1) hown3 (by omega)
        clear hown3 hgrow3 hown
        go_roundw
        case rel => exact ⟨A', c', k + 1, 0, out ++ [1], rfl, by go_num, by go_num, hown4, ds_snoc hds (by omega), by omega, by omega, Lib.hid (by omega), HN.out _ _ (by omega), hb4⟩
        case measure => simp [intOf]; omega

set_option maxHeartbeats 2000000 in
theorem rminus_any (A1 A2 : Option Addr) (n1 n2 c1 c2 a b : Nat) (w : World) (h1 : Sl w A1 n1 c1 (dig a)) (h2 : Sl w A2 n2 c2 (dig b)) (hl1 : n1 ≤ 1000000000) (_hl2 : n2 ≤ 1000000000) (hle : b ≤ a) :
    Calls Tryd.prog 107 #[.slice A1 n1 c1, .slice A2 n2 c2] w (NatPost (a - b) w) := by
  have hn : n2 ≤ n1 := by rw [← h1.len, ← h2.len]; exact len_mono hle
  have HLE := Lib.hid hle
  clear hle
  obtain ⟨i0, hi0, hz0, hz1, hz2⟩ := info_parts Tryd.info57
  go_enter Tryd.func107, Tryd.ntmps107
  go_wp2_with fail
  go_loopw [5, 6, 7] (fun so bw i wr => ∃ (A : Option Addr) (c k C : Nat) (out : List Nat), so = .slice A k c ∧ i = .int .i64 k ∧ bw = .int .u64 C ∧ wr.ownsRow w.heap.size 57 1 (.slice A k c) k (u32s out) ∧ Ds out ∧ C ≤ 1 ∧ k ≤ n1 ∧
      Hid (val out + val ((dig b).take k) = val ((dig a).take k) + 4294967296 ^ k * C) ∧ Below w.heap.size w wr)
    (fun _ _ i _ => n1 - (intOf i).toNat)
  case atStart => exact ⟨none, 0, 0, 0, [], rfl, rfl, rfl, World.ownsRow_nil _ _ _ _, (fun x hx => nomatch hx), by omega, by omega, by simp [Hid, val], Below.refl _ _⟩
  case round =>
    obtain ⟨A, c, k, C, out, rfl, rfl, rfl, hown, hds, hC, hkb, HV, hb⟩ := hrel
    have hsz := hb.size
    have hol : out.length = k := by have := hown.1; rw [u32s_length] at this; omega
    by_cases hend : n1 ≤ k
    · have HT : Hid (val out = a - b) := Lib.hid (sub_end (out := out) (k := k) (C := C) (by rw [val_take_all out k (by omega)]; exact HV.out) (by omega) hds (by rw [h1.len]; exact hend) (by rw [h2.len]; omega) HLE.out)
      clear hol
      go_wp2_with fail
      refine (own_trim hown hb hds (by omega) HT.out).mono ?_
      rintro e w2 ⟨A4, n4, c4, rfl, hs4, hb4⟩
      go_wp2_with fail
      go_ret
      exact ⟨_, _, _, rfl, hs4, hb4⟩
    · have hk1 : k < n1 := by omega
      obtain ⟨x, hx⟩ : ∃ x : Nat, x = (dig a).getD k 0 := ⟨_, rfl⟩
      obtain ⟨y, hy⟩ : ∃ y : Nat, y = (dig b).getD k 0 := ⟨_, rfl⟩
      have hx32 : x < 4294967296 := by rw [hx]; exact ds_get (ds_dig a) k
      have hy32 : y < 4294967296 := by rw [hy]; exact ds_get (ds_dig b) k
      have hy0 : n2 ≤ k → y = 0 := fun h => by rw [hy]; exact getD_ge _ _ (by rw [h2.len]; exact h)
      obtain ⟨ad1, rfl, hc1⟩ := (h1.below hb).at_ hk1
      rw [← hx] at hc1
      have hcy : k < n2 → ∃ ad, A2 = some ad ∧ wr.cell? (ad.add k) = some (.int .u32 (y : Int)) := fun h => by rw [hy]; exact (h2.below hb).at_ h
      have HN : Hid (∀ o b' : Nat, o + y + C = x + 4294967296 * b' → Hid (val (out ++ [o]) + val ((dig b).take (k + 1)) = val ((dig a).take (k + 1)) + 4294967296 ^ (k + 1) * b')) := Lib.hid (fun o b' hs => by
        rw [val_snoc, val_take_succ', val_take_succ', hol, ← hx, ← hy]
        exact sub_step HV.out hs)
      clear hx hy h1 h2 HV hol hend
      by_cases hk2 : k < n2
      · obtain ⟨ad2, rfl, hc2⟩ := hcy hk2
        clear hcy hy0
        by_cases hlt : x < y + C
        · go_wp2_with (at_builtin; refine wpList_append_own _ rfl _ _ 22 rfl w.heap.size 57 i0 (.int .u32 0) 1 4 Tryd.underlying22 hi0 hz0 hz1 hz2 rfl (by decide) (.slice A k c) k (u32s out) rfl (hown.alloc _) ⟨wr.heap.size, 0, none⟩ 1 1 [_] rfl rfl (cell_one_new _ _ _) (by intro u hu; rw [List.mem_singleton.1 hu]; rfl) (by unfold maxLen; omega) (by omega) (by simp; omega) ?_; intro v' w3 hown3 hgrow3 _)
          have hb4 := (below_alloc hb (.cells #[.int .u32 _] 57)).grown hgrow3 (by simp; omega) (fun g hg => (hown.lt g hg).1)
          obtain ⟨A', c', rfl⟩ := own_shape hown3
          have hown4 := own_snoc (d := x + 4294967296 - (y + C)) hown3 (by omega)
          clear hown3 hgrow3 hown
          go_roundw
          case rel => exact ⟨A', c', k + 1, 1, out ++ [x + 4294967296 - (y + C)], rfl, by go_num, by go_num, hown4, ds_snoc hds (by omega), by omega, by omega, HN.out _ _ (by omega), hb4⟩
          case measure => simp [intOf]; omega
        · go_wp2_with (at_builtin; refine wpList_append_own _ rfl _ _ 22 rfl w.heap.size 57 i0 (.int .u32 0) 1 4 Tryd.underlying22 hi0 hz0 hz1 hz2 rfl (by decide) (.slice A k c) k (u32s out) rfl (hown.alloc _) ⟨wr.heap.size, 0, none⟩ 1 1 [_] rfl rfl (cell_one_new _ _ _) (by intro u hu; rw [List.mem_singleton.1 hu]; rfl) (by unfold maxLen; omega) (by omega) (by simp; omega) ?_; intro v' w3 hown3 hgrow3 _)
          have hb4 := (below_alloc hb (.cells #[.int .u32 _] 57)).grown hgrow3 (by simp; omega) (fun g hg => (hown.lt g hg).1)
          obtain ⟨A', c', rfl⟩ := own_shape hown3
          have hown4 := own_snoc (d := x - (y + C)) hown3 (by omega)
          clear hown3 hgrow3 hown
          go_roundw
          case rel => exact ⟨A', c', k + 1, 0, out ++ [x - (y + C)], rfl, by go_num, by go_num, hown4, ds_snoc hds (by omega), by omega, by omega, HN.out _ _ (by omega), hb4⟩
          case measure => simp [intOf]; omega
      · obtain rfl := hy0 (by omega)
        clear hcy hy0
        by_cases hlt : x < C
        · go_wp2_with (at_builtin; refine wpList_append_own _ rfl _ _ 22 rfl w.heap.size 57 i0 (.int .u32 0) 1 4 Tryd.underlying22 hi0 hz0 hz1 hz2 rfl (by decide) (.slice A k c) k (u32s out) rfl (hown.alloc _) ⟨wr.heap.size, 0, none⟩ 1 1 [_] rfl rfl (cell_one_new _ _ _) (by intro u hu; rw [List.mem_singleton.1 hu]; rfl) (by unfold maxLen; omega) (by omega) (by simp; omega) ?_; intro v' w3 hown3 hgrow3 _)
          have hb4 := (below_alloc hb (.cells #[.int .u32 _] 57)).grown hgrow3 (by simp; omega) (fun g hg => (hown.lt g hg).1)
          obtain ⟨A', c', rfl⟩ := own_shape hown3
          have hown4 := own_snoc (d := x + 4294967296 - C) hown3 (by omega)
          clear hown3 hgrow3 hown
          go_roundw
          case rel => exact ⟨A', c', k + 1, 1, out ++ [x + 4294967296 - C], rfl, by go_num, by go_num, hown4, ds_snoc hds (by omega), by omega, by omega, HN.out _ _ (by omega), hb4⟩
          case measure => simp [intOf]; omega
        · go_wp2_with (at_builtin; refine wpList_append_own _ rfl _ _ 22 rfl w.heap.size 57 i0 (.int .u32 0) 1 4 Tryd.underlying22 hi0 hz0 hz1 hz2 rfl (by decide) (.slice A k c) k (u32s out) rfl (hown.alloc _) ⟨wr.heap.size, 0, none⟩ 1 1 [_] rfl rfl (cell_one_new _ _ _) (by intro u hu; rw [List.mem_singleton.1 hu]; rfl) (by unfold maxLen; omega) (by omega) (by simp; omega) ?_; intro v' w3 hown3 hgrow3 _)
          have hb4 := (below_alloc hb (.cells #[.int .u32 _] 57)).grown hgrow3 (by simp; omega) (fun g hg => (hown.lt g hg).1)
          obtain ⟨A', c', rfl⟩ := own_shape hown3
          have hown4 := own_snoc (d := x - C) hown3 (by omega)
          clear hown3 hgrow3 hown
          go_roundw
          case rel => exact ⟨A', c', k + 1, 0, out ++ [x - C], rfl, by go_num, by go_num, hown4, ds_snoc hds (by omega), by omega, by omega, HN.out _ _ (by omega), hb4⟩
          case measure => simp [intOf]; omega
end Go.Proofs.YtaahbabdbopphaaDoor
namespace Go.Proofs.YtaahbabdbopphaaDoor
open Go.RowKit Mx
set_option maxRecDepth 100000

theorem gcd_half {x y : Nat} (h : x.gcd y % 2 = 1) (hx : x % 2 = 0) : (x / 2).gcd y = x.gcd y := by
  apply Nat.dvd_antisymm
  · exact Nat.dvd_gcd (Nat.dvd_trans (Nat.gcd_dvd_left _ _) ⟨2, by omega⟩) (Nat.gcd_dvd_right _ _)
  · refine Nat.dvd_gcd ?_ (Nat.gcd_dvd_right _ _)
    have hc : (x.gcd y).Coprime 2 := by
      rw [Nat.coprime_comm, Nat.Coprime, Nat.gcd_rec, h]; rfl
    refine hc.dvd_of_dvd_mul_left ?_
    rw [show 2 * (x / 2) = x from by omega]
    exact Nat.gcd_dvd_left _ _
theorem gcd_half' {x y : Nat} (h : x.gcd y % 2 = 1) (hy : y % 2 = 0) : x.gcd (y / 2) = x.gcd y := by
  rw [Nat.gcd_comm, gcd_half (by rw [Nat.gcd_comm]; exact h) hy, Nat.gcd_comm]
theorem gcd_minus {x z : Nat} (h : x ≤ z) : x.gcd (z - x) = x.gcd z := by
  conv => rhs; rw [show z = (z - x) + x from by omega]
  exact (Nat.gcd_add_self_right x (z - x)).symm
theorem gcd_both {x y : Nat} (hx : x % 2 = 0) (hy : y % 2 = 0) : x.gcd y = (x / 2).gcd (y / 2) * 2 := by
  have := Nat.gcd_mul_right (x / 2) 2 (y / 2)
  rw [show x / 2 * 2 = x from by omega, show y / 2 * 2 = y from by omega] at this
  exact this
theorem gcd_odd {x y : Nat} (h : ¬ (x % 2 = 0 ∧ y % 2 = 0)) : x.gcd y % 2 = 1 := by
  have h1 := Nat.gcd_dvd_left x y
  have h2 := Nat.gcd_dvd_right x y
  rcases Nat.mod_two_eq_zero_or_one (x.gcd y) with h0 | h0
  · exfalso
    have hd : 2 ∣ x.gcd y := Nat.dvd_of_mod_eq_zero h0
    exact h ⟨Nat.mod_eq_zero_of_dvd (Nat.dvd_trans hd h1), Nat.mod_eq_zero_of_dvd (Nat.dvd_trans hd h2)⟩
  · exact h0
theorem twos_le {x t a n : Nat} (hx : x ≠ 0) (h : x * 2 ^ t = a) (hl : (dig a).length ≤ n) : t ≤ 32 * n := by
  have h1 := len_le_iff.1 hl
  have h2 : 2 ^ t ≤ a := by rw [← h]; exact Nat.le_mul_of_pos_left _ (by omega)
  have h3 : (4294967296 : Nat) ^ n = 2 ^ (32 * n) := by rw [Nat.pow_mul]
  rw [h3] at h1
  rcases Nat.lt_or_ge (32 * n) t with h4 | h4
  · have := Nat.pow_le_pow_right (show 0 < 2 by decide) (Nat.le_of_lt h4)
    omega
  · exact h4

set_option maxHeartbeats 2000000 in
theorem rgcd_any (A1 A2 : Option Addr) (n1 n2 c1 c2 a b : Nat) (w : World) (h1 : Sl w A1 n1 c1 (dig a)) (h2 : Sl w A2 n2 c2 (dig b)) (hl1 : n1 ≤ 10000000) (hl2 : n2 ≤ 10000000) (ha : a ≠ 0) (hb : b ≠ 0) :
    Calls Tryd.prog 116 #[.slice A1 n1 c1, .slice A2 n2 c2] w (RdPost (a.gcd b) w) := by
  have HA := Lib.hid ha
  have HB := Lib.hid hb
  have HL1 := Lib.hid h1.len
  clear ha hb
  go_enter Tryd.func116, Tryd.ntmps116
  go_wp2_with fail
  go_loopg [0, 1, 5] a (fun k sa sb st wr => ∃ (A : Option Addr) (n c : Nat) (A' : Option Addr) (n' c' y t : Nat), sa = .slice A n c ∧ sb = .slice A' n' c' ∧ st = .int .i64 (t : Int) ∧ Sl wr A n c (dig k) ∧ Sl wr A' n' c' (dig y) ∧
      Hid (k.gcd y * 2 ^ t = a.gcd b) ∧ Hid (k ≠ 0 ∧ y ≠ 0 ∧ k * 2 ^ t = a) ∧ n ≤ 10000000 ∧ n' ≤ 10000000 ∧ t ≤ 320000000 ∧ Below w.heap.size w wr)
  case atStart => exact ⟨A1, n1, c1, A2, n2, c2, b, 0, rfl, rfl, rfl, h1, h2, Lib.hid (by rw [Nat.pow_zero, Nat.mul_one]), Lib.hid ⟨HA.out, HB.out, by rw [Nat.pow_zero, Nat.mul_one]⟩, hl1, hl2, by omega, Below.refl _ _⟩
  case round =>
    obtain ⟨A, n, c, A', n', c', y, t, rfl, rfl, rfl, hs, hs', HG, HN, hn, hn', ht, hbl⟩ := hrel
    by_cases hev : gk % 2 = 0 ∧ y % 2 = 0
    · obtain ⟨he1, he2⟩ := hev
      have HN2 : Hid (gk / 2 ≠ 0 ∧ y / 2 ≠ 0 ∧ gk / 2 * 2 ^ (t + 1) = a) := Lib.hid (by
        have h := HN.out
        refine ⟨by omega, by omega, ?_⟩
        rw [← h.2.2, Nat.pow_succ, Nat.mul_comm (2 ^ t) 2, ← Nat.mul_assoc, show gk / 2 * 2 = gk from by omega])
      have HG2 : Hid ((gk / 2).gcd (y / 2) * 2 ^ (t + 1) = a.gcd b) := Lib.hid (by
        rw [← HG.out, gcd_both he1 he2, Nat.pow_succ, Nat.mul_comm (2 ^ t) 2, ← Nat.mul_assoc])
      have ht2 : t + 1 ≤ 320000000 := by have := twos_le HN2.out.1 HN2.out.2.2 (Nat.le_of_eq HL1.out); omega
      have hlt : gk / 2 < gk := by have := HN.out.1; omega
      have HE1 := Lib.hid he1
      have HE2 := Lib.hid he2
      clear he1 he2
      go_wp2_with fail
      refine (reven_any A n c gk _ hs (by omega) true (by rw [decide_eq_true HE1.out])).mono ?_
      rintro e w1 ⟨rfl, rfl⟩
      go_wp2_with fail
      refine (reven_any A' n' c' y _ hs' (by omega) true (by rw [decide_eq_true HE2.out])).mono ?_
      rintro e w2 ⟨rfl, rfl⟩
      go_wp2_with fail
      refine (rhalf_any A n c gk _ hs (by omega)).mono ?_
      rintro e w3 ⟨A3, n3, c3, rfl, g3, b3⟩
      have hn3 : n3 ≤ n := by rw [← g3.len, ← hs.len]; exact len_mono (by omega)
      have hs2 := hs'.below b3.bel
      have hbl2 := bthen hbl b3.bel
      go_wp2_with fail
      refine (rhalf_any A' n' c' y _ hs2 (by omega)).mono ?_
      rintro e w4 ⟨A4, n4, c4, rfl, g4, b4⟩
      have hn4 : n4 ≤ n' := by rw [← g4.len, ← hs2.len]; exact len_mono (by omega)
      have g5 := g3.below b4.bel
      have hbl3 := bthen hbl2 b4.bel
      go_wp2_with fail
      go_roundg (gk / 2)
      case measure => exact hlt
      case rel => exact ⟨_, _, _, _, _, _, y / 2, t + 1, rfl, rfl, by go_num, g5, g4, HG2, HN2, by omega, by omega, ht2, hbl3⟩
    · have hod := gcd_odd hev
      obtain ⟨G, hG⟩ : ∃ G, Hid (G = gk.gcd y) := ⟨_, rfl⟩
      have HG1 : Hid (G * 2 ^ t = a.gcd b) := Lib.hid (by rw [hG.out]; exact HG.out)
      have HO : Hid (G % 2 = 1) := Lib.hid (by rw [hG.out]; exact hod)
      have hcase : (gk % 2 = 1) ∨ (gk % 2 = 0 ∧ y % 2 = 1) := by omega
      have HN1 := Lib.hid (And.intro HN.out.1 HN.out.2.1)
      have hG2 : Hid (gk.gcd y = G) := Lib.hid hG.out.symm
      have HBD : Hid (a.gcd b ≠ 0 ∧ (dig (a.gcd b)).length ≤ n1) := Lib.hid ⟨by have := Nat.gcd_pos_of_pos_left b (show 0 < a by have := HA.out; omega); omega, by rw [← HL1.out]; exact len_mono (Nat.le_of_dvd (by have := HA.out; omega) (Nat.gcd_dvd_left a b))⟩
      clear hod hev HG HN hG
      rcases hcase with hc | ⟨hc, hcy⟩
      · have HE1 := Lib.hid hc
        clear hc
        go_wp2_with fail
        refine (reven_any A n c gk _ hs (by omega) false (by rw [decide_eq_false (by have := HE1.out; omega)])).mono ?_
        rintro e w1 ⟨rfl, rfl⟩
        go_wp2_with fail
        go_loopg [0, 1] (gk + y) (fun k sa sb wr => ∃ (A : Option Addr) (n c : Nat) (A' : Option Addr) (n' c' x z : Nat), sa = .slice A n c ∧ sb = .slice A' n' c' ∧ Sl wr A n c (dig x) ∧ Sl wr A' n' c' (dig z) ∧
            Hid (k = x + z) ∧ Hid (x.gcd z = G) ∧ Hid (x ≠ 0) ∧ n ≤ 10000000 ∧ n' ≤ 10000000 ∧ Below w.heap.size w wr)
        case atStart => exact ⟨A, n, c, A', n', c', _, y, rfl, rfl, hs, hs', rfl, hG2, Lib.hid HN1.out.1, hn, hn', hbl⟩
        case round =>
          clear hs hs' hn hn' hbl
          obtain ⟨A, n, c, A', n', c', x, z, rfl, rfl, hs, hs', HK, HG, HX, hn, hn', hbl⟩ := hrel
          by_cases hz : z = 0
          · have hz' : n' = 0 := by rw [← hs'.len]; exact len_dig_zero.2 hz
            have HXG : Hid (x = G) := Lib.hid (by rw [← HG.out, hz, Nat.gcd_zero_right])
            rw [HXG.out] at hs
            clear hz
            subst hz'
            go_wp2_with fail
            go_loopg [0, 6] t (fun k sa si wr => ∃ (A : Option Addr) (n c j : Nat), sa = .slice A n c ∧ si = .int .i64 (j : Int) ∧ Hid (j + k = t) ∧ j ≤ t ∧ Sl wr A n c (dig (G * 2 ^ j)) ∧ n ≤ 100000000 ∧ Below w.heap.size w wr)
            case atStart => exact ⟨A, n, c, 0, rfl, rfl, Lib.hid (by omega), by omega, by rw [Nat.pow_zero, Nat.mul_one]; exact hs, by omega, hbl⟩
            case round =>
              clear hs hn hbl
              obtain ⟨A, n, c, j, rfl, rfl, HJ, hjt, hs, hn, hbl⟩ := hrel
              by_cases hj : j < t
              · have HS2 : Hid (G * 2 ^ j + G * 2 ^ j = G * 2 ^ (j + 1)) := Lib.hid (by rw [Nat.pow_succ, ← Nat.mul_assoc]; omega)
                have HLE : Hid ((dig (G * 2 ^ (j + 1))).length ≤ 100000000) := Lib.hid (by
                  have h1 : G * 2 ^ (j + 1) ≤ a.gcd b := by rw [← HG1.out]; exact Nat.mul_le_mul_left _ (Nat.pow_le_pow_right (by decide) hj)
                  have := len_mono h1
                  have := HBD.out.2
                  omega)
                go_wp2_with fail
                refine (rplus_any A A n n c c _ _ _ hs hs (by omega) (by omega)).mono ?_
                rintro e w5 ⟨A5, n5, c5, rfl, g5, b5⟩
                rw [HS2.out] at g5
                have hn5 : n5 ≤ 100000000 := by rw [← g5.len]; exact HLE.out
                have hbl5 := bthen hbl b5.bel
                have HJ2 : Hid (j + 1 + (gk - 1) = t) := Lib.hid (by have := HJ.out; omega)
                have hlt : gk - 1 < gk := by have := HJ.out; omega
                go_wp2_with fail
                go_roundg (gk - 1)
                case measure => exact hlt
                case rel => exact ⟨_, _, _, j + 1, rfl, by go_num, HJ2, by omega, g5, hn5, hbl5⟩
              · have HEQ : Hid (G * 2 ^ j = a.gcd b) := Lib.hid (by rw [show j = t from by omega]; exact HG1.out)
                go_wp2_with fail
                go_ret
                exact ⟨_, _, _, rfl, by rw [← HEQ.out]; exact hs, hbl⟩
          · have hz' : 0 < n' := by rw [← hs'.len]; exact len_dig_pos.2 hz
            have HZ := Lib.hid hz
            clear hz
            obtain ⟨KK, hKK⟩ : ∃ KK, Hid (KK = gk) := ⟨_, rfl⟩
            have HK2 : Hid (KK = x + z) := Lib.hid (by rw [hKK.out]; exact HK.out)
            go_wp2_with fail
            go_loopg [0] x (fun k sa wr => ∃ (A : Option Addr) (n c : Nat), sa = .slice A n c ∧ Sl wr A n c (dig k) ∧ Hid (k.gcd z = G) ∧ Hid (k ≠ 0) ∧ Hid (k ≤ x) ∧ n ≤ 10000000 ∧ Below w.heap.size w wr ∧ Sl wr A' n' c' (dig z))
            case atStart => exact ⟨A, n, c, rfl, hs, HG, HX, Lib.hid (Nat.le_refl _), hn, hbl, hs'⟩
            case round =>
              clear hs hn hbl hs' HG HX
              obtain ⟨A, n, c, rfl, hs, HG, HX, HXL, hn, hbl, hs'⟩ := hrel
              by_cases hev : gk % 2 = 0
              · have HE := Lib.hid hev
                clear hev
                have hlt : gk / 2 < gk := by have := HX.out; omega
                have HG2 : Hid ((gk / 2).gcd z = G) := Lib.hid (by rw [gcd_half (by rw [HG.out]; exact HO.out) HE.out]; exact HG.out)
                have HX2 : Hid (gk / 2 ≠ 0) := Lib.hid (by have := HE.out; have := HX.out; omega)
                have HXL2 : Hid (gk / 2 ≤ x) := Lib.hid (by have := HXL.out; omega)
                go_wp2_with fail
                refine (reven_any A n c gk _ hs (by omega) true (by rw [decide_eq_true HE.out])).mono ?_
                rintro e w6 ⟨rfl, rfl⟩
                go_wp2_with fail
                refine (rhalf_any A n c gk _ hs (by omega)).mono ?_
                rintro e w7 ⟨A7, n7, c7, rfl, g7, b7⟩
                have hn7 : n7 ≤ n := by rw [← g7.len, ← hs.len]; exact len_mono (by omega)
                have hs7 := hs'.below b7.bel
                have hbl7 := bthen hbl b7.bel
                go_wp2_with fail
                go_roundg (gk / 2)
                case measure => exact hlt
                case rel => exact ⟨_, _, _, rfl, g7, HG2, HX2, HXL2, by omega, hbl7, hs7⟩
              · obtain ⟨X, hX⟩ : ∃ X, Hid (X = gk) := ⟨_, rfl⟩
                have HE : Hid (X % 2 = 1) := Lib.hid (by rw [hX.out]; omega)
                clear hev
                rw [← hX.out] at hs HG HX HXL
                go_wp2_with fail
                refine (reven_any A n c X _ hs (by omega) false (by rw [decide_eq_false (by have := HE.out; omega)])).mono ?_
                rintro e w6 ⟨rfl, rfl⟩
                go_wp2_with fail
                go_loopg [1] z (fun k sb wr => ∃ (A' : Option Addr) (n' c' : Nat), sb = .slice A' n' c' ∧ Sl wr A' n' c' (dig k) ∧ Hid (X.gcd k = G) ∧ Hid (k ≠ 0) ∧ Hid (k ≤ z) ∧ n' ≤ 10000000 ∧ Below w.heap.size w wr ∧ Sl wr A n c (dig X))
                case atStart => exact ⟨A', n', c', rfl, hs', HG, HZ, Lib.hid (Nat.le_refl _), hn', hbl, hs⟩
                case round =>
                  clear hs hbl hs' HG HZ hn' hz'
                  obtain ⟨A', n', c', rfl, hs', HG, HZ, HZL, hn', hbl, hs⟩ := hrel
                  by_cases hev : gk % 2 = 0
                  · have HE2 := Lib.hid hev
                    clear hev
                    have hlt : gk / 2 < gk := by have := HZ.out; omega
                    have HG2 : Hid (X.gcd (gk / 2) = G) := Lib.hid (by rw [gcd_half' (by rw [HG.out]; exact HO.out) HE2.out]; exact HG.out)
                    have HZ2 : Hid (gk / 2 ≠ 0) := Lib.hid (by have := HE2.out; have := HZ.out; omega)
                    have HZL2 : Hid (gk / 2 ≤ z) := Lib.hid (by have := HZL.out; omega)
                    go_wp2_with fail
                    refine (reven_any A' n' c' gk _ hs' (by omega) true (by rw [decide_eq_true HE2.out])).mono ?_
                    rintro e w6 ⟨rfl, rfl⟩
                    go_wp2_with fail
                    refine (rhalf_any A' n' c' gk _ hs' (by omega)).mono ?_
                    rintro e w7 ⟨A7, n7, c7, rfl, g7, b7⟩
                    have hn7 : n7 ≤ n' := by rw [← g7.len, ← hs'.len]; exact len_mono (by omega)
                    have hs7 := hs.below b7.bel
                    have hbl7 := bthen hbl b7.bel
                    go_wp2_with fail
                    go_roundg (gk / 2)
                    case measure => exact hlt
                    case rel => exact ⟨_, _, _, rfl, g7, HG2, HZ2, HZL2, by omega, hbl7, hs7⟩
                  · obtain ⟨Z, hZ⟩ : ∃ Z, Hid (Z = gk) := ⟨_, rfl⟩
                    have HE2 : Hid (Z % 2 = 1) := Lib.hid (by rw [hZ.out]; omega)
                    clear hev
                    rw [← hZ.out] at hs' HG HZ HZL
                    go_wp2_with fail
                    refine (reven_any A' n' c' Z _ hs' (by omega) false (by rw [decide_eq_false (by have := HE2.out; omega)])).mono ?_
                    rintro e w6 ⟨rfl, rfl⟩
                    go_wp2_with fail
                    rcases Nat.lt_trichotomy X Z with hxz | hxz | hxz
                    · have HLE : Hid (X ≤ Z) := Lib.hid (by omega)
                      refine (rorder_lt A A' n n' c c' X Z _ hs hs' (by omega) (by omega) hxz).mono ?_
                      rintro e w8 ⟨rfl, kk, rfl⟩
                      clear hxz
                      go_wp2_with fail
                      refine (rminus_any A' A n' n c' c Z X _ (hs'.drewN kk) (hs.drewN kk) (by omega) (by omega) HLE.out).mono ?_
                      rintro e w9 ⟨A9, n9, c9, rfl, g9, b9⟩
                      have hn9 : n9 ≤ n' := by rw [← g9.len, ← hs'.len]; exact len_mono (Nat.sub_le _ _)
                      have hs9 := (hs.drewN kk).below b9.bel
                      have hbl9 := bthen (below_drewN hbl kk) b9.bel
                      have HG9 : Hid (X.gcd (Z - X) = G) := Lib.hid (by rw [← HG.out]; exact gcd_minus HLE.out)
                      go_wp2_with fail
                      go_roundg (X + (Z - X))
                      case measure => have h1 := hKK.out; have h2 := HK2.out; have h3 := HXL.out; have h4 := HZL.out; have h5 := HX.out; have h6 := HLE.out; omega
                      case rel => exact ⟨_, _, _, _, _, _, X, Z - X, rfl, rfl, hs9, g9, rfl, HG9, HX, hn, by omega, hbl9⟩
                    · have HLE : Hid (X ≤ Z) := Lib.hid (by omega)
                      refine (rorder_eq A A' n n' c c' X Z _ hs hs' (by omega) (by omega) hxz).mono ?_
                      rintro e w8 ⟨rfl, kk, rfl⟩
                      clear hxz
                      go_wp2_with fail
                      refine (rminus_any A' A n' n c' c Z X _ (hs'.drewN kk) (hs.drewN kk) (by omega) (by omega) HLE.out).mono ?_
                      rintro e w9 ⟨A9, n9, c9, rfl, g9, b9⟩
                      have hn9 : n9 ≤ n' := by rw [← g9.len, ← hs'.len]; exact len_mono (Nat.sub_le _ _)
                      have hs9 := (hs.drewN kk).below b9.bel
                      have hbl9 := bthen (below_drewN hbl kk) b9.bel
                      have HG9 : Hid (X.gcd (Z - X) = G) := Lib.hid (by rw [← HG.out]; exact gcd_minus HLE.out)
                      go_wp2_with fail
                      go_roundg (X + (Z - X))
                      case measure => have h1 := hKK.out; have h2 := HK2.out; have h3 := HXL.out; have h4 := HZL.out; have h5 := HX.out; have h6 := HLE.out; omega
                      case rel => exact ⟨_, _, _, _, _, _, X, Z - X, rfl, rfl, hs9, g9, rfl, HG9, HX, hn, by omega, hbl9⟩
                    · have HLE : Hid (Z ≤ X) := Lib.hid (by omega)
                      refine (rorder_gt A A' n n' c c' X Z _ hs hs' (by omega) (by omega) hxz).mono ?_
                      rintro e w8 ⟨rfl, kk, rfl⟩
                      clear hxz
                      go_wp2_with fail
                      refine (rminus_any A A' n n' c c' X Z _ (hs.drewN kk) (hs'.drewN kk) (by omega) (by omega) HLE.out).mono ?_
                      rintro e w9 ⟨A9, n9, c9, rfl, g9, b9⟩
                      have hn9 : n9 ≤ n := by rw [← g9.len, ← hs.len]; exact len_mono (Nat.sub_le _ _)
                      have hs9 := (hs'.drewN kk).below b9.bel
                      have hbl9 := bthen (below_drewN hbl kk) b9.bel
                      have HG9 : Hid (Z.gcd (X - Z) = G) := Lib.hid (by rw [← HG.out, Nat.gcd_comm X Z]; exact gcd_minus HLE.out)
                      go_wp2_with fail
                      go_roundg (Z + (X - Z))
                      case measure => have h1 := hKK.out; have h2 := HK2.out; have h3 := HXL.out; have h4 := HZL.out; have h5 := HZ.out; have h6 := HLE.out; omega
                      case rel => exact ⟨_, _, _, _, _, _, Z, X - Z, rfl, rfl, hs9, g9, rfl, HG9, HZ, hn', by omega, hbl9⟩
      · have HE1 := Lib.hid hc
        have HE2 := Lib.hid hcy
        clear hc hcy
        go_wp2_with fail
        refine (reven_any A n c gk _ hs (by omega) true (by rw [decide_eq_true HE1.out])).mono ?_
        rintro e w1 ⟨rfl, rfl⟩
        go_wp2_with fail
        refine (reven_any A' n' c' y _ hs' (by omega) false (by rw [decide_eq_false (by have := HE2.out; omega)])).mono ?_
        rintro e w2 ⟨rfl, rfl⟩
        go_wp2_with fail
        go_loopg [0, 1] (gk + y) (fun k sa sb wr => ∃ (A : Option Addr) (n c : Nat) (A' : Option Addr) (n' c' x z : Nat), sa = .slice A n c ∧ sb = .slice A' n' c' ∧ Sl wr A n c (dig x) ∧ Sl wr A' n' c' (dig z) ∧
            Hid (k = x + z) ∧ Hid (x.gcd z = G) ∧ Hid (x ≠ 0) ∧ n ≤ 10000000 ∧ n' ≤ 10000000 ∧ Below w.heap.size w wr)
        case atStart => exact ⟨A, n, c, A', n', c', _, y, rfl, rfl, hs, hs', rfl, hG2, Lib.hid HN1.out.1, hn, hn', hbl⟩
        case round =>
          clear hs hs' hn hn' hbl
          obtain ⟨A, n, c, A', n', c', x, z, rfl, rfl, hs, hs', HK, HG, HX, hn, hn', hbl⟩ := hrel
          by_cases hz : z = 0
          · have hz' : n' = 0 := by rw [← hs'.len]; exact len_dig_zero.2 hz
            have HXG : Hid (x = G) := Lib.hid (by rw [← HG.out, hz, Nat.gcd_zero_right])
            rw [HXG.out] at hs
            clear hz
            subst hz'
            go_wp2_with fail
            go_loopg [0, 6] t (fun k sa si wr => ∃ (A : Option Addr) (n c j : Nat), sa = .slice A n c ∧ si = .int .i64 (j : Int) ∧ Hid (j + k = t) ∧ j ≤ t ∧ Sl wr A n c (dig (G * 2 ^ j)) ∧ n ≤ 100000000 ∧ Below w.heap.size w wr)
            case atStart => exact ⟨A, n, c, 0, rfl, rfl, Lib.hid (by omega), by omega, by rw [Nat.pow_zero, Nat.mul_one]; exact hs, by omega, hbl⟩
            case round =>
              clear hs hn hbl
              obtain ⟨A, n, c, j, rfl, rfl, HJ, hjt, hs, hn, hbl⟩ := hrel
              by_cases hj : j < t
              · have HS2 : Hid (G * 2 ^ j + G * 2 ^ j = G * 2 ^ (j + 1)) := Lib.hid (by rw [Nat.pow_succ, ← Nat.mul_assoc]; omega)
                have HLE : Hid ((dig (G * 2 ^ (j + 1))).length ≤ 100000000) := Lib.hid (by
                  have h1 : G * 2 ^ (j + 1) ≤ a.gcd b := by rw [← HG1.out]; exact Nat.mul_le_mul_left _ (Nat.pow_le_pow_right (by decide) hj)
                  have := len_mono h1
                  have := HBD.out.2
                  omega)
                go_wp2_with fail
                refine (rplus_any A A n n c c _ _ _ hs hs (by omega) (by omega)).mono ?_
                rintro e w5 ⟨A5, n5, c5, rfl, g5, b5⟩
                rw [HS2.out] at g5
                have hn5 : n5 ≤ 100000000 := by rw [← g5.len]; exact HLE.out
                have hbl5 := bthen hbl b5.bel
                have HJ2 : Hid (j + 1 + (gk - 1) = t) := Lib.hid (by have := HJ.out; omega)
                have hlt : gk - 1 < gk := by have := HJ.out; omega
                go_wp2_with fail
                go_roundg (gk - 1)
                case measure => exact hlt
                case rel => exact ⟨_, _, _, j + 1, rfl, by go_num, HJ2, by omega, g5, hn5, hbl5⟩
              · have HEQ : Hid (G * 2 ^ j = a.gcd b) := Lib.hid (by rw [show j = t from by omega]; exact HG1.out)
                go_wp2_with fail
                go_ret
                exact ⟨_, _, _, rfl, by rw [← HEQ.out]; exact hs, hbl⟩
          · have hz' : 0 < n' := by rw [← hs'.len]; exact len_dig_pos.2 hz
            have HZ := Lib.hid hz
            clear hz
            obtain ⟨KK, hKK⟩ : ∃ KK, Hid (KK = gk) := ⟨_, rfl⟩
            have HK2 : Hid (KK = x + z) := Lib.hid (by rw [hKK.out]; exact HK.out)
            go_wp2_with fail
            go_loopg [0] x (fun k sa wr => ∃ (A : Option Addr) (n c : Nat), sa = .slice A n c ∧ Sl wr A n c (dig k) ∧ Hid (k.gcd z = G) ∧ Hid (k ≠ 0) ∧ Hid (k ≤ x) ∧ n ≤ 10000000 ∧ Below w.heap.size w wr ∧ Sl wr A' n' c' (dig z))
            case atStart => exact ⟨A, n, c, rfl, hs, HG, HX, Lib.hid (Nat.le_refl _), hn, hbl, hs'⟩
            case round =>
              clear hs hn hbl hs' HG HX
              obtain ⟨A, n, c, rfl, hs, HG, HX, HXL, hn, hbl, hs'⟩ := hrel
              by_cases hev : gk % 2 = 0
              · have HE := Lib.hid hev
                clear hev
                have hlt : gk / 2 < gk := by have := HX.out; omega
                have HG2 : Hid ((gk / 2).gcd z = G) := Lib.hid (by rw [gcd_half (by rw [HG.out]; exact HO.out) HE.out]; exact HG.out)
                have HX2 : Hid (gk / 2 ≠ 0) := Lib.hid (by have := HE.out; have := HX.out; omega)
                have HXL2 : Hid (gk / 2 ≤ x) := Lib.hid (by have := HXL.out; omega)
                go_wp2_with fail
                refine (reven_any A n c gk _ hs (by omega) true (by rw [decide_eq_true HE.out])).mono ?_
                rintro e w6 ⟨rfl, rfl⟩
                go_wp2_with fail
                refine (rhalf_any A n c gk _ hs (by omega)).mono ?_
                rintro e w7 ⟨A7, n7, c7, rfl, g7, b7⟩
                have hn7 : n7 ≤ n := by rw [← g7.len, ← hs.len]; exact len_mono (by omega)
                have hs7 := hs'.below b7.bel
                have hbl7 := bthen hbl b7.bel
                go_wp2_with fail
                go_roundg (gk / 2)
                case measure => exact hlt
                case rel => exact ⟨_, _, _, rfl, g7, HG2, HX2, HXL2, by omega, hbl7, hs7⟩
              · obtain ⟨X, hX⟩ : ∃ X, Hid (X = gk) := ⟨_, rfl⟩
                have HE : Hid (X % 2 = 1) := Lib.hid (by rw [hX.out]; omega)
                clear hev
                rw [← hX.out] at hs HG HX HXL
                go_wp2_with fail
                refine (reven_any A n c X _ hs (by omega) false (by rw [decide_eq_false (by have := HE.out; omega)])).mono ?_
                rintro e w6 ⟨rfl, rfl⟩
                go_wp2_with fail
                go_loopg [1] z (fun k sb wr => ∃ (A' : Option Addr) (n' c' : Nat), sb = .slice A' n' c' ∧ Sl wr A' n' c' (dig k) ∧ Hid (X.gcd k = G) ∧ Hid (k ≠ 0) ∧ Hid (k ≤ z) ∧ n' ≤ 10000000 ∧ Below w.heap.size w wr ∧ Sl wr A n c (dig X))
                case atStart => exact ⟨A', n', c', rfl, hs', HG, HZ, Lib.hid (Nat.le_refl _), hn', hbl, hs⟩
                case round =>
                  clear hs hbl hs' HG HZ hn' hz'
                  obtain ⟨A', n', c', rfl, hs', HG, HZ, HZL, hn', hbl, hs⟩ := hrel
                  by_cases hev : gk % 2 = 0
                  · have HE2 := Lib.hid hev
                    clear hev
                    have hlt : gk / 2 < gk := by have := HZ.out; omega
                    have HG2 : Hid (X.gcd (gk / 2) = G) := Lib.hid (by rw [gcd_half' (by rw [HG.out]; exact HO.out) HE2.out]; exact HG.out)
                    have HZ2 : Hid (gk / 2 ≠ 0) := Lib.hid (by have := HE2.out; have := HZ.out; omega)
                    have HZL2 : Hid (gk / 2 ≤ z) := Lib.hid (by have := HZL.out; omega)
                    go_wp2_with fail
                    refine (reven_any A' n' c' gk _ hs' (by omega) true (by rw [decide_eq_true HE2.out])).mono ?_
                    rintro e w6 ⟨rfl, rfl⟩
                    go_wp2_with fail
                    refine (rhalf_any A' n' c' gk _ hs' (by omega)).mono ?_
                    rintro e w7 ⟨A7, n7, c7, rfl, g7, b7⟩
                    have hn7 : n7 ≤ n' := by rw [← g7.len, ← hs'.len]; exact len_mono (by omega)
                    have hs7 := hs.below b7.bel
                    have hbl7 := bthen hbl b7.bel
                    go_wp2_with fail
                    go_roundg (gk / 2)
                    case measure => exact hlt
                    case rel => exact ⟨_, _, _, rfl, g7, HG2, HZ2, HZL2, by omega, hbl7, hs7⟩
                  · obtain ⟨Z, hZ⟩ : ∃ Z, Hid (Z = gk) := ⟨_, rfl⟩
                    have HE2 : Hid (Z % 2 = 1) := Lib.hid (by rw [hZ.out]; omega)
                    clear hev
                    rw [← hZ.out] at hs' HG HZ HZL
                    go_wp2_with fail
                    refine (reven_any A' n' c' Z _ hs' (by omega) false (by rw [decide_eq_false (by have := HE2.out; omega)])).mono ?_
                    rintro e w6 ⟨rfl, rfl⟩
                    go_wp2_with fail
                    rcases Nat.lt_trichotomy X Z with hxz | hxz | hxz
                    · have HLE : Hid (X ≤ Z) := Lib.hid (by omega)
                      refine (rorder_lt A A' n n' c c' X Z _ hs hs' (by omega) (by omega) hxz).mono ?_
                      rintro e w8 ⟨rfl, kk, rfl⟩
                      clear hxz
                      go_wp2_with fail
                      refine (rminus_any A' A n' n c' c Z X _ (hs'.drewN kk) (hs.drewN kk) (by omega) (by omega) HLE.out).mono ?_
                      rintro e w9 ⟨A9, n9, c9, rfl, g9, b9⟩
                      have hn9 : n9 ≤ n' := by rw [← g9.len, ← hs'.len]; exact len_mono (Nat.sub_le _ _)
                      have hs9 := (hs.drewN kk).below b9.bel
                      have hbl9 := bthen (below_drewN hbl kk) b9.bel
                      have HG9 : Hid (X.gcd (Z - X) = G) := Lib.hid (by rw [← HG.out]; exact gcd_minus HLE.out)
                      go_wp2_with fail
                      go_roundg (X + (Z - X))
                      case measure => have h1 := hKK.out; have h2 := HK2.out; have h3 := HXL.out; have h4 := HZL.out; have h5 := HX.out; have h6 := HLE.out; omega
                      case rel => exact ⟨_, _, _, _, _, _, X, Z - X, rfl, rfl, hs9, g9, rfl, HG9, HX, hn, by omega, hbl9⟩
                    · have HLE : Hid (X ≤ Z) := Lib.hid (by omega)
                      refine (rorder_eq A A' n n' c c' X Z _ hs hs' (by omega) (by omega) hxz).mono ?_
                      rintro e w8 ⟨rfl, kk, rfl⟩
                      clear hxz
                      go_wp2_with fail
                      refine (rminus_any A' A n' n c' c Z X _ (hs'.drewN kk) (hs.drewN kk) (by omega) (by omega) HLE.out).mono ?_
                      rintro e w9 ⟨A9, n9, c9, rfl, g9, b9⟩
                      have hn9 : n9 ≤ n' := by rw [← g9.len, ← hs'.len]; exact len_mono (Nat.sub_le _ _)
                      have hs9 := (hs.drewN kk).below b9.bel
                      have hbl9 := bthen (below_drewN hbl kk) b9.bel
                      have HG9 : Hid (X.gcd (Z - X) = G) := Lib.hid (by rw [← HG.out]; exact gcd_minus HLE.out)
                      go_wp2_with fail
                      go_roundg (X + (Z - X))
                      case measure => have h1 := hKK.out; have h2 := HK2.out; have h3 := HXL.out; have h4 := HZL.out; have h5 := HX.out; have h6 := HLE.out; omega
                      case rel => exact ⟨_, _, _, _, _, _, X, Z - X, rfl, rfl, hs9, g9, rfl, HG9, HX, hn, by omega, hbl9⟩
                    · have HLE : Hid (Z ≤ X) := Lib.hid (by omega)
                      refine (rorder_gt A A' n n' c c' X Z _ hs hs' (by omega) (by omega) hxz).mono ?_
                      rintro e w8 ⟨rfl, kk, rfl⟩
                      clear hxz
                      go_wp2_with fail
                      refine (rminus_any A A' n n' c c' X Z _ (hs.drewN kk) (hs'.drewN kk) (by omega) (by omega) HLE.out).mono ?_
                      rintro e w9 ⟨A9, n9, c9, rfl, g9, b9⟩
                      have hn9 : n9 ≤ n := by rw [← g9.len, ← hs.len]; exact len_mono (Nat.sub_le _ _)
                      have hs9 := (hs'.drewN kk).below b9.bel
                      have hbl9 := bthen (below_drewN hbl kk) b9.bel
                      have HG9 : Hid (Z.gcd (X - Z) = G) := Lib.hid (by rw [← HG.out, Nat.gcd_comm X Z]; exact gcd_minus HLE.out)
                      go_wp2_with fail
                      go_roundg (Z + (X - Z))
                      case measure => have h1 := hKK.out; have h2 := HK2.out; have h3 := HXL.out; have h4 := HZL.out; have h5 := HZ.out; have h6 := HLE.out; omega
                      case rel => exact ⟨_, _, _, _, _, _, Z, X - Z, rfl, rfl, hs9, g9, rfl, HG9, HZ, hn', by omega, hbl9⟩
end Go.Proofs.YtaahbabdbopphaaDoor
namespace Go.Proofs.YtaahbabdbopphaaDoor
open Go.RowKit Mx
set_option maxRecDepth 100000
set_option maxHeartbeats 1000000 in
theorem rbits_any (A1 : Option Addr) (n1 c1 a : Nat) (w : World) (h1 : Sl w A1 n1 c1 (dig a)) (hl1 : n1 ≤ 10000000) :
    Calls Tryd.prog 111 #[.slice A1 n1 c1] w (fun e w' => e = .returned (.int .i64 (blen a : Int)) ∧ w' = w) := by
  by_cases h0 : n1 = 0
  · have HB : Hid (blen a = 0) := Lib.hid (by unfold blen; rw [if_pos (len_dig_zero.1 (by rw [h1.len]; exact h0))])
    subst h0
    go_enter Tryd.func111, Tryd.ntmps111
    go_wp2_with fail
    refine (rtrim_dig A1 0 c1 a _ h1 (by omega)).mono ?_
    rintro e w1 ⟨m1, d1, rfl, k1, rfl⟩
    have hm : m1 = 0 := by rw [← k1.len, h1.len]
    subst hm
    go_wp2_with fail
    go_ret
    exact ⟨by rw [HB.out]; rfl, rfl⟩
  · obtain ⟨t, ht⟩ : ∃ t, t = (dig a).getD (n1 - 1) 0 := ⟨_, rfl⟩
    have ha0 : a ≠ 0 := fun e => h0 (by rw [← h1.len, e, dig_zero]; rfl)
    have hbl : blen a = 32 * (n1 - 1) + Lib.bitLen t := by unfold blen; rw [if_neg ha0, h1.len, ← ht]
    have ht32 : t < 4294967296 := by rw [ht]; exact ds_get (ds_dig a) _
    have hble : blen a ≤ 320000000 := by have := bitLen_le_32 ht32; omega
    obtain ⟨B, hB⟩ : ∃ B, Hid (B = blen a) := ⟨_, rfl⟩
    have hB2 : B ≤ 320000000 := by rw [hB.out]; exact hble
    have HBL : Hid (32 * (n1 - 1) + Lib.bitLen t = B) := Lib.hid (by rw [hB.out]; exact hbl.symm)
    rw [← hB.out]
    have hn0 : 0 < n1 := by omega
    have hnf : ((n1 : Int) == 0) = false := beq_eq_false_iff_ne.2 (by omega)
    clear hbl ha0 hble
    go_enter Tryd.func111, Tryd.ntmps111
    go_wp2_with fail
    refine (rtrim_dig A1 n1 c1 a _ h1 (by omega)).mono ?_
    rintro e w1 ⟨m1, d1, rfl, k1, hw⟩
    replace hw := hw.symm
    subst hw
    have hm := h1.len.symm.trans k1.len
    subst hm
    obtain ⟨ad1, rfl, hc1⟩ := k1.at_ (k := n1 - 1) (by omega)
    rw [← ht] at hc1
    have i1 : (0 : Int) ≤ (n1 : Int) - 1 := by omega
    have i2 : (n1 : Int) - 1 < (n1 : Int) := by omega
    have i3 : ((n1 : Int) - 1).toNat = n1 - 1 := by omega
    have HT := Lib.hid ht
    clear ht h0
    go_wp2_with fail
    go_loop [3, 4] (fun s3 s4 => ∃ (j x : Nat), s3 = .int .i64 (j : Int) ∧ s4 = .int .u32 (x : Int) ∧ x < 4294967296 ∧ Hid (j + Lib.bitLen x = B)) (fun _ s4 => (intOf s4).toNat)
    case atStart => exact ⟨32 * (n1 - 1), t, by go_num, rfl, ht32, HBL⟩
    case round =>
      obtain ⟨j, x, rfl, rfl, hx, HJ⟩ := hrel
      by_cases hx0 : x = 0
      · have HE : Hid (j = B) := Lib.hid (by rw [← HJ.out, hx0]; rfl)
        subst hx0
        go_wp2_with fail
        go_ret
        exact ⟨by rw [← HE.out]; rfl, rfl⟩
      · have hxp : 0 < x := by omega
        have HJ2 : Hid (j + 1 + Lib.bitLen (x / 2) = B) := Lib.hid (by rw [← HJ.out, Lib.bitLen_half x hx0 (by omega)]; omega)
        have hj : j ≤ 320000000 := by have := HJ.out; omega
        clear hx0
        go_wp2_with fail
        go_round
        case rel => exact ⟨j + 1, x / 2, by go_num, by go_num, by omega, HJ2⟩
        case measure => simp [intOf]; omega
end Go.Proofs.YtaahbabdbopphaaDoor
namespace Go.Proofs.YtaahbabdbopphaaDoor
open Go.RowKit Mx
set_option maxRecDepth 100000

set_option maxHeartbeats 2000000 in
theorem rdiv_one (A1 A2 : Option Addr) (n1 c1 c2 a d : Nat) (w : World) (h1 : Sl w A1 n1 c1 (dig a)) (h2 : Sl w A2 1 c2 (dig d)) (hl1 : n1 ≤ 10000000) :
    Calls Tryd.prog 113 #[.slice A1 n1 c1, .slice A2 1 c2] w (DivPost (a / d) (a % d) w) := by
  have hd1 : d < 4294967296 := by have := len_le_iff.1 (Nat.le_of_eq h2.len); rwa [Nat.pow_one] at this
  have hd0 : 0 < d := by have := len_dig_pos.1 (show 0 < (dig d).length by rw [h2.len]; decide); omega
  obtain ⟨i0, hi0, hz0, hz1, hz2⟩ := info_parts Tryd.info57
  go_enter Tryd.func113, Tryd.ntmps113
  go_wp2_with fail
  refine (rtrim_dig A1 n1 c1 a _ h1 (by omega)).mono ?_
  rintro e w1 ⟨m1, d1, rfl, k1, hw⟩
  replace hw := hw.symm
  subst hw
  have hm := h1.len.symm.trans k1.len
  subst hm
  go_wp2_with fail
  refine (rtrim_dig A2 1 c2 d _ h2 (by omega)).mono ?_
  rintro e w2 ⟨m2, d2, rfl, k2, hw⟩
  replace hw := hw.symm
  subst hw
  have hm : m2 = 1 := k2.len.symm.trans h2.len
  subst hm
  obtain ⟨ad2, rfl, hcd⟩ := k2.at_ (k := 0) (by omega)
  rw [dig_get0, Nat.mod_eq_of_lt hd1, show ad2.add 0 = ad2 from rfl] at hcd
  have hbd : ad2.block < w.heap.size := World.block_lt_of_cell? w _ hcd
  replace h1 := k1
  clear k1 k2 h2
  go_wp2_with ((with_reducible refine wpList_make_full _ rfl _ _ 22 rfl w.heap.size 57 i0 (.int .u32 0) 1 Tryd.underlying22 hi0 hz0 hz1 .i64 .i64 _ _ n1 rfl rfl (by omega) (by omega) (by rw [hz2]; omega) (by simp only [maxLen]; omega) (Nat.le_refl _) ?_); intro w1 hown hgrow)
  have hrow := Row.made (Below.refl _ w) hown hgrow
  clear hown hgrow
  go_loopw [7, 8] (fun r i wr => ∃ (k R : Nat) (out : List Nat), k ≤ n1 ∧ i = .int .i64 ((k : Int) - 1) ∧ r = .int .u64 R ∧ R < d ∧ Row w wr w.heap.size n1 n1 out ∧
      Hid (val ((dig a).drop k) = d * val (out.drop k) + R))
    (fun _ i _ => (intOf i + 1).toNat)
  case atStart => exact ⟨n1, 0, List.replicate n1 0, Nat.le_refl _, by go_num, rfl, hd0, hrow, Lib.hid (by rw [val_drop_ge _ _ (by rw [h1.len]; omega), val_drop_ge _ _ (by simp)]; omega)⟩
  case round =>
    clear hrow
    obtain ⟨k, R, out, hk, rfl, rfl, hR32, hR, HV⟩ := hrel
    have hl := hR.len
    by_cases hk0 : k = 0
    · subst hk0
      have hq : Hid (val out = a / d ∧ R = a % d) := Lib.hid (by
        have hv := HV.out
        rw [List.drop_zero, List.drop_zero, val_dig] at hv
        rw [hv]
        exact ⟨by rw [Nat.mul_add_div hd0, Nat.div_eq_of_lt hR32]; omega, by rw [Nat.mul_add_mod, Nat.mod_eq_of_lt hR32]⟩)
      clear hl
      go_wp2_with fail
      refine (rtrim_any _ _ out _ n1 hR.sl hR.ds (by omega)).mono ?_
      rintro e w3 ⟨n4, c4, rfl, hs, hw⟩
      replace hw := hw.symm
      subst hw
      rw [hq.out.1] at hs
      have hb := hR.bel
      have hs2 := hs.alloc (.cells #[.int .u32 (R : Int)] 57)
      have hb2 := below_alloc hb (.cells #[.int .u32 (R : Int)] 57)
      have hR9 : R < 4294967296 := by omega
      have hrow1 := World.ownsRow_lit (e := 57) (size := 1) (base := wr.heap.size) wr #[.int .u32 (R : Int)] 1 (Nat.le_refl _) (by simp [maxLen]) rfl
      have hsl1 : Sl (wr.alloc (.cells #[.int .u32 (R : Int)] 57)) (some ⟨wr.heap.size, 0, none⟩) 1 1 [R] := by
        refine Sl.of_own (base := wr.heap.size) (e := 57) ?_
        have e : u32s [R] = (#[Value.int .u32 (R : Int)] : Array Value).toList := by simp [u32s]
        rw [e]; exact hrow1
      clear hrow1
      have hds1 : Ds [R] := by intro x hx; simp at hx; omega
      have hv1 : Hid (val [R] = a % d) := Lib.hid (by rw [← hq.out.2]; simp [val])
      go_wp2_with fail
      refine (rtrim_any _ _ [R] _ 1 hsl1 hds1 (by omega)).mono ?_
      rintro e w5 ⟨n5, c5, rfl, hs5, hw⟩
      replace hw := hw.symm
      subst hw
      rw [hv1.out] at hs5
      go_wp2_with fail
      go_ret2
      exact ⟨_, _, _, _, _, _, rfl, hs2, hs5, hb2⟩
    · obtain ⟨x, hx⟩ : ∃ x : Nat, x = (dig a).getD (k - 1) 0 := ⟨_, rfl⟩
      have hx32 : x < 4294967296 := by rw [hx]; exact ds_get (ds_dig a) _
      obtain ⟨ad1, rfl, hc1⟩ := (h1.below hR.bel).at_ (k := k - 1) (by omega)
      rw [← hx] at hc1
      have hcell := hR.cell (k := k - 1) (by omega)
      have hfz := hR.frozen (k - 1)
      have hcb := cell_below hR.bel hcd
      have hcb2 : ∀ u, (wr.setCell ⟨w.heap.size, k - 1, none⟩ u).cell? ad2 = some (.int .u32 (d : Int)) := fun u => by
        rw [World.cell?_setCell_other _ _ _ _ (by intro e; have e2 := congrArg Addr.block e; simp at e2; omega)]
        exact hcb
      have i1 : (0 : Int) ≤ (k : Int) - 1 := by omega
      have i2 : (k : Int) - 1 < (n1 : Int) := by omega
      have i3 : ((k : Int) - 1).toNat = k - 1 := by omega
      obtain ⟨s, hs⟩ : ∃ s : Nat, s = R * 4294967296 + x := ⟨_, rfl⟩
      have hor := or_hi R x s (by omega) hx32 hs
      have hs0 : (s : Int) ≤ 18446744073709551615 := by omega
      have HN : Hid (val ((dig a).drop (k - 1)) = d * val ((out.set (k - 1) (s / d)).drop (k - 1)) + s % d) := Lib.hid (by
        rw [val_drop' (dig a), ← hx, val_drop' (out.set _ _), getD_set_same _ _ _ (by omega), show k - 1 + 1 = k from by omega, List.drop_set_of_lt (by omega)]
        exact over_step HV.out (by rw [← hs]; exact (Nat.div_add_mod s d).symm))
      have HQ : Hid (s / d < 4294967296 ∧ s % d < d) := Lib.hid ⟨by rw [Nat.div_lt_iff_lt_mul hd0]; have : (R + 1) * 4294967296 ≤ d * 4294967296 := Nat.mul_le_mul_right _ hR32; rw [Nat.mul_comm]; omega, Nat.mod_lt _ hd0⟩
      have hq0 : (0 : Int) ≤ (s : Int) / (d : Int) := Int.ediv_nonneg (by omega) (by omega)
      have hq1 : (s : Int) / (d : Int) ≤ 4294967295 := by have := HQ.out.1; rw [← Int.natCast_ediv]; omega
      have HS := Lib.hid hs
      clear hx hl hs h1
      go_wp2_with fail
      go_roundw
      case rel => exact ⟨k - 1, s % d, out.set (k - 1) (s / d), by omega, by go_num, by simp, HQ.out.2, hR.set (k - 1) _ (by push_cast; omega) HQ.out.1, HN⟩
      case measure => simp [intOf]; omega
end Go.Proofs.YtaahbabdbopphaaDoor
namespace Go.Proofs.YtaahbabdbopphaaDoor
open Go.RowKit Mx
set_option maxRecDepth 100000

theorem bitLen_lt (x : Nat) (h : x < 2 ^ 64) : x < 2 ^ Lib.bitLen x := by
  induction x using Nat.strongRecOn with
  | _ x ih =>
    by_cases h0 : x = 0
    · subst h0; exact Nat.pow_pos (by decide)
    · rw [Lib.bitLen_half x h0 h, Nat.pow_add]
      have := ih (x / 2) (by omega) (by omega)
      omega
theorem blen_lt (a : Nat) : a < 2 ^ blen a := by
  unfold blen
  by_cases h : a = 0
  · rw [if_pos h, h]; decide
  · rw [if_neg h]
    have hp := len_dig_pos.2 h
    obtain ⟨m, hm⟩ : ∃ m, (dig a).length = m + 1 := ⟨_, (Nat.succ_pred_eq_of_pos hp).symm⟩
    rw [hm, show m + 1 - 1 = m from rfl, dig_get, pow32]
    have h1 := len_le_iff.1 (Nat.le_of_eq hm)
    have h2 : a / 2 ^ (32 * m) < 4294967296 := by
      rw [Nat.div_lt_iff_lt_mul (Nat.pow_pos (by decide)), Nat.mul_comm, ← pow32, ← Nat.pow_succ]; exact h1
    rw [Nat.mod_eq_of_lt h2]
    have h3 : a / 2 ^ (32 * m) < 2 ^ Lib.bitLen (a / 2 ^ (32 * m)) := bitLen_lt _ (Nat.lt_of_lt_of_le h2 (by decide))
    rw [Nat.pow_add]
    rw [Nat.div_lt_iff_lt_mul (Nat.pow_pos (by decide))] at h3
    rw [Nat.mul_comm]; exact h3
theorem rorder_ge (A1 A2 : Option Addr) (n1 n2 c1 c2 a b : Nat) (w : World) (h1 : Sl w A1 n1 c1 (dig a)) (h2 : Sl w A2 n2 c2 (dig b)) (hl1 : n1 ≤ 1000000000) (hl2 : n2 ≤ 1000000000) (h : b ≤ a) :
    Calls Tryd.prog 106 #[.slice A1 n1 c1, .slice A2 n2 c2] w (CmpGe w) := by
  rcases Nat.eq_or_lt_of_le h with h | h
  · exact (rorder_eq A1 A2 n1 n2 c1 c2 a b w h1 h2 hl1 hl2 h.symm).mono fun e w' he => ⟨_, he.1, by omega, he.2⟩
  · exact (rorder_gt A1 A2 n1 n2 c1 c2 a b w h1 h2 hl1 hl2 h).mono fun e w' he => ⟨_, he.1, by omega, he.2⟩
theorem or_bit (o im : Nat) (him : im ≤ 31) (ho32 : o < 4294967296) (ho : o % 2 ^ (im + 1) = 0) : bits .or .u32 (o : Int) ((2 : Int) ^ im % 4294967296) = ((o + 2 ^ im : Nat) : Int) ∧ o + 2 ^ im < 4294967296 := by
  have h1 := pow_le_31 him
  have h := u32_or_nat o (2 ^ im) ho32 (by omega)
  have hj := nat_join (im + 1) o (2 ^ im) ho (by rw [Nat.pow_succ]; have := Nat.pow_pos (n := im) (show 0 < 2 by decide); omega)
  rw [hj] at h
  have e : ((2 ^ im : Nat) : Int) = (2 : Int) ^ im % 4294967296 := by
    have e1 : ((2 ^ im : Nat) : Int) = (2 : Int) ^ im := by rw [Int.natCast_pow]; rfl
    rw [← e1]; omega
  rw [e] at h
  refine ⟨h, ?_⟩
  have hlt : o ||| 2 ^ im < 2 ^ 32 := Nat.or_lt_two_pow (by omega) (by omega)
  rw [hj] at hlt
  omega
theorem val_bit {out : List Nat} {o i : Nat} (hl : i / 32 < out.length) (ho : o = out.getD (i / 32) 0) : val (out.set (i / 32) (o + 2 ^ (i % 32))) = val out + 2 ^ i := by
  have h := val_set out (i / 32) (o + 2 ^ (i % 32)) hl
  rw [← ho, Nat.mul_add] at h
  have e : 4294967296 ^ (i / 32) * 2 ^ (i % 32) = 2 ^ i := by rw [pow32, ← Nat.pow_add, show 32 * (i / 32) + i % 32 = i from Nat.div_add_mod i 32]
  rw [e] at h
  omega
set_option maxHeartbeats 2000000 in
theorem rdiv_big (A1 A2 : Option Addr) (n1 n2 c1 c2 a b : Nat) (w : World) (h1 : Sl w A1 n1 c1 (dig a)) (h2 : Sl w A2 n2 c2 (dig b)) (hl1 : n1 ≤ 10000000) (hl2 : n2 ≤ 10000000) (hn2 : 2 ≤ n2) :
    Calls Tryd.prog 113 #[.slice A1 n1 c1, .slice A2 n2 c2] w (DivPost (a / b) (a % b) w) := by
  have hnf : ((n2 : Int) == 1) = false := beq_eq_false_iff_ne.2 (by omega)
  have HB0 : Hid (0 < b) := Lib.hid (by have := len_dig_pos.1 (show 0 < (dig b).length by rw [h2.len]; omega); omega)
  obtain ⟨i0, hi0, hz0, hz1, hz2⟩ := info_parts Tryd.info57
  go_enter Tryd.func113, Tryd.ntmps113
  go_wp2_with fail
  refine (rtrim_dig A1 n1 c1 a _ h1 (by omega)).mono ?_
  rintro e w1 ⟨m1, d1, rfl, k1, hw⟩
  replace hw := hw.symm
  subst hw
  have hm := h1.len.symm.trans k1.len
  subst hm
  go_wp2_with fail
  refine (rtrim_dig A2 n2 c2 b _ h2 (by omega)).mono ?_
  rintro e w2 ⟨m2, d2, rfl, k2, hw⟩
  replace hw := hw.symm
  subst hw
  have hm := h2.len.symm.trans k2.len
  subst hm
  replace h1 := k1
  replace h2 := k2
  clear k1 k2
  go_wp2_with ((with_reducible refine wpList_make_full _ rfl _ _ 22 rfl w.heap.size 57 i0 (.int .u32 0) 1 Tryd.underlying22 hi0 hz0 hz1 .i64 .i64 _ _ n1 rfl rfl (by omega) (by omega) (by rw [hz2]; omega) (by simp only [maxLen]; omega) (Nat.le_refl _) ?_); intro w1 hown hgrow)
  have hrow := Row.made (Below.refl _ w) hown hgrow
  clear hown hgrow
  have hq1 := h1.below hrow.bel
  have hq2 := h2.below hrow.bel
  refine (rbits_any A1 n1 _ a _ hq1 (by omega)).mono ?_
  rintro e w3 ⟨rfl, hw⟩
  replace hw := hw.symm
  subst hw
  obtain ⟨B, hB⟩ : ∃ B, Hid (B = blen a) := ⟨_, rfl⟩
  have hB2 : B ≤ 320000000 ∧ B ≤ 32 * n1 := by rw [hB.out]; have := blen_le a; rw [h1.len] at this; omega
  rw [← hB.out]
  go_wp2_with fail
  go_loopw [9, 10] (fun r i wr => ∃ (A : Option Addr) (n c k : Nat) (out : List Nat), r = .slice A n c ∧ i = .int .i64 ((k : Int) - 1) ∧ k ≤ B ∧ n ≤ n2 ∧ Sl wr A n c (dig (a / 2 ^ k % b)) ∧ Row w wr w.heap.size n1 n1 out ∧
      Hid (val out = a / 2 ^ k / b * 2 ^ k) ∧ Hid (∀ ad, A = some ad → 0 < n → ad.block ≠ w.heap.size))
    (fun _ i _ => (intOf i + 1).toNat)
  case atStart =>
    have e0 : a / 2 ^ B = 0 := Nat.div_eq_of_lt (by rw [hB.out]; exact blen_lt a)
    refine ⟨none, 0, 0, B, List.replicate n1 0, rfl, by go_num, Nat.le_refl _, by omega, ?_, hrow, Lib.hid ?_, Lib.hid (fun ad h _ => by cases h)⟩
    · rw [e0, Nat.zero_mod, dig_zero]; exact ⟨rfl, Nat.le_refl _, Rd.nil_ _ _⟩
    · rw [e0, Nat.zero_div, Nat.zero_mul, val_replicate]
  case round =>
    clear hq1 hq2 hrow
    obtain ⟨A, n, c, k, out, rfl, rfl, hk, hn, hs, hR, HV, HF⟩ := hrel
    by_cases hk0 : k = 0
    · subst hk0
      have hq : Hid (val out = a / b) := Lib.hid (by have := HV.out; rw [Nat.pow_zero, Nat.div_one, Nat.mul_one] at this; exact this)
      rw [Nat.pow_zero, Nat.div_one] at hs
      go_wp2_with fail
      refine (rtrim_any _ _ out _ n1 hR.sl hR.ds (by omega)).mono ?_
      rintro e w3 ⟨n4, c4, rfl, hs4, hw⟩
      replace hw := hw.symm
      subst hw
      rw [hq.out] at hs4
      have hb := hR.bel
      go_wp2_with fail
      go_ret2
      exact ⟨_, _, _, _, _, _, rfl, hs4, hs, hb⟩
    · obtain ⟨i, hi⟩ : ∃ i, k = i + 1 := ⟨k - 1, by omega⟩
      subst hi
      have hii : (((i + 1 : Nat) : Int) - 1) = (i : Int) := by omega
      rw [hii]
      have HR0 : Hid (a / 2 ^ (i + 1) = a / 2 ^ i / 2) := Lib.hid (by rw [Nat.pow_succ, Nat.div_div_eq_div_mul])
      obtain ⟨r, hr⟩ : ∃ r, Hid (r = a / 2 ^ (i + 1) % b) := ⟨_, rfl⟩
      rw [← hr.out] at hs
      go_wp2_with fail
      refine (rplus_any A A n n c c r r _ hs hs (by omega) (by omega)).mono ?_
      rintro e w4 ⟨A4, n4, c4, rfl, g4, b4⟩
      have hR4 := hR.later b4.bel
      have F4 : Hid (∀ ad, A4 = some ad → 0 < n4 → ad.block ≠ w.heap.size) := Lib.hid (fun ad h1 h2 => by have := b4.new ad h1 h2; have := hR.lt; omega)
      have h14 := h1.below hR4.bel
      have h24 := h2.below hR4.bel
      have hn4 : n4 ≤ n2 + 1 := by rw [← g4.len]; have := len_add r r; rw [hs.len] at this; omega
      have hiB : i / 32 < n1 := by omega
      obtain ⟨x, hx⟩ : ∃ x : Nat, x = (dig a).getD (i / 32) 0 := ⟨_, rfl⟩
      have hx32 : x < 4294967296 := by rw [hx]; exact ds_get (ds_dig a) _
      obtain ⟨ad1, rfl, hc1⟩ := h14.at_ hiB
      rw [← hx] at hc1
      have HX := Lib.hid hx
      have q1 : ((i : Int).tdiv 32) = ((i / 32 : Nat) : Int) := by rw [Int.tdiv_eq_ediv_of_nonneg (by omega)]; omega
      have q2 : ((i : Int).tmod 32) = ((i % 32 : Nat) : Int) := by rw [Int.tmod_eq_emod_of_nonneg (by omega)]; omega
      obtain ⟨id, hid⟩ : ∃ id, Hid (id = i / 32) := ⟨_, rfl⟩
      obtain ⟨im, him⟩ : ∃ im, Hid (im = i % 32) := ⟨_, rfl⟩
      have him2 : im ≤ 31 := by rw [him.out]; omega
      rw [← hid.out] at q1 hc1 hiB
      rw [← him.out] at q2
      obtain ⟨bt, hbt⟩ : ∃ bt, Hid (bt = a / 2 ^ i % 2) := ⟨_, rfl⟩
      have hand : bits .and .u32 ((x : Int) / 2 ^ im) 1 = (bt : Int) := by
        rw [show (x : Int) / 2 ^ im = ((x / 2 ^ im : Nat) : Int) from by rw [Int.natCast_ediv, Int.natCast_pow]; rfl, u32_and_one _ (Nat.lt_of_le_of_lt (Nat.div_le_self _ _) hx32), hbt.out, hx, him.out, bit_at]
      have hbt2 : bt ≤ 1 := by rw [hbt.out]; omega
      clear hx
      rcases (show bt = 0 ∨ bt = 1 by omega) with hb0 | hb1
      · subst hb0
        go_wp2_with fail
        rcases Nat.lt_or_ge (r + r) b with hlt | hge
        · have HS := Lib.hid (dstep_lt (A := a / 2 ^ i) (b := b) HB0.out (by rw [← HR0.out, ← hr.out, ← hbt.out]; omega))
          have HN : Hid (a / 2 ^ i % b = r + r) := Lib.hid (by rw [HS.out.2, ← HR0.out, ← hr.out, ← hbt.out]; omega)
          have HV2 : Hid (val out = a / 2 ^ i / b * 2 ^ i) := Lib.hid (by rw [HV.out, HS.out.1, HR0.out, Nat.pow_succ, Nat.mul_comm 2, Nat.mul_assoc, Nat.mul_comm 2])
          refine (rorder_lt A4 A2 n4 n2 c4 _ (r + r) b _ g4 h24 (by omega) (by omega) hlt).mono ?_
          rintro e w6 ⟨rfl, kk, rfl⟩
          have hR6 := hR4.later (below_drewN (Below.refl _ _) kk)
          have g6 := g4.drewN kk
          rw [← HN.out] at g6
          have hn5 : n4 ≤ n2 := by rw [← g4.len, ← h2.len]; exact len_mono (by omega)
          clear g4 h24 hR4 h1 h2 h14
          go_wp2_with fail
          go_roundw
          case rel => exact ⟨A4, n4, c4, i, out, rfl, by go_num, by omega, hn5, g6, hR6, HV2, F4⟩
          case measure => simp [intOf]
        · have HS := Lib.hid (dstep_ge (A := a / 2 ^ i) (b := b) HB0.out (by rw [← HR0.out, ← hr.out, ← hbt.out]; omega))
          have HN : Hid (a / 2 ^ i % b = r + r - b) := Lib.hid (by rw [HS.out.2, ← HR0.out, ← hr.out, ← hbt.out]; omega)
          refine (rorder_ge A4 A2 n4 n2 c4 _ (r + r) b _ g4 h24 (by omega) (by omega) hge).mono ?_
          rintro e w6 ⟨z, rfl, hz, kk, rfl⟩
          have hR6 := hR4.later (below_drewN (Below.refl _ _) kk)
          have g6 := g4.drewN kk
          have h26 := h24.drewN kk
          clear g4 h24 hR4
          go_wp2_with fail
          refine (rminus_any A4 A2 n4 n2 c4 _ (r + r) b _ g6 h26 (by omega) (by omega) hge).mono ?_
          rintro e w7 ⟨A7, n7, c7, rfl, g7, b7⟩
          rw [← HN.out] at g7
          have hR7 := hR6.later b7.bel
          have hsz := hR6.lt
          have F7 : Hid (∀ ad, A7 = some ad → 0 < n7 → ad.block ≠ w.heap.size) := Lib.hid (fun ad h1 h2 => by have := b7.new ad h1 h2; omega)
          have hn7 : n7 ≤ n2 := by rw [← g7.len, ← h2.len]; exact len_mono (by have := Nat.mod_lt (a / 2 ^ i) HB0.out; omega)
          have hcell := hR7.cell hiB
          have hfz := hR7.frozen id
          obtain ⟨o, ho⟩ : ∃ o : Nat, o = out.getD id 0 := ⟨_, rfl⟩
          rw [← ho] at hcell
          have ho32 : o < 4294967296 := by rw [ho]; exact hR7.get_lt _
          have hor := Lib.hid (or_bit o im him2 ho32 (by rw [ho, hid.out, him.out]; exact bit_free hR7.ds HV.out))
          have HV2 : Hid (val (out.set id (o + 2 ^ im)) = a / 2 ^ i / b * 2 ^ i) := Lib.hid (by
            have e := val_bit (out := out) (o := o) (i := i) (by rw [← hid.out, hR7.len]; exact hiB) (by rw [← hid.out]; exact ho)
            rw [← hid.out, ← him.out] at e
            rw [e, HV.out, HS.out.1, HR0.out, Nat.pow_succ, Nat.add_mul, Nat.one_mul, Nat.mul_comm 2, Nat.mul_assoc, Nat.mul_comm 2])
          have hs1 : o + 2 ^ im < 4294967296 := hor.out.2
          clear ho g6 h26 hR6 h1 h2 h14
          go_wp2_with fail
          go_region
          all_goals go_wp2_with fail
          go_roundw
          case rel => exact ⟨A7, n7, c7, i, out.set id (o + 2 ^ im), rfl, by go_num, by omega, hn7, (g7.far (fun ad h1 h2 => F7.out ad h1 h2) _).drew, (hR7.set id _ hor.out.1 hor.out.2).drew, HV2, F7⟩
          case measure => simp [intOf]
      · subst hb1
        have g41 := g4.alloc (.cells #[.int .u32 1] 57)
        have hR41 := hR4.later (below_alloc (Below.refl _ w4) (.cells #[.int .u32 1] 57))
        have h241 := h24.alloc (.cells #[.int .u32 1] 57)
        have hone : Sl (w4.alloc (.cells #[.int .u32 1] 57)) (some ⟨w4.heap.size, 0, none⟩) 1 1 (dig 1) := by
          refine Sl.of_own (base := w4.heap.size) (e := 57) ?_
          have e : u32s (dig 1) = (#[Value.int .u32 1] : Array Value).toList := by rw [dig_pos (by decide), show 1 / 4294967296 = 0 from rfl, dig_zero]; rfl
          rw [e]
          exact World.ownsRow_lit (e := 57) (size := 1) (base := w4.heap.size) w4 #[.int .u32 1] 1 (Nat.le_refl _) (by simp [maxLen]) rfl
        go_wp2_with fail
        refine (rplus_any A4 (some ⟨w4.heap.size, 0, none⟩) n4 1 c4 1 (r + r) 1 _ g41 hone (by omega) (by omega)).mono ?_
        rintro e w5 ⟨A5, n5, c5, rfl, g5, b5⟩
        have hR5 := hR41.later b5.bel
        have h25 := h241.below b5.bel
        have F5 : Hid (∀ ad, A5 = some ad → 0 < n5 → ad.block ≠ w.heap.size) := Lib.hid (fun ad h1 h2 => by have := b5.new ad h1 h2; have := hR41.lt; omega)
        have hn5' : n5 ≤ n2 + 3 := by rw [← g5.len]; have := len_add (r + r) 1; have := len_small (a := 1) (by decide); rw [g4.len] at *; omega
        clear g41 hR41 h241 hone g4 hR4 h24 F4
        go_wp2_with fail
        rcases Nat.lt_or_ge (r + r + 1) b with hlt | hge
        · have HS := Lib.hid (dstep_lt (A := a / 2 ^ i) (b := b) HB0.out (by rw [← HR0.out, ← hr.out, ← hbt.out]; omega))
          have HN : Hid (a / 2 ^ i % b = r + r + 1) := Lib.hid (by rw [HS.out.2, ← HR0.out, ← hr.out, ← hbt.out]; omega)
          have HV2 : Hid (val out = a / 2 ^ i / b * 2 ^ i) := Lib.hid (by rw [HV.out, HS.out.1, HR0.out, Nat.pow_succ, Nat.mul_comm 2, Nat.mul_assoc, Nat.mul_comm 2])
          refine (rorder_lt A5 A2 n5 n2 c5 _ (r + r + 1) b _ g5 h25 (by omega) (by omega) hlt).mono ?_
          rintro e w6 ⟨rfl, kk, rfl⟩
          have hR6 := hR5.later (below_drewN (Below.refl _ _) kk)
          have g6 := g5.drewN kk
          rw [← HN.out] at g6
          have hn5 : n5 ≤ n2 := by rw [← g5.len, ← h2.len]; exact len_mono (by omega)
          clear g5 h25 hR5 h1 h2 h14
          go_wp2_with fail
          go_roundw
          case rel => exact ⟨A5, n5, c5, i, out, rfl, by go_num, by omega, hn5, g6, hR6, HV2, F5⟩
          case measure => simp [intOf]
        · have HS := Lib.hid (dstep_ge (A := a / 2 ^ i) (b := b) HB0.out (by rw [← HR0.out, ← hr.out, ← hbt.out]; omega))
          have HN : Hid (a / 2 ^ i % b = r + r + 1 - b) := Lib.hid (by rw [HS.out.2, ← HR0.out, ← hr.out, ← hbt.out]; omega)
          refine (rorder_ge A5 A2 n5 n2 c5 _ (r + r + 1) b _ g5 h25 (by omega) (by omega) hge).mono ?_
          rintro e w6 ⟨z, rfl, hz, kk, rfl⟩
          have hR6 := hR5.later (below_drewN (Below.refl _ _) kk)
          have g6 := g5.drewN kk
          have h26 := h25.drewN kk
          clear g5 h25 hR5
          go_wp2_with fail
          refine (rminus_any A5 A2 n5 n2 c5 _ (r + r + 1) b _ g6 h26 (by omega) (by omega) hge).mono ?_
          rintro e w7 ⟨A7, n7, c7, rfl, g7, b7⟩
          rw [← HN.out] at g7
          have hR7 := hR6.later b7.bel
          have hsz := hR6.lt
          have F7 : Hid (∀ ad, A7 = some ad → 0 < n7 → ad.block ≠ w.heap.size) := Lib.hid (fun ad h1 h2 => by have := b7.new ad h1 h2; omega)
          have hn7 : n7 ≤ n2 := by rw [← g7.len, ← h2.len]; exact len_mono (by have := Nat.mod_lt (a / 2 ^ i) HB0.out; omega)
          have hcell := hR7.cell hiB
          have hfz := hR7.frozen id
          obtain ⟨o, ho⟩ : ∃ o : Nat, o = out.getD id 0 := ⟨_, rfl⟩
          rw [← ho] at hcell
          have ho32 : o < 4294967296 := by rw [ho]; exact hR7.get_lt _
          have hor := Lib.hid (or_bit o im him2 ho32 (by rw [ho, hid.out, him.out]; exact bit_free hR7.ds HV.out))
          have HV2 : Hid (val (out.set id (o + 2 ^ im)) = a / 2 ^ i / b * 2 ^ i) := Lib.hid (by
            have e := val_bit (out := out) (o := o) (i := i) (by rw [← hid.out, hR7.len]; exact hiB) (by rw [← hid.out]; exact ho)
            rw [← hid.out, ← him.out] at e
            rw [e, HV.out, HS.out.1, HR0.out, Nat.pow_succ, Nat.add_mul, Nat.one_mul, Nat.mul_comm 2, Nat.mul_assoc, Nat.mul_comm 2])
          have hs1 : o + 2 ^ im < 4294967296 := hor.out.2
          clear ho g6 h26 hR6 h1 h2 h14
          go_wp2_with fail
          go_region
          all_goals go_wp2_with fail
          go_roundw
          case rel => exact ⟨A7, n7, c7, i, out.set id (o + 2 ^ im), rfl, by go_num, by omega, hn7, (g7.far (fun ad h1 h2 => F7.out ad h1 h2) _).drew, (hR7.set id _ hor.out.1 hor.out.2).drew, HV2, F7⟩
          case measure => simp [intOf]
theorem rdivide_any (A1 A2 : Option Addr) (n1 n2 c1 c2 a b : Nat) (w : World) (h1 : Sl w A1 n1 c1 (dig a)) (h2 : Sl w A2 n2 c2 (dig b)) (hl1 : n1 ≤ 10000000) (hl2 : n2 ≤ 10000000) (hb : b ≠ 0) :
    Calls Tryd.prog 113 #[.slice A1 n1 c1, .slice A2 n2 c2] w (DivPost (a / b) (a % b) w) := by
  have h0 : 0 < n2 := by rw [← h2.len]; exact len_dig_pos.2 hb
  by_cases h : n2 = 1
  · subst h; exact rdiv_one A1 A2 n1 c1 c2 a b w h1 h2 hl1
  · exact rdiv_big A1 A2 n1 n2 c1 c2 a b w h1 h2 hl1 hl2 (by omega)
end Go.Proofs.YtaahbabdbopphaaDoor
namespace Go.Proofs.YtaahbabdbopphaaDoor
open Go.RowKit Mx
set_option maxRecDepth 100000

theorem dig_one : dig 1 = [1] := by rw [dig_pos (by decide), show 1 / 4294967296 = 0 from rfl, dig_zero]
theorem one_new (w : World) : Sl (w.alloc (.cells #[.int .u32 1] 57)) (some ⟨w.heap.size, 0, none⟩) 1 1 (dig 1) := by
  refine Sl.of_own (base := w.heap.size) (e := 57) ?_
  have e : u32s (dig 1) = (#[Value.int .u32 1] : Array Value).toList := by rw [dig_one]; rfl
  rw [e]
  exact World.ownsRow_lit (e := 57) (size := 1) (base := w.heap.size) w #[.int .u32 1] 1 (Nat.le_refl _) (by simp [maxLen]) rfl
theorem one_new2 (w : World) (o : Obj) : Sl ((w.alloc o).alloc (.cells #[.int .u32 1] 57)) (some ⟨w.heap.size + 1, 0, none⟩) 1 1 (dig 1) := by
  have := one_new (w.alloc o)
  rwa [show (w.alloc o).heap.size = w.heap.size + 1 from by simp] at this
theorem Bk.set2 {w : World} {g : Nat} {a b c : Value} (h : Bk w g a b c) (z : Value) : Bk (w.setCell ⟨g, 2, none⟩ z) g a b z := by
  have far : ∀ (W : World) (i k : Nat) (u : Value), i ≠ k → (W.setCell ⟨g, i, none⟩ u).cell? ⟨g, k, none⟩ = W.cell? ⟨g, k, none⟩ := fun W i k u hik =>
    World.cell?_setCell_other W _ _ _ (by intro e; injection e with _ e; omega)
  refine ⟨?_, ?_, ?_, fun k => ?_, ?_⟩
  · rw [far _ _ _ _ (by omega)]; exact h.c0
  · rw [far _ _ _ _ (by omega)]; exact h.c1
  · exact World.cell?_setCell_same w _ z (by rw [h.c2])
  · simp [go_sem]; exact h.fz k
  · simp [World.setCell]; exact h.lt
theorem Bk.far2 {w : World} {g g' : Nat} {a b c : Value} (h : Bk w g a b c) (hne : g ≠ g') (z : Value) : Bk (w.setCell ⟨g', 2, none⟩ z) g a b c := by
  have far : ∀ (i k : Nat) (u : Value), (w.setCell ⟨g', i, none⟩ u).cell? ⟨g, k, none⟩ = w.cell? ⟨g, k, none⟩ := fun i k u =>
    World.cell?_setCell_other w _ _ _ (by intro e; injection e with e; omega)
  refine ⟨?_, ?_, ?_, fun k => ?_, ?_⟩
  · rw [far]; exact h.c0
  · rw [far]; exact h.c1
  · rw [far]; exact h.c2
  · have := h.fz k
    unfold World.frozen? at this ⊢
    rw [Below.heap_setCell w ⟨g', 2, none⟩ z g hne]; exact this
  · simp [World.setCell]; exact h.lt
theorem own_nil (w : World) : Own w w none 0 0 (dig 0) := by rw [dig_zero]; exact World.ownsRow_nil _ _ _ _
theorem own_nil' (w0 w : World) : Own w0 w none 0 0 (dig 0) := by rw [dig_zero]; exact World.ownsRow_nil _ _ _ _
theorem fv_parts_red (neg : Bool) (a b : Nat) (ha : a ≠ 0) : rneg (fv neg a b) = neg ∧ rn (fv neg a b) = a / a.gcd (low b) ∧ rd (fv neg a b) = low b / a.gcd (low b) := by
  rw [fv_low]
  refine ⟨?_, rn_mk _ _ _ (low_ne b), rd_mk _ _ _ (low_ne b)⟩
  rw [rneg_mk _ _ _ (low_ne b), show decide (0 < a) = true from decide_eq_true (by omega), Bool.and_true]
theorem rD_of {q : Rat} : rD q = if rd q = 1 then 0 else rd q := rfl

set_option maxHeartbeats 2000000 in
theorem make1_zero (neg : Bool) (A1 A2 : Option Addr) (n1 n2 c1 c2 : Nat) (xs ys : List Nat) (w : World) (h1 : Sl w A1 n1 c1 xs) (h2 : Sl w A2 n2 c2 ys) (d1 : Ds xs) (d2 : Ds ys) (hl1 : n1 ≤ 10000000) (hl2 : n2 ≤ 10000000) (h0 : val xs = 0) :
    Calls Tryd.prog 81 #[.bool neg, .slice A1 n1 c1, .slice A2 n2 c2] w (FrPost (fv neg (val xs) (val ys)) w) := by
  obtain ⟨u, HU, x1, xb⟩ := boxes1 w (.bool false) (.slice none 0 0) (.slice none 0 0) 24
  have h1 := h1.below xb
  have h2 := h2.below xb
  have HQ : Hid (fv neg (val xs) (val ys) = 0) := Lib.hid (by rw [fv_low, h0, show sg neg 0 = 0 from by unfold sg; split <;> rfl]; exact Rat.zero_mkRat _)
  rw [HQ.out]
  replace h0 := Lib.hid h0
  go_enter Tryd.func81, Tryd.ntmps81
  go_wp2_with fail
  rw [← HU.out]
  refine (rtrim_any A1 c1 xs _ n1 h1 d1 (by omega)).mono ?_
  rintro e w1 ⟨m1, e1, rfl, k1, hw⟩
  replace hw := hw.symm
  subst hw
  have hm1 : m1 ≤ n1 := by rw [← k1.len, ← h1.len]; exact len_val d1
  go_wp2_with fail
  refine (rtrim_any A2 c2 ys _ n2 h2 d2 (by omega)).mono ?_
  rintro e w2 ⟨m2, e2, rfl, k2, hw⟩
  replace hw := hw.symm
  subst hw
  have hm2 : m2 ≤ n2 := by rw [← k2.len, ← h2.len]; exact len_val d2
  clear h1 h2
  have hm : m1 = 0 := by rw [← k1.len, h0.out, dig_zero]; rfl
  subst hm
  have F : Fr u false none 0 0 none 0 0 0 := ⟨by decide, by rw [show rn 0 = 0 from rfl, dig_zero]; exact ⟨rfl, Nat.le_refl _, Rd.nil_ _ _⟩, by rw [show rD 0 = 0 from rfl, dig_zero]; exact ⟨rfl, Nat.le_refl _, Rd.nil_ _ _⟩⟩
  have G := Lib.hid (F.ret (w := w) (own_nil u) (own_nil u) (g := w.heap.size) (Nat.le_refl _) x1.lt xb)
  have t0 := x1.c0
  have t1 := x1.c1
  have t2 := x1.c2
  have v0 := x1.fz 0
  have v1 := x1.fz 1
  have v2 := x1.fz 2
  clear F
  go_wp2_with fail
  exact bodyPost_ret (v := .agg #[.bool false, .slice none 0 0, .slice none 0 0]) (by simp [results, Tryd.results81, go_sem, t0, t1, t2]) rfl G.out

set_option maxHeartbeats 2000000 in
theorem make1_int (neg : Bool) (A1 A2 : Option Addr) (n1 n2 c1 c2 : Nat) (xs ys : List Nat) (w : World) (h1 : Sl w A1 n1 c1 xs) (h2 : Sl w A2 n2 c2 ys) (d1 : Ds xs) (d2 : Ds ys) (hl1 : n1 ≤ 10000000) (hl2 : n2 ≤ 10000000) (h0 : val xs ≠ 0) (hd : val ys = 0) :
    Calls Tryd.prog 81 #[.bool neg, .slice A1 n1 c1, .slice A2 n2 c2] w (FrPost (fv neg (val xs) (val ys)) w) := by
  obtain ⟨u, HU, x1, xb⟩ := boxes1 w (.bool false) (.slice none 0 0) (.slice none 0 0) 24
  have h1 := h1.below xb
  have h2 := h2.below xb
  obtain ⟨fp1, fp2, fp3⟩ := fv_parts_red neg (val xs) (val ys) h0
  obtain ⟨q, hq⟩ : ∃ q, Hid (q = fv neg (val xs) (val ys)) := ⟨_, rfl⟩
  rw [← hq.out] at fp1 fp2 fp3 ⊢
  obtain ⟨a, ha⟩ : ∃ a, Hid (a = val xs) := ⟨_, rfl⟩
  obtain ⟨b, hb⟩ : ∃ b, Hid (b = low (val ys)) := ⟨_, rfl⟩
  have FP := Lib.hid (And.intro fp1 (And.intro fp2 fp3))
  rw [← ha.out, ← hb.out] at FP
  have HA0 : Hid (a ≠ 0) := Lib.hid (by rw [ha.out]; exact h0)
  have HB0 : Hid (b ≠ 0) := Lib.hid (by rw [hb.out]; exact low_ne _)
  replace hd := Lib.hid hd
  clear fp1 fp2 fp3 h0
  go_enter Tryd.func81, Tryd.ntmps81
  go_wp2_with fail
  rw [← HU.out]
  refine (rtrim_any A1 c1 xs _ n1 h1 d1 (by omega)).mono ?_
  rintro e w1 ⟨m1, e1, rfl, k1, hw⟩
  replace hw := hw.symm
  subst hw
  have hm1 : m1 ≤ n1 := by rw [← k1.len, ← h1.len]; exact len_val d1
  go_wp2_with fail
  refine (rtrim_any A2 c2 ys _ n2 h2 d2 (by omega)).mono ?_
  rintro e w2 ⟨m2, e2, rfl, k2, hw⟩
  replace hw := hw.symm
  subst hw
  have hm2 : m2 ≤ n2 := by rw [← k2.len, ← h2.len]; exact len_val d2
  clear h1 h2
  rw [← ha.out] at k1
  have hm : 0 < m1 := by rw [← k1.len]; exact len_dig_pos.2 HA0.out
  have hm' : ((m1 : Int) == 0) = false := beq_eq_false_iff_ne.2 (by omega)
  have hm0 : m2 = 0 := by rw [← k2.len, hd.out, dig_zero]; rfl
  subst hm0
  have HB1 : Hid (b = 1) := Lib.hid (by rw [hb.out, hd.out]; rfl)
  replace k1 := (k1.alloc (.cells #[.int .u32 1] 57)).alloc (.cells #[.int .u32 1] 57)
  have k2 : Sl ((u.alloc (.cells #[.int .u32 1] 57)).alloc (.cells #[.int .u32 1] 57)) (some ⟨u.heap.size, 0, none⟩) 1 1 (dig b) := by rw [HB1.out]; exact (one_new u).alloc (.cells #[.int .u32 1] 57)
  have kg := one_new2 u (.cells #[.int .u32 1] 57)
  have y1 := (x1.alloc (.cells #[.int .u32 1] 57)).alloc (.cells #[.int .u32 1] 57)
  have yb := below_alloc (below_alloc xb (.cells #[.int .u32 1] 57)) (.cells #[.int .u32 1] 57)
  clear hd
  go_wp2_with fail
  refine (rone_any (some ⟨u.heap.size, 0, none⟩) 1 1 b _ k2 (by omega) true (by rw [HB1.out]; rfl)).mono ?_
  rintro e w3 ⟨rfl, hw⟩
  replace hw := hw.symm
  subst hw
  go_wp2_with fail
  refine (rone_any (some ⟨u.heap.size + 1, 0, none⟩) 1 1 1 _ kg (by omega) true (by rfl)).mono ?_
  rintro e w3 ⟨rfl, hw⟩
  replace hw := hw.symm
  subst hw
  have HN : Hid (rn q = a) := Lib.hid (by rw [FP.out.2.1, HB1.out, Nat.gcd_one_right, Nat.div_one])
  have HE : Hid (rD q = 0) := Lib.hid (by rw [rD_of, FP.out.2.2, HB1.out, Nat.gcd_one_right]; rfl)
  have HD1 := HB1
  obtain ⟨V, HV⟩ : ∃ V, Hid (V = ((u.alloc (.cells #[.int .u32 1] 57)).alloc (.cells #[.int .u32 1] 57))) := ⟨_, rfl⟩
  rw [← HV.out] at k1 k2 y1 yb ⊢
  have y1lt := y1.lt
  obtain ⟨i0, hi0, hz0, hz1, hz2⟩ := info_parts Tryd.info57
  obtain ⟨ad, hA, _⟩ := k1.at_ (k := 0) (by omega)
  subst hA
  go_wp2_with (at_builtin; refine wpList_append_own _ rfl _ _ 22 rfl V.heap.size 57 i0 (.int .u32 0) 1 4 Tryd.underlying22 hi0 hz0 hz1 hz2 rfl (by decide) (.slice none 0 0) 0 [] rfl (World.ownsRow_nil _ _ _ _) ad m1 e1 (u32s (dig a)) rfl (by rw [u32s_length, k1.len, Nat.mul_one]) k1.rd.cells (u32s_one _) (by simp only [maxLen]; omega) (by omega) (Nat.le_refl _) ?_; intro v' w6 hown6 hgrow6 _; rw [Nat.zero_add, List.nil_append] at hown6; obtain ⟨A9, c9, rfl⟩ := own_shape hown6)
  have b6 := (Below.refl V.heap.size V).grown hgrow6 (Nat.le_refl _) (by intro k hk; cases hk)
  have s6 : V.heap.size ≤ w6.heap.size := b6.size
  have o6 : Own V w6 A9 m1 c9 (dig a) := hown6
  replace y1 := y1.below b6
  replace yb := bthen yb b6
  have kd := k2.below b6
  obtain ⟨W, HW⟩ : ∃ W, Hid (W = w6.alloc (.cells #[.bool neg, .slice A9 m1 c9, .slice none 0 0] 24)) := ⟨_, rfl⟩
  have bW : Below w6.heap.size w6 W := by rw [HW.out]; exact below_alloc (Below.refl _ _) _
  have z1 : Bk W w6.heap.size (.bool neg) (.slice A9 m1 c9) (.slice none 0 0) := by rw [HW.out]; exact Bk.new w6 _ _ _ 24
  replace y1 := y1.below bW
  replace yb := bthen yb bW
  replace kd := kd.below bW
  replace o6 := o6.later bW
  have hlt6 : w.heap.size < w6.heap.size := Nat.lt_of_lt_of_le (by first | exact y1lt | omega) s6
  have hr6 := fun ad h => own_range hown6 ad h
  clear hown6 hgrow6 b6 bW
  rw [← HW.out]
  refine (rone_any (some ⟨u.heap.size, 0, none⟩) 1 1 b _ kd (by omega) true (by rw [HD1.out]; rfl)).mono ?_
  rintro e w7 ⟨rfl, hw⟩
  replace hw := hw.symm
  subst hw
  have F : Fr W neg A9 m1 c9 none 0 0 q := ⟨FP.out.1.symm, by rw [HN.out]; exact Sl.of_own o6, by rw [HE.out, dig_zero]; exact ⟨rfl, Nat.le_refl _, Rd.nil_ _ _⟩⟩
  have G := Lib.hid (F.ret (w := w) (by rw [HN.out]; exact o6) (by rw [HE.out]; exact own_nil' _ _) (g := w.heap.size) (Nat.le_refl _) y1lt yb)
  have t0 := y1.c0
  have t1 := y1.c1
  have t2 := y1.c2
  have v0 := y1.fz 0
  have v1 := y1.fz 1
  have v2 := y1.fz 2
  have r0 := z1.c0
  have r1 := z1.c1
  have r2 := z1.c2
  clear F o6 kd y1 z1 yb
  go_wp2_with fail
  exact bodyPost_ret (v := .agg #[.bool neg, .slice A9 m1 c9, .slice none 0 0]) (by simp [results, Tryd.results81, go_sem, t0, t1, t2]) rfl G.out

set_option maxHeartbeats 2000000 in
theorem make1_one (neg : Bool) (A1 A2 : Option Addr) (n1 n2 c1 c2 : Nat) (xs ys : List Nat) (w : World) (h1 : Sl w A1 n1 c1 xs) (h2 : Sl w A2 n2 c2 ys) (d1 : Ds xs) (d2 : Ds ys) (hl1 : n1 ≤ 10000000) (hl2 : n2 ≤ 10000000) (h0 : val xs ≠ 0) (hd : val ys ≠ 0) (hb1 : val ys = 1) :
    Calls Tryd.prog 81 #[.bool neg, .slice A1 n1 c1, .slice A2 n2 c2] w (FrPost (fv neg (val xs) (val ys)) w) := by
  obtain ⟨u, HU, x1, xb⟩ := boxes1 w (.bool false) (.slice none 0 0) (.slice none 0 0) 24
  have h1 := h1.below xb
  have h2 := h2.below xb
  obtain ⟨fp1, fp2, fp3⟩ := fv_parts_red neg (val xs) (val ys) h0
  obtain ⟨q, hq⟩ : ∃ q, Hid (q = fv neg (val xs) (val ys)) := ⟨_, rfl⟩
  rw [← hq.out] at fp1 fp2 fp3 ⊢
  obtain ⟨a, ha⟩ : ∃ a, Hid (a = val xs) := ⟨_, rfl⟩
  obtain ⟨b, hb⟩ : ∃ b, Hid (b = low (val ys)) := ⟨_, rfl⟩
  have FP := Lib.hid (And.intro fp1 (And.intro fp2 fp3))
  rw [← ha.out, ← hb.out] at FP
  have HA0 : Hid (a ≠ 0) := Lib.hid (by rw [ha.out]; exact h0)
  have HB0 : Hid (b ≠ 0) := Lib.hid (by rw [hb.out]; exact low_ne _)
  replace hd := Lib.hid hd
  clear fp1 fp2 fp3 h0
  replace hb1 := Lib.hid hb1
  go_enter Tryd.func81, Tryd.ntmps81
  go_wp2_with fail
  rw [← HU.out]
  refine (rtrim_any A1 c1 xs _ n1 h1 d1 (by omega)).mono ?_
  rintro e w1 ⟨m1, e1, rfl, k1, hw⟩
  replace hw := hw.symm
  subst hw
  have hm1 : m1 ≤ n1 := by rw [← k1.len, ← h1.len]; exact len_val d1
  go_wp2_with fail
  refine (rtrim_any A2 c2 ys _ n2 h2 d2 (by omega)).mono ?_
  rintro e w2 ⟨m2, e2, rfl, k2, hw⟩
  replace hw := hw.symm
  subst hw
  have hm2 : m2 ≤ n2 := by rw [← k2.len, ← h2.len]; exact len_val d2
  clear h1 h2
  rw [← ha.out] at k1
  have hm : 0 < m1 := by rw [← k1.len]; exact len_dig_pos.2 HA0.out
  have hm' : ((m1 : Int) == 0) = false := beq_eq_false_iff_ne.2 (by omega)
  have HB1 : Hid (b = val ys) := Lib.hid (by rw [hb.out, low_of hd.out])
  rw [← HB1.out] at k2
  have hmm : 0 < m2 := by rw [← k2.len]; exact len_dig_pos.2 HB0.out
  have hmm' : ((m2 : Int) == 0) = false := beq_eq_false_iff_ne.2 (by omega)
  replace k1 := k1.alloc (.cells #[.int .u32 1] 57)
  replace k2 := k2.alloc (.cells #[.int .u32 1] 57)
  have kg := one_new u
  have y1 := x1.alloc (.cells #[.int .u32 1] 57)
  have yb := below_alloc xb (.cells #[.int .u32 1] 57)
  clear hd
  have HAL : Hid (low (val ys) = val ys) := Lib.hid (by rw [← hb.out, HB1.out])
  have HBV : Hid (b = 1) := Lib.hid (by rw [HB1.out]; exact hb1.out)
  go_wp2_with fail
  refine (rone_any A2 m2 e2 b _ k2 (by omega) true (by rw [HBV.out]; rfl)).mono ?_
  rintro e w3 ⟨rfl, hw⟩
  replace hw := hw.symm
  subst hw
  go_wp2_with fail
  refine (rone_any (some ⟨u.heap.size, 0, none⟩) 1 1 1 _ kg (by omega) true (by rfl)).mono ?_
  rintro e w3 ⟨rfl, hw⟩
  replace hw := hw.symm
  subst hw
  have HN : Hid (rn q = a) := Lib.hid (by rw [FP.out.2.1, HBV.out, Nat.gcd_one_right, Nat.div_one])
  have HE : Hid (rD q = 0) := Lib.hid (by rw [rD_of, FP.out.2.2, HBV.out, Nat.gcd_one_right]; rfl)
  have HD1 := HBV
  obtain ⟨V, HV⟩ : ∃ V, Hid (V = (u.alloc (.cells #[.int .u32 1] 57))) := ⟨_, rfl⟩
  rw [← HV.out] at k1 k2 y1 yb ⊢
  have y1lt := y1.lt
  obtain ⟨i0, hi0, hz0, hz1, hz2⟩ := info_parts Tryd.info57
  obtain ⟨ad, hA, _⟩ := k1.at_ (k := 0) (by omega)
  subst hA
  go_wp2_with (at_builtin; refine wpList_append_own _ rfl _ _ 22 rfl V.heap.size 57 i0 (.int .u32 0) 1 4 Tryd.underlying22 hi0 hz0 hz1 hz2 rfl (by decide) (.slice none 0 0) 0 [] rfl (World.ownsRow_nil _ _ _ _) ad m1 e1 (u32s (dig a)) rfl (by rw [u32s_length, k1.len, Nat.mul_one]) k1.rd.cells (u32s_one _) (by simp only [maxLen]; omega) (by omega) (Nat.le_refl _) ?_; intro v' w6 hown6 hgrow6 _; rw [Nat.zero_add, List.nil_append] at hown6; obtain ⟨A9, c9, rfl⟩ := own_shape hown6)
  have b6 := (Below.refl V.heap.size V).grown hgrow6 (Nat.le_refl _) (by intro k hk; cases hk)
  have s6 : V.heap.size ≤ w6.heap.size := b6.size
  have o6 : Own V w6 A9 m1 c9 (dig a) := hown6
  replace y1 := y1.below b6
  replace yb := bthen yb b6
  have kd := k2.below b6
  obtain ⟨W, HW⟩ : ∃ W, Hid (W = w6.alloc (.cells #[.bool neg, .slice A9 m1 c9, .slice none 0 0] 24)) := ⟨_, rfl⟩
  have bW : Below w6.heap.size w6 W := by rw [HW.out]; exact below_alloc (Below.refl _ _) _
  have z1 : Bk W w6.heap.size (.bool neg) (.slice A9 m1 c9) (.slice none 0 0) := by rw [HW.out]; exact Bk.new w6 _ _ _ 24
  replace y1 := y1.below bW
  replace yb := bthen yb bW
  replace kd := kd.below bW
  replace o6 := o6.later bW
  have hlt6 : w.heap.size < w6.heap.size := Nat.lt_of_lt_of_le (by first | exact y1lt | omega) s6
  have hr6 := fun ad h => own_range hown6 ad h
  clear hown6 hgrow6 b6 bW
  rw [← HW.out]
  refine (rone_any A2 m2 e2 b _ kd (by omega) true (by rw [HD1.out]; rfl)).mono ?_
  rintro e w7 ⟨rfl, hw⟩
  replace hw := hw.symm
  subst hw
  have F : Fr W neg A9 m1 c9 none 0 0 q := ⟨FP.out.1.symm, by rw [HN.out]; exact Sl.of_own o6, by rw [HE.out, dig_zero]; exact ⟨rfl, Nat.le_refl _, Rd.nil_ _ _⟩⟩
  have G := Lib.hid (F.ret (w := w) (by rw [HN.out]; exact o6) (by rw [HE.out]; exact own_nil' _ _) (g := w.heap.size) (Nat.le_refl _) y1lt yb)
  have t0 := y1.c0
  have t1 := y1.c1
  have t2 := y1.c2
  have v0 := y1.fz 0
  have v1 := y1.fz 1
  have v2 := y1.fz 2
  have r0 := z1.c0
  have r1 := z1.c1
  have r2 := z1.c2
  clear F o6 kd y1 z1 yb
  go_wp2_with fail
  exact bodyPost_ret (v := .agg #[.bool neg, .slice A9 m1 c9, .slice none 0 0]) (by simp [results, Tryd.results81, go_sem, t0, t1, t2]) rfl G.out

set_option maxHeartbeats 2000000 in
theorem make1_unit (neg : Bool) (A1 A2 : Option Addr) (n1 n2 c1 c2 : Nat) (xs ys : List Nat) (w : World) (h1 : Sl w A1 n1 c1 xs) (h2 : Sl w A2 n2 c2 ys) (d1 : Ds xs) (d2 : Ds ys) (hl1 : n1 ≤ 10000000) (hl2 : n2 ≤ 10000000) (h0 : val xs ≠ 0) (hd : val ys ≠ 0) (hb1 : val ys ≠ 1) (ha1 : val xs = 1) :
    Calls Tryd.prog 81 #[.bool neg, .slice A1 n1 c1, .slice A2 n2 c2] w (FrPost (fv neg (val xs) (val ys)) w) := by
  obtain ⟨u, HU, x1, xb⟩ := boxes1 w (.bool false) (.slice none 0 0) (.slice none 0 0) 24
  have h1 := h1.below xb
  have h2 := h2.below xb
  obtain ⟨fp1, fp2, fp3⟩ := fv_parts_red neg (val xs) (val ys) h0
  obtain ⟨q, hq⟩ : ∃ q, Hid (q = fv neg (val xs) (val ys)) := ⟨_, rfl⟩
  rw [← hq.out] at fp1 fp2 fp3 ⊢
  obtain ⟨a, ha⟩ : ∃ a, Hid (a = val xs) := ⟨_, rfl⟩
  obtain ⟨b, hb⟩ : ∃ b, Hid (b = low (val ys)) := ⟨_, rfl⟩
  have FP := Lib.hid (And.intro fp1 (And.intro fp2 fp3))
  rw [← ha.out, ← hb.out] at FP
  have HA0 : Hid (a ≠ 0) := Lib.hid (by rw [ha.out]; exact h0)
  have HB0 : Hid (b ≠ 0) := Lib.hid (by rw [hb.out]; exact low_ne _)
  replace hd := Lib.hid hd
  clear fp1 fp2 fp3 h0
  replace hb1 := Lib.hid hb1
  replace ha1 := Lib.hid ha1
  go_enter Tryd.func81, Tryd.ntmps81
  go_wp2_with fail
  rw [← HU.out]
  refine (rtrim_any A1 c1 xs _ n1 h1 d1 (by omega)).mono ?_
  rintro e w1 ⟨m1, e1, rfl, k1, hw⟩
  replace hw := hw.symm
  subst hw
  have hm1 : m1 ≤ n1 := by rw [← k1.len, ← h1.len]; exact len_val d1
  go_wp2_with fail
  refine (rtrim_any A2 c2 ys _ n2 h2 d2 (by omega)).mono ?_
  rintro e w2 ⟨m2, e2, rfl, k2, hw⟩
  replace hw := hw.symm
  subst hw
  have hm2 : m2 ≤ n2 := by rw [← k2.len, ← h2.len]; exact len_val d2
  clear h1 h2
  rw [← ha.out] at k1
  have hm : 0 < m1 := by rw [← k1.len]; exact len_dig_pos.2 HA0.out
  have hm' : ((m1 : Int) == 0) = false := beq_eq_false_iff_ne.2 (by omega)
  have HB1 : Hid (b = val ys) := Lib.hid (by rw [hb.out, low_of hd.out])
  rw [← HB1.out] at k2
  have hmm : 0 < m2 := by rw [← k2.len]; exact len_dig_pos.2 HB0.out
  have hmm' : ((m2 : Int) == 0) = false := beq_eq_false_iff_ne.2 (by omega)
  replace k1 := k1.alloc (.cells #[.int .u32 1] 57)
  replace k2 := k2.alloc (.cells #[.int .u32 1] 57)
  have kg := one_new u
  have y1 := x1.alloc (.cells #[.int .u32 1] 57)
  have yb := below_alloc xb (.cells #[.int .u32 1] 57)
  clear hd
  have HAL : Hid (low (val ys) = val ys) := Lib.hid (by rw [← hb.out, HB1.out])
  have HBV : Hid (b ≠ 1) := Lib.hid (by rw [HB1.out]; exact hb1.out)
  have HAV : Hid (a = 1) := Lib.hid (by rw [ha.out]; exact ha1.out)
  go_wp2_with fail
  refine (rone_any A2 m2 e2 b _ k2 (by omega) false (by rw [decide_eq_false HBV.out])).mono ?_
  rintro e w3 ⟨rfl, hw⟩
  replace hw := hw.symm
  subst hw
  go_wp2_with fail
  refine (rone_any A1 m1 e1 a _ k1 (by omega) true (by rw [HAV.out]; rfl)).mono ?_
  rintro e w3 ⟨rfl, hw⟩
  replace hw := hw.symm
  subst hw
  go_wp2_with fail
  refine (rone_any (some ⟨u.heap.size, 0, none⟩) 1 1 1 _ kg (by omega) true (by rfl)).mono ?_
  rintro e w3 ⟨rfl, hw⟩
  replace hw := hw.symm
  subst hw
  have HN : Hid (rn q = a) := Lib.hid (by rw [FP.out.2.1, HAV.out, Nat.gcd_one_left])
  have HE : Hid (rD q = b) := Lib.hid (by rw [rD_of, FP.out.2.2, HAV.out, Nat.gcd_one_left, Nat.div_one, if_neg HBV.out])
  have HD1 := HBV
  obtain ⟨V, HV⟩ : ∃ V, Hid (V = (u.alloc (.cells #[.int .u32 1] 57))) := ⟨_, rfl⟩
  rw [← HV.out] at k1 k2 y1 yb ⊢
  have y1lt := y1.lt
  obtain ⟨i0, hi0, hz0, hz1, hz2⟩ := info_parts Tryd.info57
  obtain ⟨ad, hA, _⟩ := k1.at_ (k := 0) (by omega)
  subst hA
  go_wp2_with (at_builtin; refine wpList_append_own _ rfl _ _ 22 rfl V.heap.size 57 i0 (.int .u32 0) 1 4 Tryd.underlying22 hi0 hz0 hz1 hz2 rfl (by decide) (.slice none 0 0) 0 [] rfl (World.ownsRow_nil _ _ _ _) ad m1 e1 (u32s (dig a)) rfl (by rw [u32s_length, k1.len, Nat.mul_one]) k1.rd.cells (u32s_one _) (by simp only [maxLen]; omega) (by omega) (Nat.le_refl _) ?_; intro v' w6 hown6 hgrow6 _; rw [Nat.zero_add, List.nil_append] at hown6; obtain ⟨A9, c9, rfl⟩ := own_shape hown6)
  have b6 := (Below.refl V.heap.size V).grown hgrow6 (Nat.le_refl _) (by intro k hk; cases hk)
  have s6 : V.heap.size ≤ w6.heap.size := b6.size
  have o6 : Own V w6 A9 m1 c9 (dig a) := hown6
  replace y1 := y1.below b6
  replace yb := bthen yb b6
  have kd := k2.below b6
  obtain ⟨W, HW⟩ : ∃ W, Hid (W = w6.alloc (.cells #[.bool neg, .slice A9 m1 c9, .slice none 0 0] 24)) := ⟨_, rfl⟩
  have bW : Below w6.heap.size w6 W := by rw [HW.out]; exact below_alloc (Below.refl _ _) _
  have z1 : Bk W w6.heap.size (.bool neg) (.slice A9 m1 c9) (.slice none 0 0) := by rw [HW.out]; exact Bk.new w6 _ _ _ 24
  replace y1 := y1.below bW
  replace yb := bthen yb bW
  replace kd := kd.below bW
  replace o6 := o6.later bW
  have hlt6 : w.heap.size < w6.heap.size := Nat.lt_of_lt_of_le (by first | exact y1lt | omega) s6
  have hr6 := fun ad h => own_range hown6 ad h
  clear hown6 hgrow6 b6 bW
  rw [← HW.out]
  refine (rone_any A2 m2 e2 b _ kd (by omega) false (by rw [decide_eq_false HD1.out])).mono ?_
  rintro e w7 ⟨rfl, hw⟩
  replace hw := hw.symm
  subst hw
  have y1lt2 := y1.lt
  have z1lt := z1.lt
  have q0 := z1.c2
  have q1 := z1.fz 2
  obtain ⟨add, hAd, _⟩ := kd.at_ (k := 0) (by omega)
  subst hAd
  go_wp2_with (at_builtin; refine wpList_append_own _ rfl _ _ 22 rfl W.heap.size 57 i0 (.int .u32 0) 1 4 Tryd.underlying22 hi0 hz0 hz1 hz2 rfl (by decide) (.slice none 0 0) 0 [] rfl (World.ownsRow_nil _ _ _ _) add m2 e2 (u32s (dig b)) rfl (by rw [u32s_length, kd.len, Nat.mul_one]) kd.rd.cells (u32s_one _) (by simp only [maxLen]; omega) (by omega) (Nat.le_refl _) ?_; intro v' w8 hown8 hgrow8 _; rw [Nat.zero_add, List.nil_append] at hown8; obtain ⟨B9, d9, rfl⟩ := own_shape hown8
               have b8 := (Below.refl W.heap.size W).grown hgrow8 (Nat.le_refl _) (by intro k hk; cases hk)
               have o8 : Own W w8 B9 m2 d9 (dig b) := hown8
               replace y1 := y1.below b8
               replace yb := bthen yb b8
               replace z1 := z1.below b8
               replace o6 := o6.later b8
               have q0 := z1.c2
               have q1 := z1.fz 2
               have r6 : ∀ ad, A9 = some ad → ad.block ≠ w6.heap.size := fun ad h => by have := hr6 ad h; omega
               have r8 : ∀ ad, B9 = some ad → ad.block ≠ w6.heap.size := fun ad h => by have := own_range o8 ad h; omega
               have z2 := z1.set2 (.slice B9 m2 d9)
               have y2 := y1.far2 (g' := w6.heap.size) (by omega) (.slice B9 m2 d9)
               have p6 : Own V (w8.setCell ⟨w6.heap.size, 2, none⟩ (.slice B9 m2 d9)) A9 m1 c9 (dig a) := own_setCell o6 r6 _
               have p8 : Own V (w8.setCell ⟨w6.heap.size, 2, none⟩ (.slice B9 m2 d9)) B9 m2 d9 (dig b) := own_base (own_setCell o8 r8 _) (by omega)
               have y3 := yb.setCell (p := ⟨w6.heap.size, 2, none⟩) (by show w.heap.size ≤ w6.heap.size; omega) (.slice B9 m2 d9)
               have F : Fr (w8.setCell ⟨w6.heap.size, 2, none⟩ (.slice B9 m2 d9)) neg A9 m1 c9 B9 m2 d9 q := ⟨FP.out.1.symm, by rw [HN.out]; exact Sl.of_own p6, by rw [HE.out]; exact Sl.of_own p8⟩
               have G := Lib.hid (F.ret (w := w) (by rw [HN.out]; exact p6) (by rw [HE.out]; exact p8) (g := w.heap.size) (Nat.le_refl _) y1lt y3)
               have t0 := y2.c0
               have t1 := y2.c1
               have t2 := y2.c2
               have v0 := y2.fz 0
               have v1 := y2.fz 1
               have v2 := y2.fz 2
               have r0 := z2.c0
               have r1 := z2.c1
               have r2 := z2.c2
               clear F o6 kd y1 z1 yb o8 p6 p8 y2 y3 z2 hown8 hgrow8 b8 r6 r8)
  exact bodyPost_ret (v := .agg #[.bool neg, .slice A9 m1 c9, .slice B9 m2 d9]) (by simp [results, Tryd.results81, go_sem, t0, t1, t2]) rfl G.out

set_option maxHeartbeats 2000000 in
theorem make1_prime (neg : Bool) (A1 A2 : Option Addr) (n1 n2 c1 c2 : Nat) (xs ys : List Nat) (w : World) (h1 : Sl w A1 n1 c1 xs) (h2 : Sl w A2 n2 c2 ys) (d1 : Ds xs) (d2 : Ds ys) (hl1 : n1 ≤ 10000000) (hl2 : n2 ≤ 10000000) (h0 : val xs ≠ 0) (hd : val ys ≠ 0) (hb1 : val ys ≠ 1) (ha1 : val xs ≠ 1) (hg1 : (val xs).gcd (val ys) = 1) :
    Calls Tryd.prog 81 #[.bool neg, .slice A1 n1 c1, .slice A2 n2 c2] w (FrPost (fv neg (val xs) (val ys)) w) := by
  obtain ⟨u, HU, x1, xb⟩ := boxes1 w (.bool false) (.slice none 0 0) (.slice none 0 0) 24
  have h1 := h1.below xb
  have h2 := h2.below xb
  obtain ⟨fp1, fp2, fp3⟩ := fv_parts_red neg (val xs) (val ys) h0
  obtain ⟨q, hq⟩ : ∃ q, Hid (q = fv neg (val xs) (val ys)) := ⟨_, rfl⟩
  rw [← hq.out] at fp1 fp2 fp3 ⊢
  obtain ⟨a, ha⟩ : ∃ a, Hid (a = val xs) := ⟨_, rfl⟩
  obtain ⟨b, hb⟩ : ∃ b, Hid (b = low (val ys)) := ⟨_, rfl⟩
  have FP := Lib.hid (And.intro fp1 (And.intro fp2 fp3))
  rw [← ha.out, ← hb.out] at FP
  have HA0 : Hid (a ≠ 0) := Lib.hid (by rw [ha.out]; exact h0)
  have HB0 : Hid (b ≠ 0) := Lib.hid (by rw [hb.out]; exact low_ne _)
  replace hd := Lib.hid hd
  clear fp1 fp2 fp3 h0
  replace hb1 := Lib.hid hb1
  replace ha1 := Lib.hid ha1
  replace hg1 := Lib.hid hg1
  go_enter Tryd.func81, Tryd.ntmps81
  go_wp2_with fail
  rw [← HU.out]
  refine (rtrim_any A1 c1 xs _ n1 h1 d1 (by omega)).mono ?_
  rintro e w1 ⟨m1, e1, rfl, k1, hw⟩
  replace hw := hw.symm
  subst hw
  have hm1 : m1 ≤ n1 := by rw [← k1.len, ← h1.len]; exact len_val d1
  go_wp2_with fail
  refine (rtrim_any A2 c2 ys _ n2 h2 d2 (by omega)).mono ?_
  rintro e w2 ⟨m2, e2, rfl, k2, hw⟩
  replace hw := hw.symm
  subst hw
  have hm2 : m2 ≤ n2 := by rw [← k2.len, ← h2.len]; exact len_val d2
  clear h1 h2
  rw [← ha.out] at k1
  have hm : 0 < m1 := by rw [← k1.len]; exact len_dig_pos.2 HA0.out
  have hm' : ((m1 : Int) == 0) = false := beq_eq_false_iff_ne.2 (by omega)
  have HB1 : Hid (b = val ys) := Lib.hid (by rw [hb.out, low_of hd.out])
  rw [← HB1.out] at k2
  have hmm : 0 < m2 := by rw [← k2.len]; exact len_dig_pos.2 HB0.out
  have hmm' : ((m2 : Int) == 0) = false := beq_eq_false_iff_ne.2 (by omega)
  replace k1 := k1.alloc (.cells #[.int .u32 1] 57)
  replace k2 := k2.alloc (.cells #[.int .u32 1] 57)
  have kg := one_new u
  have y1 := x1.alloc (.cells #[.int .u32 1] 57)
  have yb := below_alloc xb (.cells #[.int .u32 1] 57)
  clear hd
  have HAL : Hid (low (val ys) = val ys) := Lib.hid (by rw [← hb.out, HB1.out])
  have HBV : Hid (b ≠ 1) := Lib.hid (by rw [HB1.out]; exact hb1.out)
  have HAV : Hid (a ≠ 1) := Lib.hid (by rw [ha.out]; exact ha1.out)
  have HGV : Hid (a.gcd b = 1) := Lib.hid (by rw [ha.out, HB1.out]; exact hg1.out)
  go_wp2_with fail
  refine (rone_any A2 m2 e2 b _ k2 (by omega) false (by rw [decide_eq_false HBV.out])).mono ?_
  rintro e w9 ⟨rfl, hw⟩
  replace hw := hw.symm
  subst hw
  go_wp2_with fail
  refine (rone_any A1 m1 e1 a _ k1 (by omega) false (by rw [decide_eq_false HAV.out])).mono ?_
  rintro e w9 ⟨rfl, hw⟩
  replace hw := hw.symm
  subst hw
  go_wp2_with fail
  refine (rgcd_any A1 A2 m1 m2 e1 e2 a b _ k1 k2 (by omega) (by omega) HA0.out HB0.out).mono ?_
  rintro e w3 ⟨A4, n4, c4, rfl, kg, bg⟩
  replace k1 := k1.below bg
  replace k2 := k2.below bg
  replace y1 := y1.below bg
  replace yb := bthen yb bg
  have hn4 : n4 ≤ m1 := by rw [← kg.len, ← k1.len]; exact len_mono (Nat.le_of_dvd (by have := HA0.out; omega) (Nat.gcd_dvd_left a b))
  obtain ⟨g, hg⟩ : ∃ g, Hid (g = a.gcd b) := ⟨_, rfl⟩
  rw [← hg.out] at kg FP
  go_wp2_with fail
  have HGG : Hid (g = 1) := Lib.hid (by rw [hg.out]; exact HGV.out)
  refine (rone_any A4 n4 c4 g _ kg (by omega) true (by rw [HGG.out]; rfl)).mono ?_
  rintro e w9 ⟨rfl, hw⟩
  replace hw := hw.symm
  subst hw
  have HN : Hid (rn q = a) := Lib.hid (by rw [FP.out.2.1, HGG.out, Nat.div_one])
  have HE : Hid (rD q = b) := Lib.hid (by rw [rD_of, FP.out.2.2, HGG.out, Nat.div_one, if_neg HBV.out])
  have HD1 := HBV
  have y1lt := y1.lt
  obtain ⟨i0, hi0, hz0, hz1, hz2⟩ := info_parts Tryd.info57
  obtain ⟨ad, hA, _⟩ := k1.at_ (k := 0) (by omega)
  subst hA
  go_wp2_with (at_builtin; refine wpList_append_own _ rfl _ _ 22 rfl w3.heap.size 57 i0 (.int .u32 0) 1 4 Tryd.underlying22 hi0 hz0 hz1 hz2 rfl (by decide) (.slice none 0 0) 0 [] rfl (World.ownsRow_nil _ _ _ _) ad m1 e1 (u32s (dig a)) rfl (by rw [u32s_length, k1.len, Nat.mul_one]) k1.rd.cells (u32s_one _) (by simp only [maxLen]; omega) (by omega) (Nat.le_refl _) ?_; intro v' w6 hown6 hgrow6 _; rw [Nat.zero_add, List.nil_append] at hown6; obtain ⟨A9, c9, rfl⟩ := own_shape hown6)
  have b6 := (Below.refl w3.heap.size w3).grown hgrow6 (Nat.le_refl _) (by intro k hk; cases hk)
  have s6 : w3.heap.size ≤ w6.heap.size := b6.size
  have o6 : Own w3 w6 A9 m1 c9 (dig a) := hown6
  replace y1 := y1.below b6
  replace yb := bthen yb b6
  have kd := k2.below b6
  obtain ⟨W, HW⟩ : ∃ W, Hid (W = w6.alloc (.cells #[.bool neg, .slice A9 m1 c9, .slice none 0 0] 24)) := ⟨_, rfl⟩
  have bW : Below w6.heap.size w6 W := by rw [HW.out]; exact below_alloc (Below.refl _ _) _
  have z1 : Bk W w6.heap.size (.bool neg) (.slice A9 m1 c9) (.slice none 0 0) := by rw [HW.out]; exact Bk.new w6 _ _ _ 24
  replace y1 := y1.below bW
  replace yb := bthen yb bW
  replace kd := kd.below bW
  replace o6 := o6.later bW
  have hlt6 : w.heap.size < w6.heap.size := Nat.lt_of_lt_of_le (by first | exact y1lt | omega) s6
  have hr6 := fun ad h => own_range hown6 ad h
  clear hown6 hgrow6 b6 bW
  rw [← HW.out]
  refine (rone_any A2 m2 e2 b _ kd (by omega) false (by rw [decide_eq_false HD1.out])).mono ?_
  rintro e w7 ⟨rfl, hw⟩
  replace hw := hw.symm
  subst hw
  have y1lt2 := y1.lt
  have z1lt := z1.lt
  have q0 := z1.c2
  have q1 := z1.fz 2
  obtain ⟨add, hAd, _⟩ := kd.at_ (k := 0) (by omega)
  subst hAd
  go_wp2_with (at_builtin; refine wpList_append_own _ rfl _ _ 22 rfl W.heap.size 57 i0 (.int .u32 0) 1 4 Tryd.underlying22 hi0 hz0 hz1 hz2 rfl (by decide) (.slice none 0 0) 0 [] rfl (World.ownsRow_nil _ _ _ _) add m2 e2 (u32s (dig b)) rfl (by rw [u32s_length, kd.len, Nat.mul_one]) kd.rd.cells (u32s_one _) (by simp only [maxLen]; omega) (by omega) (Nat.le_refl _) ?_; intro v' w8 hown8 hgrow8 _; rw [Nat.zero_add, List.nil_append] at hown8; obtain ⟨B9, d9, rfl⟩ := own_shape hown8
               have b8 := (Below.refl W.heap.size W).grown hgrow8 (Nat.le_refl _) (by intro k hk; cases hk)
               have o8 : Own W w8 B9 m2 d9 (dig b) := hown8
               replace y1 := y1.below b8
               replace yb := bthen yb b8
               replace z1 := z1.below b8
               replace o6 := o6.later b8
               have q0 := z1.c2
               have q1 := z1.fz 2
               have r6 : ∀ ad, A9 = some ad → ad.block ≠ w6.heap.size := fun ad h => by have := hr6 ad h; omega
               have r8 : ∀ ad, B9 = some ad → ad.block ≠ w6.heap.size := fun ad h => by have := own_range o8 ad h; omega
               have z2 := z1.set2 (.slice B9 m2 d9)
               have y2 := y1.far2 (g' := w6.heap.size) (by omega) (.slice B9 m2 d9)
               have p6 : Own w3 (w8.setCell ⟨w6.heap.size, 2, none⟩ (.slice B9 m2 d9)) A9 m1 c9 (dig a) := own_setCell o6 r6 _
               have p8 : Own w3 (w8.setCell ⟨w6.heap.size, 2, none⟩ (.slice B9 m2 d9)) B9 m2 d9 (dig b) := own_base (own_setCell o8 r8 _) (by omega)
               have y3 := yb.setCell (p := ⟨w6.heap.size, 2, none⟩) (by show w.heap.size ≤ w6.heap.size; omega) (.slice B9 m2 d9)
               have F : Fr (w8.setCell ⟨w6.heap.size, 2, none⟩ (.slice B9 m2 d9)) neg A9 m1 c9 B9 m2 d9 q := ⟨FP.out.1.symm, by rw [HN.out]; exact Sl.of_own p6, by rw [HE.out]; exact Sl.of_own p8⟩
               have G := Lib.hid (F.ret (w := w) (by rw [HN.out]; exact p6) (by rw [HE.out]; exact p8) (g := w.heap.size) (Nat.le_refl _) y1lt y3)
               have t0 := y2.c0
               have t1 := y2.c1
               have t2 := y2.c2
               have v0 := y2.fz 0
               have v1 := y2.fz 1
               have v2 := y2.fz 2
               have r0 := z2.c0
               have r1 := z2.c1
               have r2 := z2.c2
               clear F o6 kd y1 z1 yb o8 p6 p8 y2 y3 z2 hown8 hgrow8 b8 r6 r8)
  exact bodyPost_ret (v := .agg #[.bool neg, .slice A9 m1 c9, .slice B9 m2 d9]) (by simp [results, Tryd.results81, go_sem, t0, t1, t2]) rfl G.out

set_option maxHeartbeats 2000000 in
theorem make1_div (neg : Bool) (A1 A2 : Option Addr) (n1 n2 c1 c2 : Nat) (xs ys : List Nat) (w : World) (h1 : Sl w A1 n1 c1 xs) (h2 : Sl w A2 n2 c2 ys) (d1 : Ds xs) (d2 : Ds ys) (hl1 : n1 ≤ 10000000) (hl2 : n2 ≤ 10000000) (h0 : val xs ≠ 0) (hd : val ys ≠ 0) (hb1 : val ys ≠ 1) (ha1 : val xs ≠ 1) (hg1 : (val xs).gcd (val ys) ≠ 1) (hq1 : val ys / (val xs).gcd (val ys) = 1) :
    Calls Tryd.prog 81 #[.bool neg, .slice A1 n1 c1, .slice A2 n2 c2] w (FrPost (fv neg (val xs) (val ys)) w) := by
  obtain ⟨u, HU, x1, xb⟩ := boxes1 w (.bool false) (.slice none 0 0) (.slice none 0 0) 24
  have h1 := h1.below xb
  have h2 := h2.below xb
  obtain ⟨fp1, fp2, fp3⟩ := fv_parts_red neg (val xs) (val ys) h0
  obtain ⟨q, hq⟩ : ∃ q, Hid (q = fv neg (val xs) (val ys)) := ⟨_, rfl⟩
  rw [← hq.out] at fp1 fp2 fp3 ⊢
  obtain ⟨a, ha⟩ : ∃ a, Hid (a = val xs) := ⟨_, rfl⟩
  obtain ⟨b, hb⟩ : ∃ b, Hid (b = low (val ys)) := ⟨_, rfl⟩
  have FP := Lib.hid (And.intro fp1 (And.intro fp2 fp3))
  rw [← ha.out, ← hb.out] at FP
  have HA0 : Hid (a ≠ 0) := Lib.hid (by rw [ha.out]; exact h0)
  have HB0 : Hid (b ≠ 0) := Lib.hid (by rw [hb.out]; exact low_ne _)
  replace hd := Lib.hid hd
  clear fp1 fp2 fp3 h0
  replace hb1 := Lib.hid hb1
  replace ha1 := Lib.hid ha1
  replace hg1 := Lib.hid hg1
  replace hq1 := Lib.hid hq1
  go_enter Tryd.func81, Tryd.ntmps81
  go_wp2_with fail
  rw [← HU.out]
  refine (rtrim_any A1 c1 xs _ n1 h1 d1 (by omega)).mono ?_
  rintro e w1 ⟨m1, e1, rfl, k1, hw⟩
  replace hw := hw.symm
  subst hw
  have hm1 : m1 ≤ n1 := by rw [← k1.len, ← h1.len]; exact len_val d1
  go_wp2_with fail
  refine (rtrim_any A2 c2 ys _ n2 h2 d2 (by omega)).mono ?_
  rintro e w2 ⟨m2, e2, rfl, k2, hw⟩
  replace hw := hw.symm
  subst hw
  have hm2 : m2 ≤ n2 := by rw [← k2.len, ← h2.len]; exact len_val d2
  clear h1 h2
  rw [← ha.out] at k1
  have hm : 0 < m1 := by rw [← k1.len]; exact len_dig_pos.2 HA0.out
  have hm' : ((m1 : Int) == 0) = false := beq_eq_false_iff_ne.2 (by omega)
  have HB1 : Hid (b = val ys) := Lib.hid (by rw [hb.out, low_of hd.out])
  rw [← HB1.out] at k2
  have hmm : 0 < m2 := by rw [← k2.len]; exact len_dig_pos.2 HB0.out
  have hmm' : ((m2 : Int) == 0) = false := beq_eq_false_iff_ne.2 (by omega)
  replace k1 := k1.alloc (.cells #[.int .u32 1] 57)
  replace k2 := k2.alloc (.cells #[.int .u32 1] 57)
  have kg := one_new u
  have y1 := x1.alloc (.cells #[.int .u32 1] 57)
  have yb := below_alloc xb (.cells #[.int .u32 1] 57)
  clear hd
  have HAL : Hid (low (val ys) = val ys) := Lib.hid (by rw [← hb.out, HB1.out])
  have HBV : Hid (b ≠ 1) := Lib.hid (by rw [HB1.out]; exact hb1.out)
  have HAV : Hid (a ≠ 1) := Lib.hid (by rw [ha.out]; exact ha1.out)
  have HGV : Hid (a.gcd b ≠ 1) := Lib.hid (by rw [ha.out, HB1.out]; exact hg1.out)
  go_wp2_with fail
  refine (rone_any A2 m2 e2 b _ k2 (by omega) false (by rw [decide_eq_false HBV.out])).mono ?_
  rintro e w9 ⟨rfl, hw⟩
  replace hw := hw.symm
  subst hw
  go_wp2_with fail
  refine (rone_any A1 m1 e1 a _ k1 (by omega) false (by rw [decide_eq_false HAV.out])).mono ?_
  rintro e w9 ⟨rfl, hw⟩
  replace hw := hw.symm
  subst hw
  go_wp2_with fail
  refine (rgcd_any A1 A2 m1 m2 e1 e2 a b _ k1 k2 (by omega) (by omega) HA0.out HB0.out).mono ?_
  rintro e w3 ⟨A4, n4, c4, rfl, kg, bg⟩
  replace k1 := k1.below bg
  replace k2 := k2.below bg
  replace y1 := y1.below bg
  replace yb := bthen yb bg
  have hn4 : n4 ≤ m1 := by rw [← kg.len, ← k1.len]; exact len_mono (Nat.le_of_dvd (by have := HA0.out; omega) (Nat.gcd_dvd_left a b))
  obtain ⟨g, hg⟩ : ∃ g, Hid (g = a.gcd b) := ⟨_, rfl⟩
  rw [← hg.out] at kg FP
  go_wp2_with fail
  have HGG : Hid (g ≠ 1) := Lib.hid (by rw [hg.out]; exact HGV.out)
  refine (rone_any A4 n4 c4 g _ kg (by omega) false (by rw [decide_eq_false HGG.out])).mono ?_
  rintro e w9 ⟨rfl, hw⟩
  replace hw := hw.symm
  subst hw
  go_wp2_with fail
  have HG0 : Hid (g ≠ 0) := Lib.hid (by rw [hg.out]; have := Nat.gcd_pos_of_pos_left b (show 0 < a by have := HA0.out; omega); omega)
  refine (rdivide_any A1 A4 m1 n4 e1 c4 a g _ k1 kg (by omega) (by omega) HG0.out).mono ?_
  rintro e w4 ⟨A5, n5, c5, A6, n6, c6, rfl, k5, k6, b4⟩
  replace kg := kg.below b4
  replace k2 := k2.below b4
  replace y1 := y1.below b4
  replace yb := bthen yb b4
  have hn5 : n5 ≤ m1 := by rw [← k5.len, ← k1.len]; exact len_mono (Nat.div_le_self _ _)
  clear k6
  go_wp2_with fail
  refine (rdivide_any A2 A4 m2 n4 e2 c4 b g _ k2 kg (by omega) (by omega) HG0.out).mono ?_
  rintro e w5 ⟨A7, n7, c7, A8, n8, c8, rfl, k7, k8, b5⟩
  replace k5 := k5.below b5
  replace y1 := y1.below b5
  replace yb := bthen yb b5
  have hn7 : n7 ≤ m2 := by rw [← k7.len, ← k2.len]; exact len_mono (Nat.div_le_self _ _)
  have hp5 : 0 < n5 := by rw [← k5.len]; exact len_dig_pos.2 (by have := Nat.div_pos (Nat.le_of_dvd (by have := HA0.out; omega) (hg.out ▸ Nat.gcd_dvd_left a b)) (show 0 < g by have := HG0.out; omega); omega)
  have hp7 : 0 < n7 := by rw [← k7.len]; exact len_dig_pos.2 (by have := Nat.div_pos (Nat.le_of_dvd (by have := HB0.out; omega) (hg.out ▸ Nat.gcd_dvd_right a b)) (show 0 < g by have := HG0.out; omega); omega)
  clear k8 kg k1 k2
  have HDV : Hid (b / g = 1) := Lib.hid (by rw [hg.out, ha.out, HB1.out]; exact hq1.out)
  have HN : Hid (rn q = a / g) := Lib.hid (FP.out.2.1)
  have HE : Hid (rD q = 0) := Lib.hid (by rw [rD_of, FP.out.2.2, if_pos HDV.out])
  have HD1 := HDV
  have y1lt := y1.lt
  obtain ⟨i0, hi0, hz0, hz1, hz2⟩ := info_parts Tryd.info57
  obtain ⟨ad, hA, _⟩ := k5.at_ (k := 0) (by omega)
  subst hA
  go_wp2_with (at_builtin; refine wpList_append_own _ rfl _ _ 22 rfl w5.heap.size 57 i0 (.int .u32 0) 1 4 Tryd.underlying22 hi0 hz0 hz1 hz2 rfl (by decide) (.slice none 0 0) 0 [] rfl (World.ownsRow_nil _ _ _ _) ad n5 c5 (u32s (dig (a / g))) rfl (by rw [u32s_length, k5.len, Nat.mul_one]) k5.rd.cells (u32s_one _) (by simp only [maxLen]; omega) (by omega) (Nat.le_refl _) ?_; intro v' w6 hown6 hgrow6 _; rw [Nat.zero_add, List.nil_append] at hown6; obtain ⟨A9, c9, rfl⟩ := own_shape hown6)
  have b6 := (Below.refl w5.heap.size w5).grown hgrow6 (Nat.le_refl _) (by intro k hk; cases hk)
  have s6 : w5.heap.size ≤ w6.heap.size := b6.size
  have o6 : Own w5 w6 A9 n5 c9 (dig (a / g)) := hown6
  replace y1 := y1.below b6
  replace yb := bthen yb b6
  have kd := k7.below b6
  obtain ⟨W, HW⟩ : ∃ W, Hid (W = w6.alloc (.cells #[.bool neg, .slice A9 n5 c9, .slice none 0 0] 24)) := ⟨_, rfl⟩
  have bW : Below w6.heap.size w6 W := by rw [HW.out]; exact below_alloc (Below.refl _ _) _
  have z1 : Bk W w6.heap.size (.bool neg) (.slice A9 n5 c9) (.slice none 0 0) := by rw [HW.out]; exact Bk.new w6 _ _ _ 24
  replace y1 := y1.below bW
  replace yb := bthen yb bW
  replace kd := kd.below bW
  replace o6 := o6.later bW
  have hlt6 : w.heap.size < w6.heap.size := Nat.lt_of_lt_of_le (by first | exact y1lt | omega) s6
  have hr6 := fun ad h => own_range hown6 ad h
  clear hown6 hgrow6 b6 bW
  rw [← HW.out]
  refine (rone_any A7 n7 c7 (b / g) _ kd (by omega) true (by rw [HD1.out]; rfl)).mono ?_
  rintro e w7 ⟨rfl, hw⟩
  replace hw := hw.symm
  subst hw
  have F : Fr W neg A9 n5 c9 none 0 0 q := ⟨FP.out.1.symm, by rw [HN.out]; exact Sl.of_own o6, by rw [HE.out, dig_zero]; exact ⟨rfl, Nat.le_refl _, Rd.nil_ _ _⟩⟩
  have G := Lib.hid (F.ret (w := w) (by rw [HN.out]; exact o6) (by rw [HE.out]; exact own_nil' _ _) (g := w.heap.size) (Nat.le_refl _) y1lt yb)
  have t0 := y1.c0
  have t1 := y1.c1
  have t2 := y1.c2
  have v0 := y1.fz 0
  have v1 := y1.fz 1
  have v2 := y1.fz 2
  have r0 := z1.c0
  have r1 := z1.c1
  have r2 := z1.c2
  clear F o6 kd y1 z1 yb
  go_wp2_with fail
  exact bodyPost_ret (v := .agg #[.bool neg, .slice A9 n5 c9, .slice none 0 0]) (by simp [results, Tryd.results81, go_sem, t0, t1, t2]) rfl G.out

set_option maxHeartbeats 2000000 in
theorem make1_great (neg : Bool) (A1 A2 : Option Addr) (n1 n2 c1 c2 : Nat) (xs ys : List Nat) (w : World) (h1 : Sl w A1 n1 c1 xs) (h2 : Sl w A2 n2 c2 ys) (d1 : Ds xs) (d2 : Ds ys) (hl1 : n1 ≤ 10000000) (hl2 : n2 ≤ 10000000) (h0 : val xs ≠ 0) (hd : val ys ≠ 0) (hb1 : val ys ≠ 1) (ha1 : val xs ≠ 1) (hg1 : (val xs).gcd (val ys) ≠ 1) (hq1 : val ys / (val xs).gcd (val ys) ≠ 1) :
    Calls Tryd.prog 81 #[.bool neg, .slice A1 n1 c1, .slice A2 n2 c2] w (FrPost (fv neg (val xs) (val ys)) w) := by
  obtain ⟨u, HU, x1, xb⟩ := boxes1 w (.bool false) (.slice none 0 0) (.slice none 0 0) 24
  have h1 := h1.below xb
  have h2 := h2.below xb
  obtain ⟨fp1, fp2, fp3⟩ := fv_parts_red neg (val xs) (val ys) h0
  obtain ⟨q, hq⟩ : ∃ q, Hid (q = fv neg (val xs) (val ys)) := ⟨_, rfl⟩
  rw [← hq.out] at fp1 fp2 fp3 ⊢
  obtain ⟨a, ha⟩ : ∃ a, Hid (a = val xs) := ⟨_, rfl⟩
  obtain ⟨b, hb⟩ : ∃ b, Hid (b = low (val ys)) := ⟨_, rfl⟩
  have FP := Lib.hid (And.intro fp1 (And.intro fp2 fp3))
  rw [← ha.out, ← hb.out] at FP
  have HA0 : Hid (a ≠ 0) := Lib.hid (by rw [ha.out]; exact h0)
  have HB0 : Hid (b ≠ 0) := Lib.hid (by rw [hb.out]; exact low_ne _)
  replace hd := Lib.hid hd
  clear fp1 fp2 fp3 h0
  replace hb1 := Lib.hid hb1
  replace ha1 := Lib.hid ha1
  replace hg1 := Lib.hid hg1
  replace hq1 := Lib.hid hq1
  go_enter Tryd.func81, Tryd.ntmps81
  go_wp2_with fail
  rw [← HU.out]
  refine (rtrim_any A1 c1 xs _ n1 h1 d1 (by omega)).mono ?_
  rintro e w1 ⟨m1, e1, rfl, k1, hw⟩
  replace hw := hw.symm
  subst hw
  have hm1 : m1 ≤ n1 := by rw [← k1.len, ← h1.len]; exact len_val d1
  go_wp2_with fail
  refine (rtrim_any A2 c2 ys _ n2 h2 d2 (by omega)).mono ?_
  rintro e w2 ⟨m2, e2, rfl, k2, hw⟩
  replace hw := hw.symm
  subst hw
  have hm2 : m2 ≤ n2 := by rw [← k2.len, ← h2.len]; exact len_val d2
  clear h1 h2
  rw [← ha.out] at k1
  have hm : 0 < m1 := by rw [← k1.len]; exact len_dig_pos.2 HA0.out
  have hm' : ((m1 : Int) == 0) = false := beq_eq_false_iff_ne.2 (by omega)
  have HB1 : Hid (b = val ys) := Lib.hid (by rw [hb.out, low_of hd.out])
  rw [← HB1.out] at k2
  have hmm : 0 < m2 := by rw [← k2.len]; exact len_dig_pos.2 HB0.out
  have hmm' : ((m2 : Int) == 0) = false := beq_eq_false_iff_ne.2 (by omega)
  replace k1 := k1.alloc (.cells #[.int .u32 1] 57)
  replace k2 := k2.alloc (.cells #[.int .u32 1] 57)
  have kg := one_new u
  have y1 := x1.alloc (.cells #[.int .u32 1] 57)
  have yb := below_alloc xb (.cells #[.int .u32 1] 57)
  clear hd
  have HAL : Hid (low (val ys) = val ys) := Lib.hid (by rw [← hb.out, HB1.out])
  have HBV : Hid (b ≠ 1) := Lib.hid (by rw [HB1.out]; exact hb1.out)
  have HAV : Hid (a ≠ 1) := Lib.hid (by rw [ha.out]; exact ha1.out)
  have HGV : Hid (a.gcd b ≠ 1) := Lib.hid (by rw [ha.out, HB1.out]; exact hg1.out)
  go_wp2_with fail
  refine (rone_any A2 m2 e2 b _ k2 (by omega) false (by rw [decide_eq_false HBV.out])).mono ?_
  rintro e w9 ⟨rfl, hw⟩
  replace hw := hw.symm
  subst hw
  go_wp2_with fail
  refine (rone_any A1 m1 e1 a _ k1 (by omega) false (by rw [decide_eq_false HAV.out])).mono ?_
  rintro e w9 ⟨rfl, hw⟩
  replace hw := hw.symm
  subst hw
  go_wp2_with fail
  refine (rgcd_any A1 A2 m1 m2 e1 e2 a b _ k1 k2 (by omega) (by omega) HA0.out HB0.out).mono ?_
  rintro e w3 ⟨A4, n4, c4, rfl, kg, bg⟩
  replace k1 := k1.below bg
  replace k2 := k2.below bg
  replace y1 := y1.below bg
  replace yb := bthen yb bg
  have hn4 : n4 ≤ m1 := by rw [← kg.len, ← k1.len]; exact len_mono (Nat.le_of_dvd (by have := HA0.out; omega) (Nat.gcd_dvd_left a b))
  obtain ⟨g, hg⟩ : ∃ g, Hid (g = a.gcd b) := ⟨_, rfl⟩
  rw [← hg.out] at kg FP
  go_wp2_with fail
  have HGG : Hid (g ≠ 1) := Lib.hid (by rw [hg.out]; exact HGV.out)
  refine (rone_any A4 n4 c4 g _ kg (by omega) false (by rw [decide_eq_false HGG.out])).mono ?_
  rintro e w9 ⟨rfl, hw⟩
  replace hw := hw.symm
  subst hw
  go_wp2_with fail
  have HG0 : Hid (g ≠ 0) := Lib.hid (by rw [hg.out]; have := Nat.gcd_pos_of_pos_left b (show 0 < a by have := HA0.out; omega); omega)
  refine (rdivide_any A1 A4 m1 n4 e1 c4 a g _ k1 kg (by omega) (by omega) HG0.out).mono ?_
  rintro e w4 ⟨A5, n5, c5, A6, n6, c6, rfl, k5, k6, b4⟩
  replace kg := kg.below b4
  replace k2 := k2.below b4
  replace y1 := y1.below b4
  replace yb := bthen yb b4
  have hn5 : n5 ≤ m1 := by rw [← k5.len, ← k1.len]; exact len_mono (Nat.div_le_self _ _)
  clear k6
  go_wp2_with fail
  refine (rdivide_any A2 A4 m2 n4 e2 c4 b g _ k2 kg (by omega) (by omega) HG0.out).mono ?_
  rintro e w5 ⟨A7, n7, c7, A8, n8, c8, rfl, k7, k8, b5⟩
  replace k5 := k5.below b5
  replace y1 := y1.below b5
  replace yb := bthen yb b5
  have hn7 : n7 ≤ m2 := by rw [← k7.len, ← k2.len]; exact len_mono (Nat.div_le_self _ _)
  have hp5 : 0 < n5 := by rw [← k5.len]; exact len_dig_pos.2 (by have := Nat.div_pos (Nat.le_of_dvd (by have := HA0.out; omega) (hg.out ▸ Nat.gcd_dvd_left a b)) (show 0 < g by have := HG0.out; omega); omega)
  have hp7 : 0 < n7 := by rw [← k7.len]; exact len_dig_pos.2 (by have := Nat.div_pos (Nat.le_of_dvd (by have := HB0.out; omega) (hg.out ▸ Nat.gcd_dvd_right a b)) (show 0 < g by have := HG0.out; omega); omega)
  clear k8 kg k1 k2
  have HDV : Hid (b / g ≠ 1) := Lib.hid (by rw [hg.out, ha.out, HB1.out]; exact hq1.out)
  have HN : Hid (rn q = a / g) := Lib.hid (FP.out.2.1)
  have HE : Hid (rD q = b / g) := Lib.hid (by rw [rD_of, FP.out.2.2, if_neg HDV.out])
  have HD1 := HDV
  have y1lt := y1.lt
  obtain ⟨i0, hi0, hz0, hz1, hz2⟩ := info_parts Tryd.info57
  obtain ⟨ad, hA, _⟩ := k5.at_ (k := 0) (by omega)
  subst hA
  go_wp2_with (at_builtin; refine wpList_append_own _ rfl _ _ 22 rfl w5.heap.size 57 i0 (.int .u32 0) 1 4 Tryd.underlying22 hi0 hz0 hz1 hz2 rfl (by decide) (.slice none 0 0) 0 [] rfl (World.ownsRow_nil _ _ _ _) ad n5 c5 (u32s (dig (a / g))) rfl (by rw [u32s_length, k5.len, Nat.mul_one]) k5.rd.cells (u32s_one _) (by simp only [maxLen]; omega) (by omega) (Nat.le_refl _) ?_; intro v' w6 hown6 hgrow6 _; rw [Nat.zero_add, List.nil_append] at hown6; obtain ⟨A9, c9, rfl⟩ := own_shape hown6)
  have b6 := (Below.refl w5.heap.size w5).grown hgrow6 (Nat.le_refl _) (by intro k hk; cases hk)
  have s6 : w5.heap.size ≤ w6.heap.size := b6.size
  have o6 : Own w5 w6 A9 n5 c9 (dig (a / g)) := hown6
  replace y1 := y1.below b6
  replace yb := bthen yb b6
  have kd := k7.below b6
  obtain ⟨W, HW⟩ : ∃ W, Hid (W = w6.alloc (.cells #[.bool neg, .slice A9 n5 c9, .slice none 0 0] 24)) := ⟨_, rfl⟩
  have bW : Below w6.heap.size w6 W := by rw [HW.out]; exact below_alloc (Below.refl _ _) _
  have z1 : Bk W w6.heap.size (.bool neg) (.slice A9 n5 c9) (.slice none 0 0) := by rw [HW.out]; exact Bk.new w6 _ _ _ 24
  replace y1 := y1.below bW
  replace yb := bthen yb bW
  replace kd := kd.below bW
  replace o6 := o6.later bW
  have hlt6 : w.heap.size < w6.heap.size := Nat.lt_of_lt_of_le (by first | exact y1lt | omega) s6
  have hr6 := fun ad h => own_range hown6 ad h
  clear hown6 hgrow6 b6 bW
  rw [← HW.out]
  refine (rone_any A7 n7 c7 (b / g) _ kd (by omega) false (by rw [decide_eq_false HD1.out])).mono ?_
  rintro e w7 ⟨rfl, hw⟩
  replace hw := hw.symm
  subst hw
  have y1lt2 := y1.lt
  have z1lt := z1.lt
  have q0 := z1.c2
  have q1 := z1.fz 2
  obtain ⟨add, hAd, _⟩ := kd.at_ (k := 0) (by omega)
  subst hAd
  go_wp2_with (at_builtin; refine wpList_append_own _ rfl _ _ 22 rfl W.heap.size 57 i0 (.int .u32 0) 1 4 Tryd.underlying22 hi0 hz0 hz1 hz2 rfl (by decide) (.slice none 0 0) 0 [] rfl (World.ownsRow_nil _ _ _ _) add n7 c7 (u32s (dig (b / g))) rfl (by rw [u32s_length, kd.len, Nat.mul_one]) kd.rd.cells (u32s_one _) (by simp only [maxLen]; omega) (by omega) (Nat.le_refl _) ?_; intro v' w8 hown8 hgrow8 _; rw [Nat.zero_add, List.nil_append] at hown8; obtain ⟨B9, d9, rfl⟩ := own_shape hown8
               have b8 := (Below.refl W.heap.size W).grown hgrow8 (Nat.le_refl _) (by intro k hk; cases hk)
               have o8 : Own W w8 B9 n7 d9 (dig (b / g)) := hown8
               replace y1 := y1.below b8
               replace yb := bthen yb b8
               replace z1 := z1.below b8
               replace o6 := o6.later b8
               have q0 := z1.c2
               have q1 := z1.fz 2
               have r6 : ∀ ad, A9 = some ad → ad.block ≠ w6.heap.size := fun ad h => by have := hr6 ad h; omega
               have r8 : ∀ ad, B9 = some ad → ad.block ≠ w6.heap.size := fun ad h => by have := own_range o8 ad h; omega
               have z2 := z1.set2 (.slice B9 n7 d9)
               have y2 := y1.far2 (g' := w6.heap.size) (by omega) (.slice B9 n7 d9)
               have p6 : Own w5 (w8.setCell ⟨w6.heap.size, 2, none⟩ (.slice B9 n7 d9)) A9 n5 c9 (dig (a / g)) := own_setCell o6 r6 _
               have p8 : Own w5 (w8.setCell ⟨w6.heap.size, 2, none⟩ (.slice B9 n7 d9)) B9 n7 d9 (dig (b / g)) := own_base (own_setCell o8 r8 _) (by omega)
               have y3 := yb.setCell (p := ⟨w6.heap.size, 2, none⟩) (by show w.heap.size ≤ w6.heap.size; omega) (.slice B9 n7 d9)
               have F : Fr (w8.setCell ⟨w6.heap.size, 2, none⟩ (.slice B9 n7 d9)) neg A9 n5 c9 B9 n7 d9 q := ⟨FP.out.1.symm, by rw [HN.out]; exact Sl.of_own p6, by rw [HE.out]; exact Sl.of_own p8⟩
               have G := Lib.hid (F.ret (w := w) (by rw [HN.out]; exact p6) (by rw [HE.out]; exact p8) (g := w.heap.size) (Nat.le_refl _) y1lt y3)
               have t0 := y2.c0
               have t1 := y2.c1
               have t2 := y2.c2
               have v0 := y2.fz 0
               have v1 := y2.fz 1
               have v2 := y2.fz 2
               have r0 := z2.c0
               have r1 := z2.c1
               have r2 := z2.c2
               clear F o6 kd y1 z1 yb o8 p6 p8 y2 y3 z2 hown8 hgrow8 b8 r6 r8)
  exact bodyPost_ret (v := .agg #[.bool neg, .slice A9 n5 c9, .slice B9 n7 d9]) (by simp [results, Tryd.results81, go_sem, t0, t1, t2]) rfl G.out
theorem make1_any (neg : Bool) (A1 A2 : Option Addr) (n1 n2 c1 c2 : Nat) (xs ys : List Nat) (w : World) (h1 : Sl w A1 n1 c1 xs) (h2 : Sl w A2 n2 c2 ys) (d1 : Ds xs) (d2 : Ds ys) (hl1 : n1 ≤ 10000000) (hl2 : n2 ≤ 10000000) :
    Calls Tryd.prog 81 #[.bool neg, .slice A1 n1 c1, .slice A2 n2 c2] w (FrPost (fv neg (val xs) (val ys)) w) := by
  by_cases h0 : val xs = 0
  · exact make1_zero neg A1 A2 n1 n2 c1 c2 xs ys w h1 h2 d1 d2 hl1 hl2 h0
  by_cases hd : val ys = 0
  · exact make1_int neg A1 A2 n1 n2 c1 c2 xs ys w h1 h2 d1 d2 hl1 hl2 h0 hd
  by_cases hb1 : val ys = 1
  · exact make1_one neg A1 A2 n1 n2 c1 c2 xs ys w h1 h2 d1 d2 hl1 hl2 h0 hd hb1
  by_cases ha1 : val xs = 1
  · exact make1_unit neg A1 A2 n1 n2 c1 c2 xs ys w h1 h2 d1 d2 hl1 hl2 h0 hd hb1 ha1
  by_cases hg1 : (val xs).gcd (val ys) = 1
  · exact make1_prime neg A1 A2 n1 n2 c1 c2 xs ys w h1 h2 d1 d2 hl1 hl2 h0 hd hb1 ha1 hg1
  by_cases hq1 : val ys / (val xs).gcd (val ys) = 1
  · exact make1_div neg A1 A2 n1 n2 c1 c2 xs ys w h1 h2 d1 d2 hl1 hl2 h0 hd hb1 ha1 hg1 hq1
  · exact make1_great neg A1 A2 n1 n2 c1 c2 xs ys w h1 h2 d1 d2 hl1 hl2 h0 hd hb1 ha1 hg1 hq1
end Go.Proofs.YtaahbabdbopphaaDoor
namespace Go.Proofs.YtaahbabdbopphaaDoor
open Go.RowKit Mx
set_option maxRecDepth 100000

theorem fv_make (n d : Int) (hd : d ≠ 0) (s : Bool) (hs : s = (decide (n < 0) != decide (d < 0))) : fv s n.natAbs d.natAbs = (n : Rat) / (d : Rat) := by
  rw [fv_low, low_of (by omega), ← Rat.divInt_ofNat, ← Rat.divInt_eq_div, hs]
  by_cases h1 : n < 0 <;> by_cases h2 : d < 0
  · rw [decide_eq_true h1, decide_eq_true h2, show sg (true != true) n.natAbs = -n from by simp [sg]; omega, show ((d.natAbs : Nat) : Int) = -d from by omega, Rat.neg_divInt_neg]
  · rw [decide_eq_true h1, decide_eq_false h2, show sg (true != false) n.natAbs = n from by simp [sg]; omega, show ((d.natAbs : Nat) : Int) = d from by omega]
  · rw [decide_eq_false h1, decide_eq_true h2, show sg (false != true) n.natAbs = -n from by simp [sg]; omega, show ((d.natAbs : Nat) : Int) = -d from by omega, Rat.neg_divInt_neg]
  · rw [decide_eq_false h1, decide_eq_false h2, show sg (false != false) n.natAbs = n from by simp [sg]; omega, show ((d.natAbs : Nat) : Int) = d from by omega]

set_option maxHeartbeats 1000000 in
theorem rMake_any (n d : Int) (w : World) (h0 : -9223372036854775808 ≤ n) (h1 : n ≤ 9223372036854775807) (g0 : -9223372036854775808 ≤ d) (g1 : d ≤ 9223372036854775807) (hd : d ≠ 0) :
    Calls Tryd.prog 30 #[.int .i64 n, .int .i64 d] w (FrPost ((n : Rat) / (d : Rat)) w) := by
  obtain ⟨q, hq⟩ : ∃ q, Hid (q = (n : Rat) / (d : Rat)) := ⟨_, rfl⟩
  rw [← hq.out]
  obtain ⟨u, HU, x1, xb⟩ := boxes1 w (.bool false) (.slice none 0 0) (.slice none 0 0) 24
  have HQ : Hid (∀ s, s = (decide (n < 0) != decide (d < 0)) → fv s (val (dig n.natAbs)) (val (dig d.natAbs)) = q) := Lib.hid (fun s hs => by rw [val_dig, val_dig, hq.out]; exact fv_make n d hd s hs)
  clear hd
  have ha0 : n.natAbs ≤ 9223372036854775808 := by omega
  have hb0 : d.natAbs ≤ 9223372036854775808 := by omega
  have main : ∀ s, s = (decide (n < 0) != decide (d < 0)) → Hid (∀ (A1 A2 : Option Addr) (n1 n2 c1 c2 : Nat) (W : World), Sl W A1 n1 c1 (dig n.natAbs) → Sl W A2 n2 c2 (dig d.natAbs) →
      Calls Tryd.prog 81 #[.bool s, .slice A1 n1 c1, .slice A2 n2 c2] W (FrPost q W)) := fun s hs => Lib.hid (by
    intro A1 A2 n1 n2 c1 c2 W k1 k2
    have l1 : n1 ≤ 2 := by rw [← k1.len]; exact len_two (by omega)
    have l2 : n2 ≤ 2 := by rw [← k2.len]; exact len_two (by omega)
    have := make1_any s A1 A2 n1 n2 c1 c2 _ _ W k1 k2 (ds_dig _) (ds_dig _) (by omega) (by omega)
    rwa [HQ.out s hs] at this)
  by_cases hn : n < 0 <;> by_cases hdd : d < 0
  · have M := main false (by simp [hn, hdd])
    clear main
    go_enter Tryd.func30, Tryd.ntmps30
    go_wp2_with fail
    rw [← HU.out]
    refine (rsize_any n _ h0 h1).mono ?_
    rintro e w1 ⟨rfl, hw⟩
    replace hw := hw.symm
    subst hw
    go_wp2_with fail
    refine (rnatural_any _ _ (by omega) (by omega)).mono ?_
    rintro e w2 ⟨A1, n1, c1, rfl, k1, ⟨b1, _⟩⟩
    rw [Int.toNat_natCast] at k1
    replace x1 := x1.below b1
    replace xb := bthen xb b1
    go_wp2_with fail
    refine (rsize_any d _ g0 g1).mono ?_
    rintro e w3 ⟨rfl, hw⟩
    replace hw := hw.symm
    subst hw
    go_wp2_with fail
    refine (rnatural_any _ _ (by omega) (by omega)).mono ?_
    rintro e w4 ⟨A2, n2, c2, rfl, k2, ⟨b2, _⟩⟩
    rw [Int.toNat_natCast] at k2
    replace k1 := k1.below b2
    replace x1 := x1.below b2
    replace xb := bthen xb b2
    go_wp2_with fail
    refine (M.out _ _ _ _ _ _ _ k1 k2).mono ?_
    rintro e w5 ⟨s5, A5, n5, c5, A6, n6, c6, rfl, f5, o5, o6, b5⟩
    have G := Lib.hid (f5.ret o5 o6 (Nat.le_refl _) x1.lt (bthen xb b5))
    have hlt := x1.lt
    replace x1 := x1.below b5
    have t0 := x1.c0
    have t1 := x1.c1
    have t2 := x1.c2
    have v0 := x1.fz 0
    have v1 := x1.fz 1
    have v2 := x1.fz 2
    clear f5 o5 o6 k1 k2 x1 xb b5 b1 b2 M
    go_wp2_with fail
    exact bodyPost_ret (v := .agg #[.bool s5, .slice A5 n5 c5, .slice A6 n6 c6]) (by simp [results, Tryd.results30, go_sem, t0, t1, t2]) rfl G.out
  · have M := main true (by simp [hn, hdd])
    clear main
    go_enter Tryd.func30, Tryd.ntmps30
    go_wp2_with fail
    rw [← HU.out]
    refine (rsize_any n _ h0 h1).mono ?_
    rintro e w1 ⟨rfl, hw⟩
    replace hw := hw.symm
    subst hw
    go_wp2_with fail
    refine (rnatural_any _ _ (by omega) (by omega)).mono ?_
    rintro e w2 ⟨A1, n1, c1, rfl, k1, ⟨b1, _⟩⟩
    rw [Int.toNat_natCast] at k1
    replace x1 := x1.below b1
    replace xb := bthen xb b1
    go_wp2_with fail
    refine (rsize_any d _ g0 g1).mono ?_
    rintro e w3 ⟨rfl, hw⟩
    replace hw := hw.symm
    subst hw
    go_wp2_with fail
    refine (rnatural_any _ _ (by omega) (by omega)).mono ?_
    rintro e w4 ⟨A2, n2, c2, rfl, k2, ⟨b2, _⟩⟩
    rw [Int.toNat_natCast] at k2
    replace k1 := k1.below b2
    replace x1 := x1.below b2
    replace xb := bthen xb b2
    go_wp2_with fail
    refine (M.out _ _ _ _ _ _ _ k1 k2).mono ?_
    rintro e w5 ⟨s5, A5, n5, c5, A6, n6, c6, rfl, f5, o5, o6, b5⟩
    have G := Lib.hid (f5.ret o5 o6 (Nat.le_refl _) x1.lt (bthen xb b5))
    have hlt := x1.lt
    replace x1 := x1.below b5
    have t0 := x1.c0
    have t1 := x1.c1
    have t2 := x1.c2
    have v0 := x1.fz 0
    have v1 := x1.fz 1
    have v2 := x1.fz 2
    clear f5 o5 o6 k1 k2 x1 xb b5 b1 b2 M
    go_wp2_with fail
    exact bodyPost_ret (v := .agg #[.bool s5, .slice A5 n5 c5, .slice A6 n6 c6]) (by simp [results, Tryd.results30, go_sem, t0, t1, t2]) rfl G.out
  · have M := main true (by simp [hn, hdd])
    clear main
    go_enter Tryd.func30, Tryd.ntmps30
    go_wp2_with fail
    rw [← HU.out]
    refine (rsize_any n _ h0 h1).mono ?_
    rintro e w1 ⟨rfl, hw⟩
    replace hw := hw.symm
    subst hw
    go_wp2_with fail
    refine (rnatural_any _ _ (by omega) (by omega)).mono ?_
    rintro e w2 ⟨A1, n1, c1, rfl, k1, ⟨b1, _⟩⟩
    rw [Int.toNat_natCast] at k1
    replace x1 := x1.below b1
    replace xb := bthen xb b1
    go_wp2_with fail
    refine (rsize_any d _ g0 g1).mono ?_
    rintro e w3 ⟨rfl, hw⟩
    replace hw := hw.symm
    subst hw
    go_wp2_with fail
    refine (rnatural_any _ _ (by omega) (by omega)).mono ?_
    rintro e w4 ⟨A2, n2, c2, rfl, k2, ⟨b2, _⟩⟩
    rw [Int.toNat_natCast] at k2
    replace k1 := k1.below b2
    replace x1 := x1.below b2
    replace xb := bthen xb b2
    go_wp2_with fail
    refine (M.out _ _ _ _ _ _ _ k1 k2).mono ?_
    rintro e w5 ⟨s5, A5, n5, c5, A6, n6, c6, rfl, f5, o5, o6, b5⟩
    have G := Lib.hid (f5.ret o5 o6 (Nat.le_refl _) x1.lt (bthen xb b5))
    have hlt := x1.lt
    replace x1 := x1.below b5
    have t0 := x1.c0
    have t1 := x1.c1
    have t2 := x1.c2
    have v0 := x1.fz 0
    have v1 := x1.fz 1
    have v2 := x1.fz 2
    clear f5 o5 o6 k1 k2 x1 xb b5 b1 b2 M
    go_wp2_with fail
    exact bodyPost_ret (v := .agg #[.bool s5, .slice A5 n5 c5, .slice A6 n6 c6]) (by simp [results, Tryd.results30, go_sem, t0, t1, t2]) rfl G.out
  · have M := main false (by simp [hn, hdd])
    clear main
    go_enter Tryd.func30, Tryd.ntmps30
    go_wp2_with fail
    rw [← HU.out]
    refine (rsize_any n _ h0 h1).mono ?_
    rintro e w1 ⟨rfl, hw⟩
    replace hw := hw.symm
    subst hw
    go_wp2_with fail
    refine (rnatural_any _ _ (by omega) (by omega)).mono ?_
    rintro e w2 ⟨A1, n1, c1, rfl, k1, ⟨b1, _⟩⟩
    rw [Int.toNat_natCast] at k1
    replace x1 := x1.below b1
    replace xb := bthen xb b1
    go_wp2_with fail
    refine (rsize_any d _ g0 g1).mono ?_
    rintro e w3 ⟨rfl, hw⟩
    replace hw := hw.symm
    subst hw
    go_wp2_with fail
    refine (rnatural_any _ _ (by omega) (by omega)).mono ?_
    rintro e w4 ⟨A2, n2, c2, rfl, k2, ⟨b2, _⟩⟩
    rw [Int.toNat_natCast] at k2
    replace k1 := k1.below b2
    replace x1 := x1.below b2
    replace xb := bthen xb b2
    go_wp2_with fail
    refine (M.out _ _ _ _ _ _ _ k1 k2).mono ?_
    rintro e w5 ⟨s5, A5, n5, c5, A6, n6, c6, rfl, f5, o5, o6, b5⟩
    have G := Lib.hid (f5.ret o5 o6 (Nat.le_refl _) x1.lt (bthen xb b5))
    have hlt := x1.lt
    replace x1 := x1.below b5
    have t0 := x1.c0
    have t1 := x1.c1
    have t2 := x1.c2
    have v0 := x1.fz 0
    have v1 := x1.fz 1
    have v2 := x1.fz 2
    clear f5 o5 o6 k1 k2 x1 xb b5 b1 b2 M
    go_wp2_with fail
    exact bodyPost_ret (v := .agg #[.bool s5, .slice A5 n5 c5, .slice A6 n6 c6]) (by simp [results, Tryd.results30, go_sem, t0, t1, t2]) rfl G.out
set_option maxHeartbeats 1000000 in
theorem q_any (n d : Int) (w : World) (h0 : -9223372036854775808 ≤ n) (h1 : n ≤ 9223372036854775807) (g0 : -9223372036854775808 ≤ d) (g1 : d ≤ 9223372036854775807) (hd : d ≠ 0) :
    Calls Tryd.prog 69 #[.int .i64 n, .int .i64 d] w (FrPost ((n : Rat) / (d : Rat)) w) := by
  obtain ⟨u, HU, x1, xb⟩ := boxes1 w (.bool false) (.slice none 0 0) (.slice none 0 0) 24
  obtain ⟨q, hq⟩ : ∃ q, Hid (q = (n : Rat) / (d : Rat)) := ⟨_, rfl⟩
  have M := Lib.hid (rMake_any n d u h0 h1 g0 g1 hd)
  rw [← hq.out] at M ⊢
  clear hd
  go_enter Tryd.func69, Tryd.ntmps69
  go_wp2_with fail
  rw [← HU.out]
  refine M.out.mono ?_
  rintro e w5 ⟨s5, A5, n5, c5, A6, n6, c6, rfl, f5, o5, o6, b5⟩
  have G := Lib.hid (f5.ret o5 o6 (Nat.le_refl _) x1.lt (bthen xb b5))
  have hlt := x1.lt
  replace x1 := x1.below b5
  have t0 := x1.c0
  have t1 := x1.c1
  have t2 := x1.c2
  have v0 := x1.fz 0
  have v1 := x1.fz 1
  have v2 := x1.fz 2
  clear f5 o5 o6 x1 xb b5 M
  go_wp2_with fail
  exact bodyPost_ret (v := .agg #[.bool s5, .slice A5 n5 c5, .slice A6 n6 c6]) (by simp [results, Tryd.results69, go_sem, t0, t1, t2]) rfl G.out
end Go.Proofs.YtaahbabdbopphaaDoor
