/- frac.(natural).text. frac.read. frac.Text. frac.Parse. frac.Decimal. -/
import Derived.Test.YtaahbabdbopphaaDoorSA
import Derived.Lib.AppendIntMem
import Derived.Test.YtaahbabdbopphaaDoorMA
import Derived.Test.YtaahbabdbopphaaDoorHB
import Derived.Laws.RangeString
import Derived.Laws.RangeAny
import Derived.Lib.OthersKept
namespace Go.Proofs.YtaahbabdbopphaaDoor
open Go.RowKit Mx
set_option maxRecDepth 100000

def OverPostN (q : Nat) (r : Nat) (w : World) (e : Ending) (w' : World) : Prop :=
  ∃ A n c, e = .returned (.tuple #[.slice A n c, .int .u32 (r : Int)]) ∧ Sl w' A n c (dig q) ∧ BelowN w w' A n

set_option maxHeartbeats 1000000 in
theorem over_new (A1 : Option Addr) (n1 c1 a : Nat) (d : Nat) (w : World) (h1 : Sl w A1 n1 c1 (dig a)) (hl1 : n1 ≤ 1000000000) (hd0 : 0 < d) (hd1 : d < 4294967296) :
    Calls Tryd.prog 117 #[.slice A1 n1 c1, .int .u32 (d : Int)] w (OverPostN (a / d) (a % d) w) := by
  obtain ⟨i0, hi0, hz0, hz1, hz2⟩ := info_parts Tryd.info57
  go_enter Tryd.func117, Tryd.ntmps117
  go_wp2_with ((with_reducible refine wpList_make_full _ rfl _ _ 22 rfl w.heap.size 57 i0 (.int .u32 0) 1 Tryd.underlying22 hi0 hz0 hz1 .i64 .i64 _ _ n1 rfl rfl (by omega) (by omega) (by rw [hz2]; omega) (by simp only [maxLen]; omega) (Nat.le_refl _) ?_); intro w1 hown hgrow)
  have hrow := Row.made (Below.refl _ w) hown hgrow
  clear hown hgrow
  go_loopw [7, 8] (fun r i wr => ∃ (k R : Nat) (out : List Nat), k ≤ n1 ∧ i = .int .i64 ((k : Int) - 1) ∧ r = .int .u64 R ∧ R < d ∧ Row w wr w.heap.size n1 n1 out ∧
      Hid (val ((dig a).drop k) = d * val (out.drop k) + R))
    (fun _ i _ => (intOf i + 1).toNat)
  case atStart => exact ⟨n1, 0, List.replicate n1 0, Nat.le_refl _, by go_num, rfl, hd0, hrow, Lib.hid (by rw [val_drop_ge _ _ (by rw [h1.len]; omega), val_drop_ge _ _ (by simp)]; omega)⟩
  case round =>
    clear hrow
    obtain ⟨k, R, out, hk, rfl, rfl, hR32, hR, HV⟩ := hrel
    have hl := hR.len
    by_cases hk0 : k = 0
    · subst hk0
      have hq : Hid (val out = a / d ∧ R = a % d) := Lib.hid (by
        have hv := HV.out
        rw [List.drop_zero, List.drop_zero, val_dig] at hv
        rw [hv]
        exact ⟨by rw [Nat.mul_add_div hd0, Nat.div_eq_of_lt hR32]; omega, by rw [Nat.mul_add_mod, Nat.mod_eq_of_lt hR32]⟩)
      clear hl
      go_wp2_with fail
      refine (trimmed_any _ _ out _ n1 hR.sl hR.ds (by omega)).mono ?_
      rintro e w2 hp
      rw [hq.out.1] at hp
      obtain ⟨A4, n4, c4, rfl, hs, hb⟩ := NatPost.of_below hR.bel hp.nat
      go_wp2_with fail
      go_ret2
      refine ⟨_, _, _, ?_, hs, hb⟩
      rw [← hq.out.2]; rfl
    · obtain ⟨x, hx⟩ : ∃ x : Nat, x = (dig a).getD (k - 1) 0 := ⟨_, rfl⟩
      have hx32 : x < 4294967296 := by rw [hx]; exact ds_get (ds_dig a) _
      obtain ⟨ad1, rfl, hc1⟩ := (h1.below hR.bel).at_ (k := k - 1) (by omega)
      rw [← hx] at hc1
      have hcell := hR.cell (k := k - 1) (by omega)
      have hfz := hR.frozen (k - 1)
      have i1 : (0 : Int) ≤ (k : Int) - 1 := by omega
      have i2 : (k : Int) - 1 < (n1 : Int) := by omega
      have i3 : ((k : Int) - 1).toNat = k - 1 := by omega
      obtain ⟨s, hs⟩ : ∃ s : Nat, s = R * 4294967296 + x := ⟨_, rfl⟩
      have hor := or_hi R x s (by omega) hx32 hs
      have hs0 : (s : Int) ≤ 18446744073709551615 := by omega
      have HN : Hid (val ((dig a).drop (k - 1)) = d * val ((out.set (k - 1) (s / d)).drop (k - 1)) + s % d) := Lib.hid (by
        rw [val_drop' (dig a), ← hx, val_drop' (out.set _ _), getD_set_same _ _ _ (by omega), show k - 1 + 1 = k from by omega, List.drop_set_of_lt (by omega)]
        exact over_step HV.out (by rw [← hs]; exact (Nat.div_add_mod s d).symm))
      have HQ : Hid (s / d < 4294967296 ∧ s % d < d) := Lib.hid ⟨by rw [Nat.div_lt_iff_lt_mul hd0]; have : (R + 1) * 4294967296 ≤ d * 4294967296 := Nat.mul_le_mul_right _ hR32; rw [Nat.mul_comm]; omega, Nat.mod_lt _ hd0⟩
      have hq0 : (0 : Int) ≤ (s : Int) / (d : Int) := Int.ediv_nonneg (by omega) (by omega)
      have hq1 : (s : Int) / (d : Int) ≤ 4294967295 := by have := HQ.out.1; rw [← Int.natCast_ediv]; omega
      have HS := Lib.hid hs
      clear hx hl hs h1
      go_wp2_with fail
      go_roundw
      case rel => exact ⟨k - 1, s % d, out.set (k - 1) (s / d), by omega, by go_num, by simp, HQ.out.2, hR.set (k - 1) _ (by push_cast; omega) HQ.out.1, HN⟩
      case measure => simp [intOf]; omega
/-- A string of bytes, shut. -/
def bs (l : List UInt8) : ByteArray := ⟨l.toArray⟩
theorem bs_size (l : List UInt8) : (bs l).size = l.length := by simp [bs, ByteArray.size]
theorem bs_add (a b : List UInt8) : bs a ++ bs b = bs (a ++ b) := ByteArray.mk_append_mk a b
def strs (ps : List (List UInt8)) : List Value := ps.map fun l => .string (bs l)
theorem strs_one (ps : List (List UInt8)) : ∀ u ∈ strs ps, u.oneCell' = true := by
  intro u hu
  obtain ⟨x, _, rfl⟩ := List.mem_map.1 hu
  rfl
theorem Tryd.info9 : (Tryd.prog.info? 9).map (fun i => (i.zero, i.size, i.bytes)) = some (some (.string ⟨#[]⟩), 1, 16) := by kernel_rfl
/-- The table of powers, as a condition that is kept. -/
abbrev Tab (w : World) : Prop := Lib.TabBelow Tryd.prog w.heap.size w "internal/strconv.uint64pow10" .u64 Lib.pow10Tab
theorem Tab.on {w w1 : World} (h : Tab w) (hb : Below w.heap.size w w1) : Tab w1 := fun w' h' => h w' (below_then hb hb.size h')
set_option maxHeartbeats 1000000 in
theorem itoa_any (r : Nat) (w : World) (hr : r < 4294967296) (ht : Tab w) : Calls Tryd.prog 118 #[.int .i64 (r : Int)] w (ValPost (.string (bs (Lib.decDigits r))) w) := by
  refine (Tryd.strconv_Itoa (r : Int) (by omega) (by omega) w ht.here).mono ?_
  rintro e w' ⟨rfl, k, os, rfl⟩
  rw [Lib.itoa_nonneg]
  exact ⟨rfl, Lib.below_grow _ w (Nat.le_refl _) k os⟩

theorem ownS_later {base : Nat} {w w' : World} {v : Value} {n : Nat} {xs : List Value} (h : w.ownsRow base 9 1 v n xs) (hb : Below w.heap.size w w') : w'.ownsRow base 9 1 v n xs :=
  h.kept (row := none) ⟨hb.os, hb.tape, hb.output, hb.size, fun k hk _ => hb.block k hk⟩ (by cases hv : v.ownBlock <;> simp)
theorem lit1 (w : World) (s : ByteArray) : ∀ (j : Nat) (u : Value), [Value.string s][j]? = some u → (w.alloc (.cells #[.string s] 9)).cell? ((⟨w.heap.size, 0, none⟩ : Addr).add j) = some u := by
  intro j u hj
  match j, hj with
  | 0, hj => simp at hj; subst hj; simp [Addr.add]
theorem Sl.lt {w : World} {A : Option Addr} {n c : Nat} {xs : List Nat} (h : Sl w A n c xs) (ad : Addr) (hA : A = some ad) (hn : 0 < n) : ad.block < w.heap.size := by
  obtain ⟨ad', e, hc⟩ := h.at_ (k := 0) hn
  rw [hA] at e
  injection e with e
  subst e
  have := World.block_lt_of_cell? w _ hc
  rwa [block_of_add] at this
theorem Sl.grown {w w' : World} {A : Option Addr} {n c : Nat} {xs : List Nat} {row : Option Nat} (h : Sl w A n c xs) (hg : w.grownBy w' row) (hne : ∀ ad g, A = some ad → 0 < n → row = some g → ad.block ≠ g) : Sl w' A n c xs := by
  refine ⟨h.len, h.cap, fun i hi => ?_⟩
  obtain ⟨ad, hA, hc⟩ := h.rd i hi
  have hn : 0 < n := by have := h.len; omega
  refine ⟨ad, hA, ?_⟩
  rw [World.cell?_of_block (hg.block _ ?_ ?_)]
  · exact hc
  · exact World.block_lt_of_cell? w _ hc
  · intro e
    rw [block_of_add] at e
    exact hne ad ad.block hA hn e.symm rfl
theorem join_drop (ps : List (List UInt8)) {k : Nat} (h : k < ps.length) : (ps.drop k).reverse.flatten = (ps.drop (k + 1)).reverse.flatten ++ ps[k] := by
  rw [List.drop_eq_getElem_cons h, List.reverse_cons, List.flatten_append]; simp
theorem flat_len (ps : List (List UInt8)) (h : ∀ p ∈ ps, 0 < p.length) : ps.length ≤ ps.reverse.flatten.length := by
  induction ps with
  | nil => simp
  | cons p ps ih =>
    have := ih (fun q hq => h q (List.mem_cons_of_mem _ hq))
    have := h p (List.mem_cons_self ..)
    simp only [List.reverse_cons, List.flatten_append, List.length_append, List.length_cons, List.flatten_cons, List.flatten_nil, List.append_nil] at *
    omega

set_option maxHeartbeats 4000000 in
theorem text_any (A1 : Option Addr) (n1 c1 a : Nat) (w : World) (h1 : Sl w A1 n1 c1 (dig a)) (hl1 : n1 ≤ 1000000) (ht : Tab w) :
    Calls Tryd.prog 84 #[.slice A1 n1 c1] w (ValPost (.string (bs (Lib.decDigits a))) w) := by
  obtain ⟨i0, hi0, hz0, hz1, hz2⟩ := info_parts Tryd.info9
  by_cases ha : a = 0
  · have hn : n1 = 0 := by rw [← h1.len, ha, dig_zero]; rfl
    subst hn
    have HS : Hid (bs (Lib.decDigits a) = ⟨#[48]⟩) := Lib.hid (by rw [ha, Lib.decDigits_one (by omega)]; rfl)
    go_enter Tryd.func84, Tryd.ntmps84
    go_wp2_with fail
    go_ret
    refine ⟨by rw [HS.out]; rfl, Below.refl _ _⟩
  · have hn : 0 < n1 := by rw [← h1.len]; exact len_dig_pos.2 ha
    have hn' : ((n1 : Int) == 0) = false := beq_eq_false_iff_ne.2 (by omega)
    have HL := Lib.hid (dec_len (a := a) (n := n1) (by rw [h1.len]; exact Nat.le_refl _) hn)
    have HA : Hid (Lib.decDigits a = rest a ++ ([] : List (List UInt8)).reverse.flatten) := Lib.hid (by unfold rest; rw [if_neg ha]; simp)
    go_enter Tryd.func84, Tryd.ntmps84
    go_wp2_with fail
    go_loopg [0, 3] a (fun m s0 s3 wr => ∃ (A : Option Addr) (n c k : Nat) (ps : List (List UInt8)), s0 = .slice A n c ∧ Sl wr A n c (dig m) ∧ n ≤ 1000000 ∧ wr.ownsRow w.heap.size 9 1 s3 k (strs ps) ∧
        Hid (Lib.decDigits a = rest m ++ ps.reverse.flatten) ∧ Hid (∀ p ∈ ps, 0 < p.length) ∧ Below w.heap.size w wr ∧ Hid (∀ ad g, A = some ad → 0 < n → s3.ownBlock = some g → ad.block ≠ g))
    case atStart => exact ⟨A1, n1, c1, 0, [], rfl, h1, hl1, World.ownsRow_nil _ _ _ _, HA, Lib.hid (fun p hp => by cases hp), Below.refl _ _, Lib.hid (fun ad g _ _ hg => by cases hg)⟩
    case round =>
      obtain ⟨A, n, c, k, ps, rfl, hs, hn, hown, HD, HP, hb, HF⟩ := hrel
      have hk : k ≤ 10000000 := by
        have e1 := HD.out
        have e2 := flat_len ps HP.out
        have e3 := hown.1
        have e4 := HL.out
        rw [e1, List.length_append] at e4
        simp only [strs, List.length_map] at e3
        omega
      obtain ⟨A3, c3, rfl⟩ := own_shape hown
      have hkps : ps.length = k := by have := hown.1; simp only [strs, List.length_map] at this; omega
      by_cases hm : gk = 0
      · have hz : n = 0 := by rw [← hs.len, hm, dig_zero]; rfl
        have HR : Hid (Lib.decDigits a = ps.reverse.flatten) := Lib.hid (by rw [HD.out, hm]; rfl)
        have HLL : Hid (ps.reverse.flatten.length ≤ 10000000) := Lib.hid (by rw [← HR.out]; have := HL.out; omega)
        subst hz
        clear hm hs HD HF hn hn'
        go_wp2_with fail
        go_loop [6, 7] (fun so si => ∃ (j : Nat) (S : ByteArray), j ≤ k ∧ si = .int .i64 ((j : Int) - 1) ∧ so = .string S ∧ Hid (S = bs (ps.drop j).reverse.flatten) ∧ S.size ≤ 10000000) (fun _ si => (intOf si + 1).toNat)
        case atStart => exact ⟨k, ⟨#[]⟩, Nat.le_refl _, by go_num, rfl, Lib.hid (by rw [← hkps, List.drop_length]; rfl), by decide⟩
        case round =>
          obtain ⟨j, S, hj, rfl, rfl, HS, hS⟩ := hrel
          by_cases hj0 : j = 0
          · subst hj0
            have HE : Hid (S = bs (Lib.decDigits a)) := Lib.hid (by rw [HS.out, HR.out, List.drop_zero])
            go_wp2_with fail
            go_ret
            refine ⟨by rw [← HE.out]; rfl, hb⟩
          · obtain ⟨p, hp⟩ : ∃ p, p = ps[j - 1]'(by omega) := ⟨_, rfl⟩
            have hjp : j - 1 < ps.length := by omega
            obtain ⟨T, HT⟩ : ∃ T, Hid (T = bs p) := ⟨_, rfl⟩
            obtain ⟨g, cap, hv, hg1, hg2⟩ := hown.form (by omega)
            obtain rfl : A3 = some ⟨g, 0, none⟩ := by injection hv
            have hcell : wr.cell? ⟨g, j - 1, none⟩ = some (.string T) := by
              rw [hown.cellAt (j - 1) (by omega), HT.out, hp]; simp [strs, hjp]
            have HN : Hid (S ++ T = bs (ps.drop (j - 1)).reverse.flatten) := Lib.hid (by
              rw [HS.out, HT.out, bs_add, join_drop ps hjp, ← hp, show j - 1 + 1 = j from by omega])
            have hsum : S.size + T.size ≤ 10000000 := by
              have := congrArg ByteArray.size HN.out
              rw [bs_size, ByteArray.size_append] at this
              have e2 := HLL.out
              have e3 : (ps.drop (j - 1)).reverse.flatten.length ≤ ps.reverse.flatten.length := by
                conv => rhs; rw [← List.take_append_drop (j - 1) ps]
                rw [List.reverse_append, List.flatten_append, List.length_append]
                omega
              omega
            have i1 : (0 : Int) ≤ (j : Int) - 1 := by omega
            have i2 : (j : Int) - 1 < (k : Int) := by omega
            have i3 : ((j : Int) - 1).toNat = j - 1 := by omega
            clear hp hv hown hkps
            go_wp2_with fail
            go_round
            case rel => exact ⟨j - 1, S ++ T, by omega, by go_num, rfl, HN, by rw [ByteArray.size_append]; exact hsum⟩
            case measure => simp [intOf]; omega
      · have hz : 0 < n := by rw [← hs.len]; exact len_dig_pos.2 hm
        obtain ⟨qq, HQ⟩ : ∃ qq, Hid (qq = gk / 1000000000) := ⟨_, rfl⟩
        obtain ⟨r, HRm⟩ : ∃ r, Hid (r = gk % 1000000000) := ⟨_, rfl⟩
        have hr : r ≤ 999999999 := by rw [HRm.out]; omega
        have hqlt : qq < gk := by rw [HQ.out]; omega
        have HST := Lib.hid (rest_step hm)
        have HOV : Hid (∀ W, Sl W A n c (dig gk) → Calls Tryd.prog 117 #[.slice A n c, .int .u32 1000000000] W (OverPostN qq r W)) := Lib.hid (fun W hW => by
          rw [HQ.out, HRm.out]; exact over_new A n c gk 1000000000 W hW (by omega) (by omega) (by omega))
        clear hm hn'
        go_wp2_with fail
        refine (HOV.out _ hs).mono ?_
        rintro e w1 ⟨A5, n5, c5, rfl, hs5, hb5⟩
        have hn5 : n5 ≤ n := by rw [← hs5.len, ← hs.len]; exact len_mono (by omega)
        have hown1 := ownS_later hown hb5.bel
        have HF1 : Hid (∀ ad g, A5 = some ad → 0 < n5 → (Value.slice A3 k c3).ownBlock = some g → ad.block ≠ g) := Lib.hid (fun ad g h1 h2 h3 => by
          have e1 := hb5.new ad h1 h2
          have e2 := (hown.lt g h3).2
          omega)
        have hb1 := bthen hb hb5.bel
        have hnq : n5 = 0 ↔ qq = 0 := by rw [← hs5.len]; exact len_dig_zero
        have HTab := ht.on hb1
        clear hown hb5 HF hs HOV
        go_wp2_with fail
        refine (itoa_any r _ (by omega) HTab).mono ?_
        rintro e w2 ⟨rfl, hb2⟩
        have hs6 := hs5.below hb2
        have hown2 := ownS_later hown1 hb2
        have hb3 := bthen hb1 hb2
        obtain ⟨D, HDD⟩ : ∃ D, Hid (D = bs (Lib.decDigits r)) := ⟨_, rfl⟩
        have hD9 : D.size ≤ 9 := by rw [HDD.out, bs_size]; exact (pad_rep 8 r (by have : (10 : Nat) ^ (8 + 1) = 1000000000 := rfl; omega)).1
        rw [← HDD.out]
        clear hs5 hown1 hb1 hb2 HTab
        go_wp2_with fail
        go_loop [5] (fun s => ∃ (j : Nat) (T : ByteArray), s = .string T ∧ Hid (T = bs (List.replicate j 48 ++ Lib.decDigits r)) ∧ T.size ≤ 9 ∧ Hid (j = 0 ∨ qq ≠ 0)) (fun s => 9 - (match s with | .string T => T.size | _ => 0))
        case atStart => exact ⟨0, D, rfl, Lib.hid (by rw [HDD.out]; simp), hD9, Lib.hid (Or.inl rfl)⟩
        case round =>
          obtain ⟨j, T, rfl, HT, hT, HJ⟩ := hrel
          by_cases hgo : 0 < n5 ∧ T.size < 9
          · obtain ⟨hg1, hg2⟩ := hgo
            have HT2 : Hid (⟨#[48]⟩ ++ T = bs (List.replicate (j + 1) 48 ++ Lib.decDigits r)) := Lib.hid (by
              rw [HT.out, show (⟨#[48]⟩ : ByteArray) = bs [48] from rfl, bs_add]; rfl)
            have HQ0 : Hid (j + 1 = 0 ∨ qq ≠ 0) := Lib.hid (Or.inr (by omega))
            clear hnq
            go_wp2_with fail
            go_round
            case rel => exact ⟨j + 1, ⟨#[48]⟩ ++ T, rfl, HT2, by rw [ByteArray.size_append]; show 1 + T.size ≤ 9; omega, HQ0⟩
            case measure => simp only [ByteArray.size_append]; show 9 - (1 + T.size) < 9 - T.size; omega
          · have HP2 : Hid (T = bs (piece qq r)) := Lib.hid (by
              by_cases hq0 : qq = 0
              · have : j = 0 := by rcases HJ.out with h | h <;> omega
                rw [HT.out, this, hq0, piece_zero]; rfl
              · have e9 : T.size = 9 := by omega
                have e1 := piece_nine hq0 (show r < 1000000000 by omega)
                have e2 := congrArg ByteArray.size HT.out
                rw [bs_size, List.length_append, List.length_replicate] at e2
                rw [HT.out, e1.2, show 9 - (Lib.decDigits r).length = j from by omega])
            have HDN : Hid (Lib.decDigits a = rest qq ++ (ps ++ [piece qq r]).reverse.flatten) := Lib.hid (by
              rw [HD.out, HST.out, HQ.out, HRm.out, List.reverse_append, List.flatten_append]; simp)
            have HPN : Hid (∀ p ∈ ps ++ [piece qq r], 0 < p.length) := Lib.hid (fun p hp => by
              rcases List.mem_append.1 hp with h | h
              · exact HP.out p h
              · rw [List.mem_singleton.1 h]; exact piece_pos _ _)
            have HC : Hid (strs ps ++ [.string T] = strs (ps ++ [piece qq r])) := Lib.hid (by rw [HP2.out]; simp [strs])
            have hsz := hb3.size
            clear HT HJ HD HP
            have hdone : n5 = 0 ∨ 0 < n5 ∧ 9 ≤ T.size := by omega
            obtain ⟨N5, hN5⟩ : ∃ N5, Hid (N5 = n5) := ⟨_, rfl⟩
            have hnQ := Lib.hid hnq
            clear hnq hgo
            rcases hdone with rfl | ⟨hz5, hz6⟩
            all_goals
              go_wp2_with (at_builtin; refine wpList_append_own_at _ rfl _ _ 105 rfl w.heap.size 9 i0 (.string ⟨#[]⟩) 1 16 Tryd.underlying105 hi0 hz0 hz1 hz2 rfl (by decide) (.slice A3 k c3) k (strs ps) rfl (hown2.alloc _) ⟨w2.heap.size, 0, none⟩ 1 1 [.string T] rfl rfl (lit1 _ T) (by intro u hu; rw [List.mem_singleton.1 hu]; rfl) (by unfold maxLen; omega) (by omega) (by simp; omega) ?_; intro v' w3 hown3 hgrow3 _ hat)
              rw [HC.out] at hown3
              have hs7 := (hs6.alloc (.cells #[.string T] 9)).grown hgrow3 HF1.out
              have hb4 := (below_alloc hb3 (.cells #[.string T] 9)).grown hgrow3 (by simp; omega) (fun g hg => (hown2.lt g hg).1)
              have HF3 : Hid (∀ ad g, A5 = some ad → 0 < _ → v'.ownBlock = some g → ad.block ≠ g) := Lib.hid (fun ad g h1 h2 h3 => by
                rcases hat with h4 | h4
                · exact HF1.out ad g h1 h2 (by rw [← h4]; exact h3)
                · have e1 := hs6.lt ad h1 h2
                  rw [h3] at h4
                  injection h4 with h4
                  simp at h4
                  omega)
              clear hgrow3 hat hown2 hs6
              go_roundg qq
              case measure => exact hqlt
              case rel => exact ⟨_, _, _, _, _, rfl, hs7, by omega, hown3, HDN, HPN, hb4, HF3⟩
end Go.Proofs.YtaahbabdbopphaaDoor
namespace Go.Proofs.YtaahbabdbopphaaDoor
open Go.RowKit Mx
set_option maxRecDepth 100000

def isD (b : UInt8) : Bool := decide (48 ≤ b.toNat) && decide (b.toNat ≤ 57)
/-- What digits say. -/
def dv (l : List UInt8) : Nat := l.foldl (fun a b => a * 10 + (b.toNat - 48)) 0
theorem dv_snoc (l : List UInt8) (b : UInt8) : dv (l ++ [b]) = dv l * 10 + (b.toNat - 48) := by simp [dv, List.foldl_append]
theorem dv_lt (l : List UInt8) (h : ∀ b ∈ l, isD b = true) : dv l < 10 ^ l.length := by
  have key : ∀ k, k ≤ l.length → dv (l.take k) < 10 ^ k := by
    intro k
    induction k with
    | zero => intro _; simp [dv]
    | succ k ih =>
      intro hk
      rw [List.take_succ_eq_append_getElem (by omega), dv_snoc, Nat.pow_succ]
      have h1 := ih (by omega)
      have h2 := h l[k] (List.getElem_mem _)
      simp only [isD, Bool.and_eq_true, decide_eq_true_eq] at h2
      omega
  have := key l.length (Nat.le_refl _)
  rwa [List.take_length] at this
theorem dv_len (l : List UInt8) (h : ∀ b ∈ l, isD b = true) : (dig (dv l)).length ≤ l.length :=
  len_le_iff.2 (Nat.lt_of_lt_of_le (dv_lt l h) (Nat.pow_le_pow_left (by decide) _))
/-- The digits at the beginning. -/
def dpre (l : List UInt8) : List UInt8 := l.takeWhile isD
theorem dpre_all (l : List UInt8) : ∀ b ∈ dpre l, isD b = true := by
  induction l with
  | nil => intro b hb; cases hb
  | cons x l ih =>
    intro b hb
    unfold dpre at hb
    rw [List.takeWhile_cons] at hb
    by_cases hx : isD x = true
    · rw [if_pos hx] at hb
      rcases List.mem_cons.1 hb with h | h
      · rw [h]; exact hx
      · exact ih b h
    · rw [if_neg hx] at hb; cases hb
theorem dpre_eq (l : List UInt8) (j : Nat) (hj : j ≤ l.length) (h : ∀ b ∈ l.take j, isD b = true) (he : j = l.length ∨ ∃ h : j < l.length, isD l[j] = false) : dpre l = l.take j := by
  induction l generalizing j with
  | nil => simp [dpre]
  | cons x l ih =>
    cases j with
    | zero =>
      rcases he with he | ⟨_, he⟩
      · simp at he
      · simp at he; simp [dpre, he]
    | succ j =>
      have hx : isD x = true := h x (by simp)
      unfold dpre
      rw [List.takeWhile_cons, if_pos hx, List.take_succ_cons]
      congr 1
      refine ih j (by simpa using hj) (fun b hb => h b (by simp [hb])) ?_
      rcases he with he | ⟨h1, he⟩
      · left; simpa using he
      · right; exact ⟨by simpa using h1, by simpa using he⟩
theorem Sl.iterAt {w : World} {A : Option Addr} {n c : Nat} {xs : List Nat} (h : Sl w A n c xs) {k : Nat} {s : ByteArray} {pos : Nat} (hk : w.heap[k]? = some (.stringIter s pos)) (p : Nat) : Sl (w.iterAt k s p) A n c xs := by
  refine ⟨h.len, h.cap, fun i hi => ?_⟩
  obtain ⟨ad, hA, hc⟩ := h.rd i hi
  refine ⟨ad, hA, ?_⟩
  rw [World.cell?_of_block (Lib.iterAt_other w k _ s p ?_)]
  · exact hc
  · intro e
    unfold World.cell? at hc
    rw [e, hk] at hc
    simp at hc
theorem len_dig_ten : (dig 10).length = 1 := by
  have h1 := len_small (a := 10) (by decide)
  have h2 := len_dig_pos.2 (show (10 : Nat) ≠ 0 by decide)
  omega
/-- Hands back a number and how many digits it has. -/
def ReadPost (l : List UInt8) (w : World) (e : Ending) (w' : World) : Prop :=
  ∃ A n c, e = .returned (.tuple #[.slice A n c, .int .i64 ((dpre l).length : Int)]) ∧ Sl w' A n c (dig (dv (dpre l))) ∧ Below w.heap.size w w'

set_option maxHeartbeats 2000000 in
theorem read_any (s : ByteArray) (w : World) (hs : s.size ≤ 1000000) :
    Calls Tryd.prog 87 #[.string s] w (ReadPost s.data.toList w) := by
  have hl : s.data.toList.length = s.size := Array.length_toList
  go_enter Tryd.func87, Tryd.ntmps87
  go_wp2_with fail
  go_loopw [4, 5] (fun so si wr => ∃ (A : Option Addr) (n c j : Nat), so = .slice A n c ∧ si = .int .i64 j ∧ j ≤ s.size ∧ n ≤ j ∧ wr.heap[w.heap.size]? = some (.stringIter s j) ∧ Sl wr A n c (dig (dv (s.data.toList.take j))) ∧
      Hid (∀ b ∈ s.data.toList.take j, isD b = true) ∧ Below w.heap.size w wr) (fun _ si _ => s.size - (intOf si).toNat)
  case atStart =>
    refine ⟨none, 0, 0, 0, rfl, rfl, Nat.zero_le _, Nat.le_refl _, World.iter_heap w s 0, ?_, Lib.hid (fun b hb => by simp at hb), below_alloc (Below.refl _ w) _⟩
    rw [List.take_zero, show dv [] = 0 from rfl, dig_zero]
    exact ⟨rfl, Nat.le_refl _, Rd.nil_ _ _⟩
  case round =>
    obtain ⟨A, n, c, j, rfl, rfl, hj, hn, hit, hsl, HA, hb⟩ := hrel
    by_cases hp : j < s.size
    · have hbt : s.data.toList[j]'(by omega) = s[j]'hp := by rw [Array.getElem_toList]; rfl
      have hit2 := fun p => Lib.iterAt_heap wr w.heap.size s j p hit
      have hb2 := fun p => Lib.below_iterAt hb (k := w.heap.size) (Nat.le_refl _) s p
      have hsl2 := fun p => hsl.iterAt hit p
      by_cases hD : isD (s[j]'hp) = true
      · have hD2 := hD
        simp only [isD, Bool.and_eq_true, decide_eq_true_eq] at hD2
        have hnx : ∀ ty, (Instr.next (.pointer (some ⟨w.heap.size, 0, none⟩)) true ty).run Tryd.prog wr = _ := fun ty => Lib.run_next_ascii_at wr w.heap.size s j ty hit hp (by omega)
        have HV : Hid (dv (s.data.toList.take (j + 1)) = dv (s.data.toList.take j) * 10 + ((s[j]'hp).toNat - 48)) := Lib.hid (by
          rw [List.take_succ_eq_append_getElem (by omega), dv_snoc, hbt])
        have HA2 : Hid (∀ b ∈ s.data.toList.take (j + 1), isD b = true) := Lib.hid (by
          rw [List.take_succ_eq_append_getElem (by omega)]
          intro b h
          rcases List.mem_append.1 h with h | h
          · exact HA.out b h
          · rw [List.mem_singleton.1 h, hbt]; exact hD)
        have HL : Hid ((dig (dv (s.data.toList.take (j + 1)))).length ≤ j + 1) := Lib.hid (by
          have := dv_len _ HA2.out
          rw [List.length_take] at this
          omega)
        have hit3 := hit2 (j + 1)
        have hb3 := hb2 (j + 1)
        have hsl3 := hsl2 (j + 1)
        obtain ⟨b, hbb⟩ : ∃ b : Nat, b = (s[j]'hp).toNat := ⟨_, rfl⟩
        rw [← hbb] at HV hD2
        simp only [← hbb] at hnx
        have HB := Lib.hid hbb
        clear hbb hD hbt hit2 hb2 hsl2 HA hit hsl hb
        obtain ⟨d1, d2⟩ := hD2
        go_wp2_with fail
        refine (small_any 10 _ (by omega) (by omega)).mono ?_
        rintro e w1 ⟨A1, n1, c1, rfl, g1, b1⟩
        have hn1 : n1 ≤ 2 := by rw [← g1.len]; exact len_two (by decide)
        have s1 := hsl3.below b1.bel
        have t1 := Lib.iterAt_heap wr w.heap.size s j (j + 1)
        have k1 : w1.heap[w.heap.size]? = some (.stringIter s (j + 1)) := by rw [b1.bel.block _ (Array.getElem?_eq_some_iff.1 hit3).1]; exact hit3
        have e1 := bthen hb3 b1.bel
        clear hnx hit3 hb3 hsl3 b1 t1
        go_wp2_with fail
        refine (mul_any A A1 n n1 c c1 _ 10 _ s1 g1 (by omega) (by omega)).mono ?_
        rintro e w2 ⟨A2, n2, c2, rfl, g2, b2⟩
        have hn2 : n2 ≤ 2000000 := by rw [← g2.len]; have := len_mul (dv (s.data.toList.take j)) 10; rw [s1.len, len_dig_ten] at this; omega
        have k2 : w2.heap[w.heap.size]? = some (.stringIter s (j + 1)) := by rw [b2.bel.block _ (Array.getElem?_eq_some_iff.1 k1).1]; exact k1
        have e2 := bthen e1 b2.bel
        clear s1 g1 k1 e1 b2
        go_wp2_with fail
        refine (small_any ((b : Int) - 48) _ (by omega) (by omega)).mono ?_
        rintro e w3 ⟨A3, n3, c3, rfl, g3, b3⟩
        have hn3 : n3 ≤ 2 := by rw [← g3.len]; exact len_two (by omega)
        have s3 := g2.below b3.bel
        have k3 : w3.heap[w.heap.size]? = some (.stringIter s (j + 1)) := by rw [b3.bel.block _ (Array.getElem?_eq_some_iff.1 k2).1]; exact k2
        have e3 := bthen e2 b3.bel
        clear g2 k2 e2 b3
        go_wp2_with fail
        refine (add_any A2 A3 n2 n3 c2 c3 _ _ _ s3 g3 (by omega) (by omega)).mono ?_
        rintro e w4 ⟨A4, n4, c4, rfl, g4, b4⟩
        have k4 : w4.heap[w.heap.size]? = some (.stringIter s (j + 1)) := by rw [b4.bel.block _ (Array.getElem?_eq_some_iff.1 k3).1]; exact k3
        have e4 := bthen e3 b4.bel
        have g5 : Sl w4 A4 n4 c4 (dig (dv (s.data.toList.take (j + 1)))) := by
          rw [HV.out]
          rw [show ((b : Int) - 48).toNat = b - 48 from by omega] at g4
          exact g4
        have hn4 : n4 ≤ j + 1 := by rw [← g5.len]; exact HL.out
        clear s3 g3 k3 e3 b4 g4
        go_wp2_with fail
        go_roundw
        case rel => exact ⟨A4, n4, c4, j + 1, rfl, by go_num, by omega, hn4, k4, g5, HA2, e4⟩
        case measure => simp [intOf]; omega
      · have HR : Hid (dpre s.data.toList = s.data.toList.take j) := Lib.hid (dpre_eq _ j (by omega) HA.out (Or.inr ⟨by omega, by rw [hbt]; simpa using hD⟩))
        have HRL : Hid ((dpre s.data.toList).length = j) := Lib.hid (by rw [HR.out, List.length_take]; omega)
        obtain ⟨R, p, hnx, hR⟩ : ∃ (R : Nat) (p : Nat), (∀ ty, (Instr.next (.pointer (some ⟨w.heap.size, 0, none⟩)) true ty).run Tryd.prog wr = .ok (.tuple #[.bool true, .int .i64 j, .int .i32 (R : Int)]) (wr.iterAt w.heap.size s p)) ∧ (R < 48 ∨ 57 < R ∧ R ≤ 2147483647) := by
          by_cases h128 : (s[j]'hp).toNat < 128
          · refine ⟨_, _, fun ty => Lib.run_next_ascii_at wr w.heap.size s j ty hit hp h128, ?_⟩
            simp only [isD, Bool.and_eq_true, decide_eq_true_eq] at hD
            omega
          · refine ⟨_, _, fun ty => Lib.run_next_any_at wr w.heap.size s j ty hit hp, ?_⟩
            have h1 := (decode_high s j hp (by omega)).1
            have h2 := decode_le s j
            omega
        have hb3 := hb2 p
        have hsl3 := hsl2 p
        clear hD hbt hit2 hb2 hsl2 HA hit hsl hb
        rcases hR with hR | ⟨hR, hR2⟩
        all_goals
          go_wp2_with fail
          go_ret2
          refine ⟨A, n, c, ?_, by rw [HR.out]; exact hsl3, hb3⟩
          rw [HRL.out]; rfl
    · have HR : Hid (dpre s.data.toList = s.data.toList.take j) := Lib.hid (dpre_eq _ j (by omega) HA.out (Or.inl (by omega)))
      have HRL : Hid ((dpre s.data.toList).length = j) := Lib.hid (by rw [HR.out, List.length_take]; omega)
      have hnx : ∀ ty, (Instr.next (.pointer (some ⟨w.heap.size, 0, none⟩)) true ty).run Tryd.prog wr = _ := fun ty => Lib.run_next_end_at wr w.heap.size s j ty hit hp
      go_wp2_with fail
      go_ret2
      refine ⟨A, n, c, ?_, by rw [HR.out]; exact hsl, hb⟩
      rw [HRL.out]; rfl
end Go.Proofs.YtaahbabdbopphaaDoor
namespace Go.Proofs.YtaahbabdbopphaaDoor
open Go.RowKit Mx
set_option maxRecDepth 100000

/-- A number in lowest terms. -/
def txt (q : Rat) : List UInt8 := (if rneg q then [45] else []) ++ Lib.decDigits (rn q) ++ (if rd q = 1 then [] else 47 :: Lib.decDigits (rd q))
theorem txt_size {a n : Nat} (h : (dig a).length ≤ n) (hn : n ≤ 1000000) : (bs (Lib.decDigits a)).size ≤ 10000010 := by
  rw [bs_size]
  have := dec_len (a := a) (n := n + 1) (by omega) (by omega)
  omega

set_option maxHeartbeats 4000000 in
theorem Text_any (s1 : Bool) (A1 A2 : Option Addr) (n1 n2 c1 c2 : Nat) (q : Rat) (w : World) (h : Rf w s1 A1 n1 c1 A2 n2 c2 q) (hl1 : n1 ≤ 100000) (hl2 : n2 ≤ 100000) (ht : Tab w) :
    Calls Tryd.prog 31 #[.agg #[.bool s1, .slice A1 n1 c1, .slice A2 n2 c2]] w (ValPost (.string (bs (txt q))) w) := by
  have hlen := h.len
  obtain ⟨u, HU, x1, xb⟩ := boxes1 w (.bool s1) (.slice A1 n1 c1) (.slice A2 n2 c2) 24
  have h := h.below xb
  have q0 := x1.c0
  have q1 := x1.c1
  have q2 := x1.c2
  go_enter Tryd.func31, Tryd.ntmps31
  go_wp2_with fail
  rw [← HU.out]
  refine (takes_any s1 A1 A2 n1 n2 c1 c2 q _ h (by omega) (by omega)).mono ?_
  rintro e w1 ⟨s3, A3, n3, c3, A4, n4, c4, rfl, m3, b3⟩
  have hn3 : n3 ≤ 100000 := by have := m3.lens; omega
  have hn4 : n4 ≤ 100001 := by have := m3.lens; omega
  obtain ⟨v, HV, z4, zb⟩ := boxes1 w1 (.bool s3) (.slice A3 n3 c3) (.slice A4 n4 c4) 66
  have yb := bthen (bthen xb b3) zb
  have k3 := m3.below zb
  have q0 := z4.c0
  have q1 := z4.c1
  have q2 := z4.c2
  have hsg := Lib.hid k3.neg
  clear x1 xb m3 b3
  go_wp2_with fail
  rw [← HV.out]
  refine (text_any A3 n3 c3 _ _ k3.num (by omega) (ht.on yb)).mono ?_
  rintro e w2 ⟨rfl, b2⟩
  obtain ⟨S1, HS1⟩ : ∃ S, Hid (S = bs (Lib.decDigits (rn q))) := ⟨_, rfl⟩
  have hS1 : S1.size ≤ 10000010 := by rw [HS1.out]; exact txt_size (Nat.le_of_eq k3.num.len) (by omega)
  rw [← HS1.out]
  have k4 := k3.below b2
  have z5 := z4.below b2
  have yb5 := bthen yb b2
  have q0 := z5.c0
  have q1 := z5.c1
  have q2 := z5.c2
  obtain ⟨S2, HS2, hS2⟩ : ∃ S, Hid (S = bs ((if rneg q then [45] else []) ++ Lib.decDigits (rn q))) ∧ S.size ≤ 10000011 := by
    refine ⟨_, rfl, ?_⟩
    rw [bs_size, List.length_append]
    have := hS1
    rw [HS1.out, bs_size] at this
    split <;> simp <;> omega
  have HT1 : Hid (s3 = true → ⟨#[45]⟩ ++ S1 = S2) := Lib.hid (fun e => by
    rw [HS2.out, ← hsg.out, e, HS1.out, if_pos rfl, show (⟨#[45]⟩ : ByteArray) = bs [45] from rfl, bs_add])
  have HT2 : Hid (s3 = false → S1 = S2) := Lib.hid (fun e => by
    rw [HS2.out, ← hsg.out, e, HS1.out, if_neg (by decide), List.nil_append])
  have z6 := z5.drew
  have k6 := k4.drew
  have y6 := below_drew yb5
  by_cases hd : rd q = 1
  · have HD1 : Hid (rd q = Int.toNat 1) := Lib.hid hd
    have HE : Hid (S2 = bs (txt q)) := Lib.hid (by rw [HS2.out]; unfold txt; rw [if_pos hd, List.append_nil])
    cases s3 with
    | true =>
      have HX := Lib.hid (HT1.out rfl)
      clear k3 z4 hsg HT1 HT2
      go_wp2_with fail
      go_region_held3 (fun w' => w'.cell? ⟨w1.heap.size, 2, none⟩ = some (.slice A4 n4 c4))
        (first | (with_reducible exact q2) | (with_reducible exact z6.c2) | (with_reducible exact z7.c2) | (with_reducible exact z8.c2) | go_keep)
        (first
          | (go_at_call 86
             (with_reducible refine (small_any 1 _ (by omega) (by omega)).mono ?_)
             rintro e w3 ⟨A5, n5, c5, rfl, g5, b5⟩
             have hn5 : n5 ≤ 2 := by rw [← g5.len]; exact len_two (by decide)
             have z7 := z6.below b5.bel
             have k7 := k6.below b5.bel
             have y7 := bthen y6 b5.bel)
          | (go_at_call 85
             (with_reducible refine (compare_eq _ _ _ _ _ _ _ _ _ k7.den g5 (by omega) (by omega) HD1.out).mono ?_)
             rintro e w4 ⟨rfl, kk, rfl⟩
             have z8 := z7.below (below_drewN (Below.refl _ _) kk)
             have k8 := k7.below (below_drewN (Below.refl _ _) kk)
             have y8 := below_drewN y7 kk))
      go_wp2_with fail
      go_ret
      refine ⟨?_, y8⟩
      rw [← HE.out, ← HX.out]; rfl
    | false =>
      have HX := Lib.hid (HT2.out rfl)
      clear k3 z4 hsg HT1 HT2
      go_wp2_with fail
      go_region_held3 (fun w' => w'.cell? ⟨w1.heap.size, 2, none⟩ = some (.slice A4 n4 c4))
        (first | (with_reducible exact q2) | (with_reducible exact z6.c2) | (with_reducible exact z7.c2) | (with_reducible exact z8.c2) | go_keep)
        (first
          | (go_at_call 86
             (with_reducible refine (small_any 1 _ (by omega) (by omega)).mono ?_)
             rintro e w3 ⟨A5, n5, c5, rfl, g5, b5⟩
             have hn5 : n5 ≤ 2 := by rw [← g5.len]; exact len_two (by decide)
             have z7 := z6.below b5.bel
             have k7 := k6.below b5.bel
             have y7 := bthen y6 b5.bel)
          | (go_at_call 85
             (with_reducible refine (compare_eq _ _ _ _ _ _ _ _ _ k7.den g5 (by omega) (by omega) HD1.out).mono ?_)
             rintro e w4 ⟨rfl, kk, rfl⟩
             have z8 := z7.below (below_drewN (Below.refl _ _) kk)
             have k8 := k7.below (below_drewN (Below.refl _ _) kk)
             have y8 := below_drewN y7 kk))
      go_wp2_with fail
      go_ret
      refine ⟨?_, y8⟩
      rw [← HE.out, ← HX.out]; rfl
  · have HD1 : Hid (Int.toNat 1 < rd q) := Lib.hid (one_lt hd)
    have HF : Hid (∀ S3, S3 = bs (Lib.decDigits (rd q)) → S2 ++ (⟨#[47]⟩ ++ S3) = bs (txt q)) := Lib.hid (fun S3 h => by
      rw [HS2.out, h, show (⟨#[47]⟩ : ByteArray) = bs [47] from rfl, bs_add, bs_add]
      unfold txt
      rw [if_neg hd]; rfl)
    cases s3 with
    | true =>
      have HX := Lib.hid (HT1.out rfl)
      clear k3 z4 hsg HT1 HT2
      go_wp2_with fail
      go_region_held3 (fun w' => w'.cell? ⟨w1.heap.size, 2, none⟩ = some (.slice A4 n4 c4))
        (first | (with_reducible exact q2) | (with_reducible exact z6.c2) | (with_reducible exact z7.c2) | (with_reducible exact z8.c2) | go_keep)
        (first
          | (go_at_call 86
             (with_reducible refine (small_any 1 _ (by omega) (by omega)).mono ?_)
             rintro e w3 ⟨A5, n5, c5, rfl, g5, b5⟩
             have hn5 : n5 ≤ 2 := by rw [← g5.len]; exact len_two (by decide)
             have z7 := z6.below b5.bel
             have k7 := k6.below b5.bel
             have y7 := bthen y6 b5.bel)
          | (go_at_call 85
             (with_reducible refine (compare_gt _ _ _ _ _ _ _ _ _ k7.den g5 (by omega) (by omega) HD1.out).mono ?_)
             rintro e w4 ⟨rfl, kk, rfl⟩
             have z8 := z7.below (below_drewN (Below.refl _ _) kk)
             have k8 := k7.below (below_drewN (Below.refl _ _) kk)
             have y8 := below_drewN y7 kk))
      go_wp2_with fail
      refine (text_any A4 n4 c4 _ _ k8.den (by omega) (ht.on y8)).mono ?_
      rintro e w5 ⟨rfl, b5⟩
      have y9 := bthen y8 b5
      obtain ⟨S3, HS3⟩ : ∃ S, Hid (S = bs (Lib.decDigits (rd q))) := ⟨_, rfl⟩
      have hS3 : S3.size ≤ 10000010 := by rw [HS3.out]; exact txt_size (Nat.le_of_eq k8.den.len) (by omega)
      rw [← HS3.out]
      have HE := Lib.hid (HF.out S3 HS3.out)
      have hS0 := hS2
      rw [← HX.out] at hS0
      go_wp2_with fail
      go_ret
      refine ⟨?_, y9⟩
      rw [← HE.out, ← HX.out]; rfl
    | false =>
      have HX := Lib.hid (HT2.out rfl)
      clear k3 z4 hsg HT1 HT2
      go_wp2_with fail
      go_region_held3 (fun w' => w'.cell? ⟨w1.heap.size, 2, none⟩ = some (.slice A4 n4 c4))
        (first | (with_reducible exact q2) | (with_reducible exact z6.c2) | (with_reducible exact z7.c2) | (with_reducible exact z8.c2) | go_keep)
        (first
          | (go_at_call 86
             (with_reducible refine (small_any 1 _ (by omega) (by omega)).mono ?_)
             rintro e w3 ⟨A5, n5, c5, rfl, g5, b5⟩
             have hn5 : n5 ≤ 2 := by rw [← g5.len]; exact len_two (by decide)
             have z7 := z6.below b5.bel
             have k7 := k6.below b5.bel
             have y7 := bthen y6 b5.bel)
          | (go_at_call 85
             (with_reducible refine (compare_gt _ _ _ _ _ _ _ _ _ k7.den g5 (by omega) (by omega) HD1.out).mono ?_)
             rintro e w4 ⟨rfl, kk, rfl⟩
             have z8 := z7.below (below_drewN (Below.refl _ _) kk)
             have k8 := k7.below (below_drewN (Below.refl _ _) kk)
             have y8 := below_drewN y7 kk))
      go_wp2_with fail
      refine (text_any A4 n4 c4 _ _ k8.den (by omega) (ht.on y8)).mono ?_
      rintro e w5 ⟨rfl, b5⟩
      have y9 := bthen y8 b5
      obtain ⟨S3, HS3⟩ : ∃ S, Hid (S = bs (Lib.decDigits (rd q))) := ⟨_, rfl⟩
      have hS3 : S3.size ≤ 10000010 := by rw [HS3.out]; exact txt_size (Nat.le_of_eq k8.den.len) (by omega)
      rw [← HS3.out]
      have HE := Lib.hid (HF.out S3 HS3.out)
      have hS0 := hS2
      rw [← HX.out] at hS0
      go_wp2_with fail
      go_ret
      refine ⟨?_, y9⟩
      rw [← HE.out, ← HX.out]; rfl
end Go.Proofs.YtaahbabdbopphaaDoor
namespace Go.Proofs.YtaahbabdbopphaaDoor
open Go.RowKit Mx
set_option maxRecDepth 100000

/-- What a string without its sign says. -/
def prs1 (nb : Bool) (r : List UInt8) : Rat × Int :=
  if (dpre r).length = 0 then (0, 4)
  else if (dpre r).length = r.length then (mkRat (sg nb (dv (dpre r))) 1, 0)
  else if (dpre (r.drop ((dpre r).length + 1))).length = 0 ∨ (dpre (r.drop ((dpre r).length + 1))).length ≠ (r.drop ((dpre r).length + 1)).length ∨ (r.getD (dpre r).length 0).toNat ≠ 46 ∧ (r.getD (dpre r).length 0).toNat ≠ 47 then (0, 4)
  else if (r.getD (dpre r).length 0).toNat = 46 then
    (mkRat (sg nb (dv (dpre r) * 10 ^ (dpre (r.drop ((dpre r).length + 1))).length + dv (dpre (r.drop ((dpre r).length + 1))))) (10 ^ (dpre (r.drop ((dpre r).length + 1))).length), 0)
  else if dv (dpre (r.drop ((dpre r).length + 1))) = 0 then (0, 3)
  else (mkRat (sg nb (dv (dpre r))) (dv (dpre (r.drop ((dpre r).length + 1)))), 0)
/-- What a string says. -/
def prs (l : List UInt8) : Rat × Int :=
  if 10000 < l.length then (0, 5)
  else if l.head? = some 45 then prs1 true l.tail else prs1 false l
theorem ba_len (s : ByteArray) : s.data.toList.length = s.size := Array.length_toList
theorem ba_drop (s : ByteArray) (k : Nat) : (s.extract k s.size).data.toList = s.data.toList.drop k := by
  rw [ByteArray.data_extract, Array.toList_extract]
  rw [List.extract_eq_take_drop]
  apply List.take_of_length_le
  rw [List.length_drop, ba_len]; exact Nat.le_refl _
theorem dpre_len (l : List UInt8) : (dpre l).length ≤ l.length := by
  have := List.takeWhile_prefix (l := l) isD
  exact this.length_le
theorem ba_getD (s : ByteArray) (k : Nat) (h : k < s.size) : s.data.toList.getD k 0 = s[k]'h := by
  rw [List.getD_eq_getElem?_getD, List.getElem?_eq_getElem (by rw [ba_len]; exact h), Option.getD_some, Array.getElem_toList]; rfl
theorem len_ten_pow (k : Nat) : (dig (10 ^ k)).length ≤ k + 1 := by
  have := len_pow 10 k
  rw [len_dig_ten, Nat.mul_one] at this
  exact this

set_option maxHeartbeats 4000000 in
theorem Parse_pos (R : ByteArray) (w : World) (q : Rat) (err : Int) (hs : R.size ≤ 10000) (hpos : 0 < R.size) (h1 : (R[0]'hpos).toNat ≠ 45) (HP : prs1 false R.data.toList = (q, err)) :
    Calls Tryd.prog 32 #[.string R] w (FrEPost q err w) := by
  have i0 : ((R.size : Nat) : Int) ≤ 10000 := by omega
  have i1 : (0 : Int) < ((R.size : Nat) : Int) := by omega
  have h2 : (((R[0]'hpos).toNat : Int) == 45) = false := beq_eq_false_iff_ne.2 (by omega)
  obtain ⟨u, HU, xx, xb⟩ := boxes1 w (.bool false) (.slice none 0 0) (.slice none 0 0) 24
  have HPX := Lib.hid HP
  clear HP
  go_enter Tryd.func32, Tryd.ntmps32
  go_wp2_with fail
  rw [← HU.out]
  have HP := HPX.out
  clear HPX h2 h1
  refine (read_any R _ (by omega)).mono ?_
  rintro e w1 ⟨A1, n1, c1, rfl, g1, b1⟩
  obtain ⟨d1, hd1⟩ : ∃ d, d = (dpre R.data.toList).length := ⟨_, rfl⟩
  rw [← hd1]
  obtain ⟨a, ha⟩ : ∃ a, a = dv (dpre R.data.toList) := ⟨_, rfl⟩
  rw [← ha] at g1
  have hda := dv_len _ (dpre_all R.data.toList)
  rw [← ha, g1.len, ← hd1] at hda
  have hd1R : d1 ≤ R.size := by rw [hd1, ← ba_len]; exact dpre_len _
  unfold prs1 at HP
  rw [← hd1, ba_len, ← ha] at HP
  have y1 := xx.below b1
  have z1 := bthen xb b1
  clear xb b1
  have HA := Lib.hid ha
  have HD1 := Lib.hid hd1
  clear ha hd1 xx
  by_cases h0 : d1 = 0
  · subst h0
    rw [if_pos rfl] at HP
    obtain ⟨rfl, rfl⟩ : 0 = q ∧ (4 : Int) = err := Prod.mk.inj HP
    clear HP
    have t0 := y1.c0
    have t1 := y1.c1
    have t2 := y1.c2
    have v0 := y1.fz 0
    have v1 := y1.fz 1
    have v2 := y1.fz 2
    have G := Lib.hid (FrEPost.zero 4 (below_put3 z1 (Nat.le_refl _) (.bool false) (.slice none 0 0) (.slice none 0 0)))
    go_wp2_with fail
    exact bodyPost_ret (v := .tuple #[.agg #[.bool false, .slice none 0 0, .slice none 0 0], .int .i64 4]) (by simp [results, Tryd.results32, go_sem, t0, t1, t2]) rfl G.out
  · have h0' : ((d1 : Int) == 0) = false := beq_eq_false_iff_ne.2 (by omega)
    rw [if_neg h0] at HP
    by_cases h1 : d1 = R.size
    · rw [if_pos h1] at HP
      obtain ⟨rfl, rfl⟩ : _ = q ∧ (0 : Int) = err := Prod.mk.inj HP
      clear HP
      have h1' : ((d1 : Int) == (R.size : Int)) = true := beq_iff_eq.2 (by omega)
      have hR1 := Lib.hid h1
      clear h1 h0
      go_wp2_with fail
      refine (small_any 1 _ (by omega) (by omega)).mono ?_
      rintro e w2 ⟨A2, n2, c2, rfl, g2, b2⟩
      rw [show (1 : Int).toNat = 1 from rfl] at g2
      have hn2 : n2 ≤ 2 := by rw [← g2.len]; exact len_two (by decide)
      have y2 := y1.below b2.bel
      have z2 := bthen z1 b2.bel
      have f1 := g1.below b2.bel
      clear z1 y1 g1 b2
      go_wp2_with fail
      refine (reduced_any false A1 A2 n1 n2 c1 c2 _ _ _ f1 g2 (by omega) (by omega) (by decide)).mono ?_
      rintro e wr ⟨A11, n11, c11, A12, n12, c12, rfl, r1, r2, br⟩
      have z1 := y2.below br
      have zy := bthen z2 br
      have LL := Lib.hid (by have := mk_len false a 1 (by decide); rw [f1.len] at this; rw [show (dig 1).length = n2 from g2.len] at this; exact this)
      have hn11 : n11 ≤ 1000000 := by rw [← r1.len]; have := LL.out.1; unfold ln at this; omega
      have hn12 : n12 ≤ 1000000 := by rw [← r2.len]; have := LL.out.2; unfold ld at this; omega
      go_wp2_with fail
      refine (gives_any _ A11 A12 n11 n12 c11 c12 _ _ ⟨rfl, r1, r2⟩ (by omega) (by omega)).mono ?_
      rintro e wg ⟨s13, A13, n13, c13, A14, n14, c14, rfl, g13, o13, o14, b7⟩
      have z2 := z1.below b7
      have G := Lib.hid ((g13.ret o13 o14 (Nat.le_refl _) z1.lt (bthen zy b7)).withErr 0)
      have t0 := z2.c0
      have t1 := z2.c1
      have t2 := z2.c2
      have v0 := z2.fz 0
      have v1 := z2.fz 1
      have v2 := z2.fz 2
      go_wp2_with fail
      exact bodyPost_ret (v := .tuple #[.agg #[.bool s13, .slice A13 n13 c13, .slice A14 n14 c14], .int .i64 0]) (by simp [results, Tryd.results32, go_sem, t0, t1, t2]) rfl G.out
    · rw [if_neg h1] at HP
      have h1' : ((d1 : Int) == (R.size : Int)) = false := beq_eq_false_iff_ne.2 (by omega)
      have hlt : d1 < R.size := by omega
      rw [ba_getD R d1 hlt] at HP
      obtain ⟨T, hT⟩ : ∃ T, T = R.extract (d1 + 1) R.size := ⟨_, rfl⟩
      have HT := Lib.hid hT
      have HTL : Hid (T.data.toList = R.data.toList.drop (d1 + 1)) := Lib.hid (by rw [hT]; exact ba_drop R _)
      have HTS : T.size ≤ 10000 := by rw [← ba_len, HTL.out, List.length_drop, ba_len]; omega
      rw [← HTL.out, ba_len] at HP
      obtain ⟨cc, hcc⟩ : ∃ cc, cc = (R[d1]'hlt).toNat := ⟨_, rfl⟩
      have HCC := Lib.hid hcc
      rw [← hcc] at HP
      have hcc2 : cc ≤ 255 := by rw [hcc]; have := (R[d1]'hlt).toNat_lt; omega
      have HPH := Lib.hid HP
      have isum : IntKind.i64.wrap ((d1 : Int) + 1) = (d1 : Int) + 1 := IntWalk.i64_in _ (by omega)
      have j1 : (0 : Int) ≤ (d1 : Int) := by omega
      have j2 : (d1 : Int) < (R.size : Int) := by omega
      have j3 : (0 : Int) ≤ (d1 : Int) + 1 := by omega
      have j4 : (d1 : Int) + 1 ≤ (R.size : Int) := by omega
      clear HP hcc hT h1 h0
      go_wp2_with fail
      rw [← HT.out, ← HCC.out]
      refine (read_any T _ (by omega)).mono ?_
      rintro e w2 ⟨A2, n2, c2, rfl, g2, b2⟩
      obtain ⟨d2, hd2⟩ : ∃ d, d = (dpre T.data.toList).length := ⟨_, rfl⟩
      rw [← hd2]
      obtain ⟨b, hb⟩ : ∃ b, b = dv (dpre T.data.toList) := ⟨_, rfl⟩
      rw [← hb] at g2
      have hdb := dv_len _ (dpre_all T.data.toList)
      rw [← hb, g2.len, ← hd2] at hdb
      have hd2T : d2 ≤ T.size := by rw [hd2, ← ba_len]; exact dpre_len _
      have HP := HPH.out
      rw [← hd2, ← hb] at HP
      have y2 := y1.below b2
      have z2 := bthen z1 b2
      have f1 := g1.below b2
      clear hd2 hb HPH y1 z1 g1 b2 j1 j2 j3 j4 isum HT HCC HTL h1' h0'
      by_cases e0 : d2 = 0
      · subst e0
        rw [if_pos (Or.inl rfl)] at HP
        obtain ⟨rfl, rfl⟩ : 0 = q ∧ (4 : Int) = err := Prod.mk.inj HP
        clear HP
        have t0 := y2.c0
        have t1 := y2.c1
        have t2 := y2.c2
        have v0 := y2.fz 0
        have v1 := y2.fz 1
        have v2 := y2.fz 2
        have G := Lib.hid (FrEPost.zero 4 (below_put3 z2 (Nat.le_refl _) (.bool false) (.slice none 0 0) (.slice none 0 0)))
        go_wp2_with fail
        exact bodyPost_ret (v := .tuple #[.agg #[.bool false, .slice none 0 0, .slice none 0 0], .int .i64 4]) (by simp [results, Tryd.results32, go_sem, t0, t1, t2]) rfl G.out
      · have e0p : 0 < d2 := by omega
        have e0' : ((d2 : Int) == 0) = false := beq_eq_false_iff_ne.2 (by omega)
        clear e0
        by_cases e1 : d2 = T.size
        · subst e1
          by_cases e2 : cc = 46
          · have HPP := Lib.hid HP
            have HQ : Hid ((mkRat (sg false (a * 10 ^ T.size + b)) (10 ^ T.size), (0 : Int)) = (q, err)) := Lib.hid (by
              rw [← HPP.out, if_neg (by omega), if_pos e2])
            obtain ⟨hq1, hq2⟩ := Prod.mk.inj HQ.out
            subst hq2
            have HQ1 := Lib.hid hq1
            clear hq1 HP HPP HQ
            subst e2
            go_wp2_with fail
            refine (small_any 10 _ (by omega) (by omega)).mono ?_
            rintro e w3 ⟨A3, n3, c3, rfl, g3, b3⟩
            rw [show (10 : Int).toNat = 10 from rfl] at g3
            have hn3 : n3 = 1 := by rw [← g3.len]; exact len_dig_ten
            have y3 := y2.below b3.bel
            have z3 := bthen z2 b3.bel
            have k1 := f1.below b3.bel
            have k2 := g2.below b3.bel
            clear y2 z2 f1 g2 b3
            subst hn3
            go_wp2_with fail
            refine (power_any A3 1 c3 10 T.size _ g3 (by omega) (by omega) (by omega)).mono ?_
            rintro e w4 ⟨A4, n4, c4, rfl, g4, b4⟩
            have HS := Lib.hid (Nat.pow_pos (n := T.size) (show 0 < 10 by decide))
            have hn4 : n4 ≤ 10001 := by rw [← g4.len]; have := len_ten_pow T.size; omega
            obtain ⟨sc, hsc⟩ : ∃ sc, sc = 10 ^ T.size := ⟨_, rfl⟩
            rw [← hsc] at g4 HQ1 HS
            have y4 := y3.below b4
            have z4 := bthen z3 b4
            have m1 := k1.below b4
            have m2 := k2.below b4
            clear y3 z3 k1 k2 b4 g3 hsc
            go_wp2_with fail
            refine (mul_any A1 A4 n1 n4 c1 c4 a sc _ m1 g4 (by omega) (by omega)).mono ?_
            rintro e w5 ⟨A5, n5, c5, rfl, g5, b5⟩
            have hn5 : n5 ≤ 30000 := by rw [← g5.len]; have := len_mul a sc; rw [m1.len, g4.len] at this; omega
            have y5 := y4.below b5.bel
            have z5 := bthen z4 b5.bel
            have p2 := m2.below b5.bel
            have p4 := g4.below b5.bel
            clear y4 z4 m2 g4 b5 m1
            go_wp2_with fail
            refine (add_any A5 A2 n5 n2 c5 c2 _ b _ g5 p2 (by omega) (by omega)).mono ?_
            rintro e w6 ⟨A6, n6, c6, rfl, g6, b6⟩
            have hn6 : n6 ≤ 50000 := by rw [← g6.len]; have := len_add (a * sc) b; rw [g5.len, p2.len] at this; omega
            have y6 := y5.below b6.bel
            have z6 := bthen z5 b6.bel
            have r4 := p4.below b6.bel
            clear y5 z5 p2 p4 b6 g5
            have HNZ : Hid (sc ≠ 0) := Lib.hid (by have := HS.out; omega)
            go_wp2_with fail
            refine (reduced_any false A6 A4 n6 n4 c6 c4 _ _ _ g6 r4 (by omega) (by omega) HNZ.out).mono ?_
            rintro e wr ⟨A11, n11, c11, A12, n12, c12, rfl, r1, r2, br⟩
            have z1 := y6.below br
            have zy := bthen z6 br
            have LL := Lib.hid (by have := mk_len false (a * sc + b) sc HNZ.out; rw [g6.len, r4.len] at this; exact this)
            have hn11 : n11 ≤ 1000000 := by rw [← r1.len]; have := LL.out.1; unfold ln at this; omega
            have hn12 : n12 ≤ 1000000 := by rw [← r2.len]; have := LL.out.2; unfold ld at this; omega
            go_wp2_with fail
            refine (gives_any _ A11 A12 n11 n12 c11 c12 _ _ ⟨rfl, r1, r2⟩ (by omega) (by omega)).mono ?_
            rintro e wg ⟨s13, A13, n13, c13, A14, n14, c14, rfl, g13, o13, o14, b7⟩
            have z2 := z1.below b7
            have G := Lib.hid ((g13.ret o13 o14 (Nat.le_refl _) z1.lt (bthen zy b7)).withErr 0)
            have t0 := z2.c0
            have t1 := z2.c1
            have t2 := z2.c2
            have v0 := z2.fz 0
            have v1 := z2.fz 1
            have v2 := z2.fz 2
            go_wp2_with fail
            exact bodyPost_ret (v := .tuple #[.agg #[.bool s13, .slice A13 n13 c13, .slice A14 n14 c14], .int .i64 0]) (by simp [results, Tryd.results32, go_sem, t0, t1, t2]) rfl (by rw [← HQ1.out]; exact G.out)
          · have e2' : ((cc : Int) == 46) = false := beq_eq_false_iff_ne.2 (by omega)
            by_cases e3 : cc = 47
            · have HPP := Lib.hid HP
              have HQ : Hid ((if b = 0 then ((0 : Rat), (3 : Int)) else (mkRat (sg false a) b, (0 : Int))) = (q, err)) := Lib.hid (by
                have h := HPP.out
                rw [if_neg (by omega), if_neg e2] at h
                exact h)
              clear HP HPP
              by_cases e4 : b = 0
              · have hq := HQ.out
                rw [if_pos e4] at hq
                obtain ⟨rfl, rfl⟩ := Prod.mk.inj hq
                have hn2 : n2 = 0 := by rw [← g2.len]; exact len_dig_zero.2 e4
                clear hq HQ e4 e2
                subst hn2
                subst e3
                have t0 := y2.c0
                have t1 := y2.c1
                have t2 := y2.c2
                have v0 := y2.fz 0
                have v1 := y2.fz 1
                have v2 := y2.fz 2
                have G := Lib.hid (FrEPost.zero 3 (below_put3 z2 (Nat.le_refl _) (.bool false) (.slice none 0 0) (.slice none 0 0)))
                go_wp2_with fail
                exact bodyPost_ret (v := .tuple #[.agg #[.bool false, .slice none 0 0, .slice none 0 0], .int .i64 3]) (by simp [results, Tryd.results32, go_sem, t0, t1, t2]) rfl G.out
              · have hq := HQ.out
                rw [if_neg e4] at hq
                obtain ⟨hq1, hq2⟩ := Prod.mk.inj hq
                subst hq2
                have HQ1 := Lib.hid hq1
                have hn2 : 0 < n2 := by rw [← g2.len]; exact len_dig_pos.2 e4
                have hn2' : ((n2 : Int) == 0) = false := beq_eq_false_iff_ne.2 (by omega)
                have HNZ : Hid (b ≠ 0) := Lib.hid e4
                clear hq1 hq HQ e4 e2
                subst e3
                go_wp2_with fail
                refine (reduced_any false A1 A2 n1 n2 c1 c2 _ _ _ f1 g2 (by omega) (by omega) HNZ.out).mono ?_
                rintro e wr ⟨A11, n11, c11, A12, n12, c12, rfl, r1, r2, br⟩
                have z1 := y2.below br
                have zy := bthen z2 br
                have LL := Lib.hid (by have := mk_len false a b HNZ.out; rw [f1.len, g2.len] at this; exact this)
                have hn11 : n11 ≤ 1000000 := by rw [← r1.len]; have := LL.out.1; unfold ln at this; omega
                have hn12 : n12 ≤ 1000000 := by rw [← r2.len]; have := LL.out.2; unfold ld at this; omega
                go_wp2_with fail
                refine (gives_any _ A11 A12 n11 n12 c11 c12 _ _ ⟨rfl, r1, r2⟩ (by omega) (by omega)).mono ?_
                rintro e wg ⟨s13, A13, n13, c13, A14, n14, c14, rfl, g13, o13, o14, b7⟩
                have z2 := z1.below b7
                have G := Lib.hid ((g13.ret o13 o14 (Nat.le_refl _) z1.lt (bthen zy b7)).withErr 0)
                have t0 := z2.c0
                have t1 := z2.c1
                have t2 := z2.c2
                have v0 := z2.fz 0
                have v1 := z2.fz 1
                have v2 := z2.fz 2
                go_wp2_with fail
                exact bodyPost_ret (v := .tuple #[.agg #[.bool s13, .slice A13 n13 c13, .slice A14 n14 c14], .int .i64 0]) (by simp [results, Tryd.results32, go_sem, t0, t1, t2]) rfl (by rw [← HQ1.out]; exact G.out)
            · have e3' : ((cc : Int) == 47) = false := beq_eq_false_iff_ne.2 (by omega)
              have e2b : ((cc : Int) != 46) = true := bne_iff_ne.2 (by omega)
              have e3b : ((cc : Int) != 47) = true := bne_iff_ne.2 (by omega)
              rw [if_pos (Or.inr (Or.inr ⟨e2, e3⟩))] at HP
              obtain ⟨rfl, rfl⟩ : 0 = q ∧ (4 : Int) = err := Prod.mk.inj HP
              clear HP
              have t0 := y2.c0
              have t1 := y2.c1
              have t2 := y2.c2
              have v0 := y2.fz 0
              have v1 := y2.fz 1
              have v2 := y2.fz 2
              have G := Lib.hid (FrEPost.zero 4 (below_put3 z2 (Nat.le_refl _) (.bool false) (.slice none 0 0) (.slice none 0 0)))
              go_wp2_with fail
              exact bodyPost_ret (v := .tuple #[.agg #[.bool false, .slice none 0 0, .slice none 0 0], .int .i64 4]) (by simp [results, Tryd.results32, go_sem, t0, t1, t2]) rfl G.out
        · have e1p : d2 < T.size := by omega
          have e1' : ((d2 : Int) == (T.size : Int)) = false := beq_eq_false_iff_ne.2 (by omega)
          rw [if_pos (Or.inr (Or.inl e1))] at HP
          obtain ⟨rfl, rfl⟩ : 0 = q ∧ (4 : Int) = err := Prod.mk.inj HP
          clear HP
          have t0 := y2.c0
          have t1 := y2.c1
          have t2 := y2.c2
          have v0 := y2.fz 0
          have v1 := y2.fz 1
          have v2 := y2.fz 2
          have G := Lib.hid (FrEPost.zero 4 (below_put3 z2 (Nat.le_refl _) (.bool false) (.slice none 0 0) (.slice none 0 0)))
          go_wp2_with fail
          exact bodyPost_ret (v := .tuple #[.agg #[.bool false, .slice none 0 0, .slice none 0 0], .int .i64 4]) (by simp [results, Tryd.results32, go_sem, t0, t1, t2]) rfl G.out

set_option maxHeartbeats 4000000 in
theorem Parse_neg (s : ByteArray) (w : World) (q : Rat) (err : Int) (hs : s.size ≤ 10000) (h0 : 0 < s.size) (h1 : (s[0]'h0).toNat = 45) (HP : prs1 true (s.data.toList.drop 1) = (q, err)) :
    Calls Tryd.prog 32 #[.string s] w (FrEPost q err w) := by
  have i0 : ((s.size : Nat) : Int) ≤ 10000 := by omega
  have i1 : (0 : Int) < ((s.size : Nat) : Int) := by omega
  have i2 : (1 : Int) ≤ ((s.size : Nat) : Int) := by omega
  obtain ⟨u, HU, xx, xb⟩ := boxes1 w (.bool false) (.slice none 0 0) (.slice none 0 0) 24
  have HPX := Lib.hid HP
  clear HP
  go_enter Tryd.func32, Tryd.ntmps32
  go_wp2_with fail
  rw [← HU.out]
  have HP := HPX.out
  rw [← ba_drop] at HP
  have hsz : (s.extract 1 s.size).size ≤ 10000 := by rw [← ba_len, ba_drop, List.length_drop, ba_len]; omega
  obtain ⟨R, HR⟩ : ∃ R, R = s.extract 1 s.size := ⟨_, rfl⟩
  rw [← HR] at HP hsz ⊢
  clear HPX h1 h0 hs i0 i1 i2 HR
  refine (read_any R _ (by omega)).mono ?_
  rintro e w1 ⟨A1, n1, c1, rfl, g1, b1⟩
  obtain ⟨d1, hd1⟩ : ∃ d, d = (dpre R.data.toList).length := ⟨_, rfl⟩
  rw [← hd1]
  obtain ⟨a, ha⟩ : ∃ a, a = dv (dpre R.data.toList) := ⟨_, rfl⟩
  rw [← ha] at g1
  have hda := dv_len _ (dpre_all R.data.toList)
  rw [← ha, g1.len, ← hd1] at hda
  have hd1R : d1 ≤ R.size := by rw [hd1, ← ba_len]; exact dpre_len _
  unfold prs1 at HP
  rw [← hd1, ba_len, ← ha] at HP
  have y1 := xx.below b1
  have z1 := bthen xb b1
  clear xb b1
  have HA := Lib.hid ha
  have HD1 := Lib.hid hd1
  clear ha hd1 xx
  by_cases h0 : d1 = 0
  · subst h0
    rw [if_pos rfl] at HP
    obtain ⟨rfl, rfl⟩ : 0 = q ∧ (4 : Int) = err := Prod.mk.inj HP
    clear HP
    have t0 := y1.c0
    have t1 := y1.c1
    have t2 := y1.c2
    have v0 := y1.fz 0
    have v1 := y1.fz 1
    have v2 := y1.fz 2
    have G := Lib.hid (FrEPost.zero 4 (below_put3 z1 (Nat.le_refl _) (.bool false) (.slice none 0 0) (.slice none 0 0)))
    go_wp2_with fail
    exact bodyPost_ret (v := .tuple #[.agg #[.bool false, .slice none 0 0, .slice none 0 0], .int .i64 4]) (by simp [results, Tryd.results32, go_sem, t0, t1, t2]) rfl G.out
  · have h0' : ((d1 : Int) == 0) = false := beq_eq_false_iff_ne.2 (by omega)
    rw [if_neg h0] at HP
    by_cases h1 : d1 = R.size
    · rw [if_pos h1] at HP
      obtain ⟨rfl, rfl⟩ : _ = q ∧ (0 : Int) = err := Prod.mk.inj HP
      clear HP
      have h1' : ((d1 : Int) == (R.size : Int)) = true := beq_iff_eq.2 (by omega)
      have hR1 := Lib.hid h1
      clear h1 h0
      go_wp2_with fail
      refine (small_any 1 _ (by omega) (by omega)).mono ?_
      rintro e w2 ⟨A2, n2, c2, rfl, g2, b2⟩
      rw [show (1 : Int).toNat = 1 from rfl] at g2
      have hn2 : n2 ≤ 2 := by rw [← g2.len]; exact len_two (by decide)
      have y2 := y1.below b2.bel
      have z2 := bthen z1 b2.bel
      have f1 := g1.below b2.bel
      clear z1 y1 g1 b2
      go_wp2_with fail
      refine (reduced_any true A1 A2 n1 n2 c1 c2 _ _ _ f1 g2 (by omega) (by omega) (by decide)).mono ?_
      rintro e wr ⟨A11, n11, c11, A12, n12, c12, rfl, r1, r2, br⟩
      have z1 := y2.below br
      have zy := bthen z2 br
      have LL := Lib.hid (by have := mk_len true a 1 (by decide); rw [f1.len] at this; rw [show (dig 1).length = n2 from g2.len] at this; exact this)
      have hn11 : n11 ≤ 1000000 := by rw [← r1.len]; have := LL.out.1; unfold ln at this; omega
      have hn12 : n12 ≤ 1000000 := by rw [← r2.len]; have := LL.out.2; unfold ld at this; omega
      go_wp2_with fail
      refine (gives_any _ A11 A12 n11 n12 c11 c12 _ _ ⟨rfl, r1, r2⟩ (by omega) (by omega)).mono ?_
      rintro e wg ⟨s13, A13, n13, c13, A14, n14, c14, rfl, g13, o13, o14, b7⟩
      have z2 := z1.below b7
      have G := Lib.hid ((g13.ret o13 o14 (Nat.le_refl _) z1.lt (bthen zy b7)).withErr 0)
      have t0 := z2.c0
      have t1 := z2.c1
      have t2 := z2.c2
      have v0 := z2.fz 0
      have v1 := z2.fz 1
      have v2 := z2.fz 2
      go_wp2_with fail
      exact bodyPost_ret (v := .tuple #[.agg #[.bool s13, .slice A13 n13 c13, .slice A14 n14 c14], .int .i64 0]) (by simp [results, Tryd.results32, go_sem, t0, t1, t2]) rfl G.out
    · rw [if_neg h1] at HP
      have h1' : ((d1 : Int) == (R.size : Int)) = false := beq_eq_false_iff_ne.2 (by omega)
      have hlt : d1 < R.size := by omega
      rw [ba_getD R d1 hlt] at HP
      obtain ⟨T, hT⟩ : ∃ T, T = R.extract (d1 + 1) R.size := ⟨_, rfl⟩
      have HT := Lib.hid hT
      have HTL : Hid (T.data.toList = R.data.toList.drop (d1 + 1)) := Lib.hid (by rw [hT]; exact ba_drop R _)
      have HTS : T.size ≤ 10000 := by rw [← ba_len, HTL.out, List.length_drop, ba_len]; omega
      rw [← HTL.out, ba_len] at HP
      obtain ⟨cc, hcc⟩ : ∃ cc, cc = (R[d1]'hlt).toNat := ⟨_, rfl⟩
      have HCC := Lib.hid hcc
      rw [← hcc] at HP
      have hcc2 : cc ≤ 255 := by rw [hcc]; have := (R[d1]'hlt).toNat_lt; omega
      have HPH := Lib.hid HP
      have isum : IntKind.i64.wrap ((d1 : Int) + 1) = (d1 : Int) + 1 := IntWalk.i64_in _ (by omega)
      have j1 : (0 : Int) ≤ (d1 : Int) := by omega
      have j2 : (d1 : Int) < (R.size : Int) := by omega
      have j3 : (0 : Int) ≤ (d1 : Int) + 1 := by omega
      have j4 : (d1 : Int) + 1 ≤ (R.size : Int) := by omega
      clear HP hcc hT h1 h0
      go_wp2_with fail
      rw [← HT.out, ← HCC.out]
      refine (read_any T _ (by omega)).mono ?_
      rintro e w2 ⟨A2, n2, c2, rfl, g2, b2⟩
      obtain ⟨d2, hd2⟩ : ∃ d, d = (dpre T.data.toList).length := ⟨_, rfl⟩
      rw [← hd2]
      obtain ⟨b, hb⟩ : ∃ b, b = dv (dpre T.data.toList) := ⟨_, rfl⟩
      rw [← hb] at g2
      have hdb := dv_len _ (dpre_all T.data.toList)
      rw [← hb, g2.len, ← hd2] at hdb
      have hd2T : d2 ≤ T.size := by rw [hd2, ← ba_len]; exact dpre_len _
      have HP := HPH.out
      rw [← hd2, ← hb] at HP
      have y2 := y1.below b2
      have z2 := bthen z1 b2
      have f1 := g1.below b2
      clear hd2 hb HPH y1 z1 g1 b2 j1 j2 j3 j4 isum HT HCC HTL h1' h0'
      by_cases e0 : d2 = 0
      · subst e0
        rw [if_pos (Or.inl rfl)] at HP
        obtain ⟨rfl, rfl⟩ : 0 = q ∧ (4 : Int) = err := Prod.mk.inj HP
        clear HP
        have t0 := y2.c0
        have t1 := y2.c1
        have t2 := y2.c2
        have v0 := y2.fz 0
        have v1 := y2.fz 1
        have v2 := y2.fz 2
        have G := Lib.hid (FrEPost.zero 4 (below_put3 z2 (Nat.le_refl _) (.bool false) (.slice none 0 0) (.slice none 0 0)))
        go_wp2_with fail
        exact bodyPost_ret (v := .tuple #[.agg #[.bool false, .slice none 0 0, .slice none 0 0], .int .i64 4]) (by simp [results, Tryd.results32, go_sem, t0, t1, t2]) rfl G.out
      · have e0p : 0 < d2 := by omega
        have e0' : ((d2 : Int) == 0) = false := beq_eq_false_iff_ne.2 (by omega)
        clear e0
        by_cases e1 : d2 = T.size
        · subst e1
          by_cases e2 : cc = 46
          · have HPP := Lib.hid HP
            have HQ : Hid ((mkRat (sg true (a * 10 ^ T.size + b)) (10 ^ T.size), (0 : Int)) = (q, err)) := Lib.hid (by
              rw [← HPP.out, if_neg (by omega), if_pos e2])
            obtain ⟨hq1, hq2⟩ := Prod.mk.inj HQ.out
            subst hq2
            have HQ1 := Lib.hid hq1
            clear hq1 HP HPP HQ
            subst e2
            go_wp2_with fail
            refine (small_any 10 _ (by omega) (by omega)).mono ?_
            rintro e w3 ⟨A3, n3, c3, rfl, g3, b3⟩
            rw [show (10 : Int).toNat = 10 from rfl] at g3
            have hn3 : n3 = 1 := by rw [← g3.len]; exact len_dig_ten
            have y3 := y2.below b3.bel
            have z3 := bthen z2 b3.bel
            have k1 := f1.below b3.bel
            have k2 := g2.below b3.bel
            clear y2 z2 f1 g2 b3
            subst hn3
            go_wp2_with fail
            refine (power_any A3 1 c3 10 T.size _ g3 (by omega) (by omega) (by omega)).mono ?_
            rintro e w4 ⟨A4, n4, c4, rfl, g4, b4⟩
            have HS := Lib.hid (Nat.pow_pos (n := T.size) (show 0 < 10 by decide))
            have hn4 : n4 ≤ 10001 := by rw [← g4.len]; have := len_ten_pow T.size; omega
            obtain ⟨sc, hsc⟩ : ∃ sc, sc = 10 ^ T.size := ⟨_, rfl⟩
            rw [← hsc] at g4 HQ1 HS
            have y4 := y3.below b4
            have z4 := bthen z3 b4
            have m1 := k1.below b4
            have m2 := k2.below b4
            clear y3 z3 k1 k2 b4 g3 hsc
            go_wp2_with fail
            refine (mul_any A1 A4 n1 n4 c1 c4 a sc _ m1 g4 (by omega) (by omega)).mono ?_
            rintro e w5 ⟨A5, n5, c5, rfl, g5, b5⟩
            have hn5 : n5 ≤ 30000 := by rw [← g5.len]; have := len_mul a sc; rw [m1.len, g4.len] at this; omega
            have y5 := y4.below b5.bel
            have z5 := bthen z4 b5.bel
            have p2 := m2.below b5.bel
            have p4 := g4.below b5.bel
            clear y4 z4 m2 g4 b5 m1
            go_wp2_with fail
            refine (add_any A5 A2 n5 n2 c5 c2 _ b _ g5 p2 (by omega) (by omega)).mono ?_
            rintro e w6 ⟨A6, n6, c6, rfl, g6, b6⟩
            have hn6 : n6 ≤ 50000 := by rw [← g6.len]; have := len_add (a * sc) b; rw [g5.len, p2.len] at this; omega
            have y6 := y5.below b6.bel
            have z6 := bthen z5 b6.bel
            have r4 := p4.below b6.bel
            clear y5 z5 p2 p4 b6 g5
            have HNZ : Hid (sc ≠ 0) := Lib.hid (by have := HS.out; omega)
            go_wp2_with fail
            refine (reduced_any true A6 A4 n6 n4 c6 c4 _ _ _ g6 r4 (by omega) (by omega) HNZ.out).mono ?_
            rintro e wr ⟨A11, n11, c11, A12, n12, c12, rfl, r1, r2, br⟩
            have z1 := y6.below br
            have zy := bthen z6 br
            have LL := Lib.hid (by have := mk_len true (a * sc + b) sc HNZ.out; rw [g6.len, r4.len] at this; exact this)
            have hn11 : n11 ≤ 1000000 := by rw [← r1.len]; have := LL.out.1; unfold ln at this; omega
            have hn12 : n12 ≤ 1000000 := by rw [← r2.len]; have := LL.out.2; unfold ld at this; omega
            go_wp2_with fail
            refine (gives_any _ A11 A12 n11 n12 c11 c12 _ _ ⟨rfl, r1, r2⟩ (by omega) (by omega)).mono ?_
            rintro e wg ⟨s13, A13, n13, c13, A14, n14, c14, rfl, g13, o13, o14, b7⟩
            have z2 := z1.below b7
            have G := Lib.hid ((g13.ret o13 o14 (Nat.le_refl _) z1.lt (bthen zy b7)).withErr 0)
            have t0 := z2.c0
            have t1 := z2.c1
            have t2 := z2.c2
            have v0 := z2.fz 0
            have v1 := z2.fz 1
            have v2 := z2.fz 2
            go_wp2_with fail
            exact bodyPost_ret (v := .tuple #[.agg #[.bool s13, .slice A13 n13 c13, .slice A14 n14 c14], .int .i64 0]) (by simp [results, Tryd.results32, go_sem, t0, t1, t2]) rfl (by rw [← HQ1.out]; exact G.out)
          · have e2' : ((cc : Int) == 46) = false := beq_eq_false_iff_ne.2 (by omega)
            by_cases e3 : cc = 47
            · have HPP := Lib.hid HP
              have HQ : Hid ((if b = 0 then ((0 : Rat), (3 : Int)) else (mkRat (sg true a) b, (0 : Int))) = (q, err)) := Lib.hid (by
                have h := HPP.out
                rw [if_neg (by omega), if_neg e2] at h
                exact h)
              clear HP HPP
              by_cases e4 : b = 0
              · have hq := HQ.out
                rw [if_pos e4] at hq
                obtain ⟨rfl, rfl⟩ := Prod.mk.inj hq
                have hn2 : n2 = 0 := by rw [← g2.len]; exact len_dig_zero.2 e4
                clear hq HQ e4 e2
                subst hn2
                subst e3
                have t0 := y2.c0
                have t1 := y2.c1
                have t2 := y2.c2
                have v0 := y2.fz 0
                have v1 := y2.fz 1
                have v2 := y2.fz 2
                have G := Lib.hid (FrEPost.zero 3 (below_put3 z2 (Nat.le_refl _) (.bool false) (.slice none 0 0) (.slice none 0 0)))
                go_wp2_with fail
                exact bodyPost_ret (v := .tuple #[.agg #[.bool false, .slice none 0 0, .slice none 0 0], .int .i64 3]) (by simp [results, Tryd.results32, go_sem, t0, t1, t2]) rfl G.out
              · have hq := HQ.out
                rw [if_neg e4] at hq
                obtain ⟨hq1, hq2⟩ := Prod.mk.inj hq
                subst hq2
                have HQ1 := Lib.hid hq1
                have hn2 : 0 < n2 := by rw [← g2.len]; exact len_dig_pos.2 e4
                have hn2' : ((n2 : Int) == 0) = false := beq_eq_false_iff_ne.2 (by omega)
                have HNZ : Hid (b ≠ 0) := Lib.hid e4
                clear hq1 hq HQ e4 e2
                subst e3
                go_wp2_with fail
                refine (reduced_any true A1 A2 n1 n2 c1 c2 _ _ _ f1 g2 (by omega) (by omega) HNZ.out).mono ?_
                rintro e wr ⟨A11, n11, c11, A12, n12, c12, rfl, r1, r2, br⟩
                have z1 := y2.below br
                have zy := bthen z2 br
                have LL := Lib.hid (by have := mk_len true a b HNZ.out; rw [f1.len, g2.len] at this; exact this)
                have hn11 : n11 ≤ 1000000 := by rw [← r1.len]; have := LL.out.1; unfold ln at this; omega
                have hn12 : n12 ≤ 1000000 := by rw [← r2.len]; have := LL.out.2; unfold ld at this; omega
                go_wp2_with fail
                refine (gives_any _ A11 A12 n11 n12 c11 c12 _ _ ⟨rfl, r1, r2⟩ (by omega) (by omega)).mono ?_
                rintro e wg ⟨s13, A13, n13, c13, A14, n14, c14, rfl, g13, o13, o14, b7⟩
                have z2 := z1.below b7
                have G := Lib.hid ((g13.ret o13 o14 (Nat.le_refl _) z1.lt (bthen zy b7)).withErr 0)
                have t0 := z2.c0
                have t1 := z2.c1
                have t2 := z2.c2
                have v0 := z2.fz 0
                have v1 := z2.fz 1
                have v2 := z2.fz 2
                go_wp2_with fail
                exact bodyPost_ret (v := .tuple #[.agg #[.bool s13, .slice A13 n13 c13, .slice A14 n14 c14], .int .i64 0]) (by simp [results, Tryd.results32, go_sem, t0, t1, t2]) rfl (by rw [← HQ1.out]; exact G.out)
            · have e3' : ((cc : Int) == 47) = false := beq_eq_false_iff_ne.2 (by omega)
              have e2b : ((cc : Int) != 46) = true := bne_iff_ne.2 (by omega)
              have e3b : ((cc : Int) != 47) = true := bne_iff_ne.2 (by omega)
              rw [if_pos (Or.inr (Or.inr ⟨e2, e3⟩))] at HP
              obtain ⟨rfl, rfl⟩ : 0 = q ∧ (4 : Int) = err := Prod.mk.inj HP
              clear HP
              have t0 := y2.c0
              have t1 := y2.c1
              have t2 := y2.c2
              have v0 := y2.fz 0
              have v1 := y2.fz 1
              have v2 := y2.fz 2
              have G := Lib.hid (FrEPost.zero 4 (below_put3 z2 (Nat.le_refl _) (.bool false) (.slice none 0 0) (.slice none 0 0)))
              go_wp2_with fail
              exact bodyPost_ret (v := .tuple #[.agg #[.bool false, .slice none 0 0, .slice none 0 0], .int .i64 4]) (by simp [results, Tryd.results32, go_sem, t0, t1, t2]) rfl G.out
        · have e1p : d2 < T.size := by omega
          have e1' : ((d2 : Int) == (T.size : Int)) = false := beq_eq_false_iff_ne.2 (by omega)
          rw [if_pos (Or.inr (Or.inl e1))] at HP
          obtain ⟨rfl, rfl⟩ : 0 = q ∧ (4 : Int) = err := Prod.mk.inj HP
          clear HP
          have t0 := y2.c0
          have t1 := y2.c1
          have t2 := y2.c2
          have v0 := y2.fz 0
          have v1 := y2.fz 1
          have v2 := y2.fz 2
          have G := Lib.hid (FrEPost.zero 4 (below_put3 z2 (Nat.le_refl _) (.bool false) (.slice none 0 0) (.slice none 0 0)))
          go_wp2_with fail
          exact bodyPost_ret (v := .tuple #[.agg #[.bool false, .slice none 0 0, .slice none 0 0], .int .i64 4]) (by simp [results, Tryd.results32, go_sem, t0, t1, t2]) rfl G.out

set_option maxHeartbeats 1000000 in
theorem Parse_long (s : ByteArray) (w : World) (hs : 10000 < s.size) (hm : s.size ≤ 9223372036854775807) : Calls Tryd.prog 32 #[.string s] w (FrEPost 0 5 w) := by
  have i0 : (10000 : Int) < ((s.size : Nat) : Int) := by omega
  obtain ⟨u, HU, xx, xb⟩ := boxes1 w (.bool false) (.slice none 0 0) (.slice none 0 0) 24
  go_enter Tryd.func32, Tryd.ntmps32
  go_wp2_with fail
  exact bodyPost_ret (v := .tuple #[.agg #[.bool false, .slice none 0 0, .slice none 0 0], .int .i64 5]) (by simp [results, Tryd.results32, go_sem]) rfl (FrEPost.zero 5 (below_alloc (Below.refl _ _) _))
set_option maxHeartbeats 1000000 in
theorem Parse_none (s : ByteArray) (w : World) (hs : s.size = 0) : Calls Tryd.prog 32 #[.string s] w (FrEPost 0 4 w) := by
  have HE : Hid (dpre s.data.toList = []) := Lib.hid (by rw [List.length_eq_zero_iff.1 ((ba_len s).trans hs)]; rfl)
  obtain ⟨u, HU, xx, xb⟩ := boxes1 w (.bool false) (.slice none 0 0) (.slice none 0 0) 24
  go_enter Tryd.func32, Tryd.ntmps32
  go_wp2_with fail
  rw [← HU.out]
  refine (read_any s _ (by omega)).mono ?_
  rintro e w1 ⟨A1, n1, c1, rfl, g1, b1⟩
  rw [HE.out]
  have y1 := xx.below b1
  have z1 := bthen xb b1
  have t0 := y1.c0
  have t1 := y1.c1
  have t2 := y1.c2
  have v0 := y1.fz 0
  have v1 := y1.fz 1
  have v2 := y1.fz 2
  have G := Lib.hid (FrEPost.zero 4 (below_put3 z1 (Nat.le_refl _) (.bool false) (.slice none 0 0) (.slice none 0 0)))
  clear hs
  go_wp2_with fail
  exact bodyPost_ret (v := .tuple #[.agg #[.bool false, .slice none 0 0, .slice none 0 0], .int .i64 4]) (by simp [results, Tryd.results32, go_sem, t0, t1, t2]) rfl G.out
theorem Parse_any (s : ByteArray) (w : World) (hm : s.size ≤ 9223372036854775807) : Calls Tryd.prog 32 #[.string s] w (FrEPost (prs s.data.toList).1 (prs s.data.toList).2 w) := by
  unfold prs
  rw [ba_len]
  by_cases h1 : 10000 < s.size
  · rw [if_pos h1]; exact Parse_long s w h1 hm
  · rw [if_neg h1]
    by_cases h0 : s.size = 0
    · have hn : s.data.toList = [] := List.length_eq_zero_iff.1 ((ba_len s).trans h0)
      rw [hn]
      exact Parse_none s w h0
    · have hp : 0 < s.size := by omega
      obtain ⟨x, l, hl⟩ : ∃ x l, s.data.toList = x :: l := by
        cases hc : s.data.toList with
        | nil => rw [← ba_len, hc] at hp; exact absurd hp (by decide)
        | cons x l => exact ⟨x, l, rfl⟩
      have hx : s[0]'hp = x := by rw [← ba_getD s 0 hp, hl]; rfl
      by_cases h45 : x = 45
      · rw [hl, List.head?_cons, if_pos (by rw [h45]), List.tail_cons]
        exact Parse_neg s w _ _ (by omega) hp (by rw [hx, h45]; rfl) (by rw [hl]; rfl)
      · rw [hl, List.head?_cons, if_neg (by intro e; injection e with e; exact h45 e)]
        exact Parse_pos s w _ _ (by omega) hp (by rw [hx]; intro e; exact h45 (UInt8.toNat_inj.1 e)) (by rw [hl])
end Go.Proofs.YtaahbabdbopphaaDoor
namespace Go.Proofs.YtaahbabdbopphaaDoor
open Go.RowKit Mx
set_option maxRecDepth 100000

/-- The number, rounded, in units of the last place. -/
def rnd (q : Rat) (p : Nat) : Nat := (rn q * 10 ^ p * 2 + rd q) / (rd q * 2)
def dpad (l : List UInt8) (p : Nat) : List UInt8 := List.replicate (p + 1 - l.length) 48 ++ l
def dpoint (l : List UInt8) (p : Nat) : List UInt8 := if p = 0 then l else l.take (l.length - p) ++ 46 :: l.drop (l.length - p)
def dtx (q : Rat) (p : Nat) : List UInt8 := (if rneg q && decide (0 < rnd q p) then [45] else []) ++ dpoint (dpad (Lib.decDigits (rnd q p)) p) p
theorem dpad_len (l : List UInt8) (p : Nat) : p < (dpad l p).length ∧ (dpad l p).length ≤ p + 1 + l.length := by
  unfold dpad; rw [List.length_append, List.length_replicate]; omega
def DecPost (v : ByteArray) (err : Int) (w : World) (e : Ending) (w' : World) : Prop := e = .returned (.tuple #[.string v, .int .i64 err]) ∧ Below w.heap.size w w'

set_option maxHeartbeats 1000000 in
theorem Decimal_err (s1 : Bool) (A1 A2 : Option Addr) (n1 n2 c1 c2 : Nat) (n : Int) (w : World) (h : n < 0 ∨ 1000 < n) :
    Calls Tryd.prog 35 #[.agg #[.bool s1, .slice A1 n1 c1, .slice A2 n2 c2], .int .i64 n] w (DecPost ⟨#[]⟩ 2 w) := by
  rcases h with h | h
  · go_enter Tryd.func35, Tryd.ntmps35
    go_wp2_with fail
    go_ret2
    exact ⟨rfl, below_alloc (Below.refl _ _) _⟩
  · go_enter Tryd.func35, Tryd.ntmps35
    go_wp2_with fail
    go_ret2
    exact ⟨rfl, below_alloc (Below.refl _ _) _⟩

set_option maxHeartbeats 4000000 in
theorem Decimal_yes (s1 : Bool) (A1 A2 : Option Addr) (n1 n2 c1 c2 : Nat) (q : Rat) (p : Nat) (w : World) (h : Rf w s1 A1 n1 c1 A2 n2 c2 q) (l1 : n1 ≤ 100000) (l2 : n2 ≤ 100000) (hp : p ≤ 1000) (ht : Tab w) :
    Calls Tryd.prog 35 #[.agg #[.bool s1, .slice A1 n1 c1, .slice A2 n2 c2], .int .i64 (p : Int)] w (DecPost (bs (dtx q p)) 0 w) := by
  have hlen := h.len
  obtain ⟨u, HU, x1, xb⟩ := boxes1 w (.bool s1) (.slice A1 n1 c1) (.slice A2 n2 c2) 24
  have h := h.below xb
  have q0 := x1.c0
  have q1 := x1.c1
  have q2 := x1.c2
  have HLP := Lib.hid (len_pow 10 p)
  have HD2 : Hid (rd q * 2 ≠ 0) := Lib.hid (by have := rd_pos q; omega)
  have hp0 : (0 : Int) ≤ (p : Int) := by omega
  have hp1 : (p : Int) ≤ 1000 := by omega
  go_enter Tryd.func35, Tryd.ntmps35
  go_wp2_with fail
  rw [← HU.out]
  refine (takes_any s1 A1 A2 n1 n2 c1 c2 q _ h (by omega) (by omega)).mono ?_
  rintro e w1 ⟨s3, A3, n3, c3, A4, n4, c4, rfl, m3, b3⟩
  have hn3 : n3 ≤ 100000 := by have := m3.lens; omega
  have hn4 : n4 ≤ 100001 := by have := m3.lens; omega
  obtain ⟨v, HV, z4, zb⟩ := boxes1 w1 (.bool s3) (.slice A3 n3 c3) (.slice A4 n4 c4) 66
  have yb := below_drew (bthen (bthen xb b3) zb)
  have k3 := (m3.below zb).drew
  have z5 := z4.drew
  have r1 := z4.c1
  have r2 := z4.c2
  clear x1 xb m3 b3 h
  go_wp2_with fail
  rw [← HV.out]
  clear q0 q1 q2
  obtain ⟨sc, hsc⟩ : ∃ sc, sc = 10 ^ p := ⟨_, rfl⟩
  have HSC := Lib.hid hsc
  clear hsc
  go_region_held3 (fun w' => w'.cell? ⟨w1.heap.size, 1, none⟩ = some (.slice A3 n3 c3) ∧ w'.cell? ⟨w1.heap.size, 2, none⟩ = some (.slice A4 n4 c4))
    (first | (with_reducible exact ⟨r1, r2⟩) | (with_reducible exact ⟨z5.c1, z5.c2⟩) | (with_reducible exact ⟨z6.c1, z6.c2⟩) | (with_reducible exact ⟨z7.c1, z7.c2⟩) | (with_reducible exact ⟨z8.c1, z8.c2⟩) | (with_reducible exact ⟨z9.c1, z9.c2⟩) | (with_reducible exact ⟨z10.c1, z10.c2⟩) | (with_reducible exact ⟨z11.c1, z11.c2⟩) | go_keep)
    (first
      | (go_at_call 86
         (with_reducible refine (small_any 10 _ (by omega) (by omega)).mono ?_)
         rintro e w3 ⟨A5, n5, c5, rfl, g5, b5⟩
         rw [show (10 : Int).toNat = 10 from rfl] at g5
         have hn5 : n5 ≤ 1 := by rw [← g5.len]; exact len_small (by decide)
         have z6 := z5.below b5.bel
         have k6 := k3.below b5.bel
         have y6 := bthen yb b5.bel)
      | (go_at_call 73
         (with_reducible refine (power_any A5 n5 c5 10 p _ g5 (by have := Nat.mul_le_mul_left p hn5; omega) (by omega) (by omega)).mono ?_)
         rintro e w4 ⟨A6, n6, c6, rfl, g6, b6⟩
         have hn6 : n6 ≤ 1001 := by rw [← g6.len]; have := HLP.out; rw [len_dig_ten] at this; omega
         rw [← HSC.out] at g6
         have z7 := z6.below b6
         have k7 := k6.below b6
         have y7 := bthen y6 b6)
      | (go_at_call 89
         (with_reducible refine (mul_any A3 A6 n3 n6 c3 c6 _ sc _ k7.num g6 (by omega) (by omega)).mono ?_)
         rintro e w5 ⟨A7, n7, c7, rfl, g7, b7⟩
         have hn7 : n7 ≤ 101001 := by rw [← g7.len]; have := len_mul (rn q) sc; rw [k7.num.len, g6.len] at this; omega
         have z8 := z7.below b7.bel
         have k8 := k7.below b7.bel
         have y8 := bthen y7 b7.bel)
      | (go_at_call 86
         (with_reducible refine (small_any 2 _ (by omega) (by omega)).mono ?_)
         rintro e w6 ⟨A8, n8, c8, rfl, g8, b8⟩
         rw [show (2 : Int).toNat = 2 from rfl] at g8
         have hn8 : n8 ≤ 1 := by rw [← g8.len]; exact len_small (by decide)
         have z9 := z8.below b8.bel
         have k9 := k8.below b8.bel
         have g9 := g7.below b8.bel
         have y9 := bthen y8 b8.bel)
      | (go_at_call 89
         (with_reducible refine (mul_any A7 A8 n7 n8 c7 c8 _ 2 _ g9 g8 (by omega) (by omega)).mono ?_)
         rintro e w7 ⟨A9, n9, c9, rfl, g10, b9⟩
         have hn9 : n9 ≤ 101002 := by rw [← g10.len]; have := len_mul (rn q * sc) 2; rw [g9.len, g8.len] at this; omega
         have z10 := z9.below b9.bel
         have k10 := k9.below b9.bel
         have y10 := bthen y9 b9.bel)
      | (go_at_call 90
         (with_reducible refine (add_any A9 A4 n9 n4 c9 c4 _ _ _ g10 k10.den (by omega) (by omega)).mono ?_)
         rintro e w8 ⟨A10, n10, c10, rfl, g11, b10⟩
         have hn10 : n10 ≤ 300000 := by rw [← g11.len]; have := len_add (rn q * sc * 2) (rd q); rw [g10.len, k10.den.len] at this; omega
         have z11 := z10.below b10.bel
         have k11 := k10.below b10.bel
         have y11 := bthen y10 b10.bel))
  obtain ⟨top, htop⟩ : ∃ top, Hid (top = rn q * sc * 2 + rd q) := ⟨_, rfl⟩
  rw [← htop.out] at g11
  have z12 := z11.drew
  have k12 := k11.drew
  have g12 := g11.drew
  have y12 := below_drew y11
  have r1 := z11.c1
  have r2 := z11.c2
  clear z5 z6 z7 z8 z9 z10 k3 k6 k7 k8 k9 k10 yb y6 y7 y8 y9 y10 g5 g6 g7 g8 g9 g10 b5 b6 b7 b8 b9 b10 z4 zb
  go_wp2_with fail
  go_region_held3 (fun w' => w'.cell? ⟨w1.heap.size, 2, none⟩ = some (.slice A4 n4 c4))
    (first | (with_reducible exact r2) | (with_reducible exact z12.c2) | (with_reducible exact z13.c2) | (with_reducible exact z14.c2) | (with_reducible exact z15.c2) | go_keep)
    (first
      | (go_at_call 86
         (with_reducible refine (small_any 2 _ (by omega) (by omega)).mono ?_)
         rintro e w9 ⟨A11, n11, c11, rfl, g13, b11⟩
         rw [show (2 : Int).toNat = 2 from rfl] at g13
         have hn11 : n11 ≤ 1 := by rw [← g13.len]; exact len_small (by decide)
         have z13 := z12.below b11.bel
         have k13 := k12.below b11.bel
         have gt13 := g12.below b11.bel
         have y13 := bthen y12 b11.bel)
      | (go_at_call 89
         (with_reducible refine (mul_any A4 A11 n4 n11 c4 c11 _ 2 _ k13.den g13 (by omega) (by omega)).mono ?_)
         rintro e w10 ⟨A12, n12, c12, rfl, g14, b12⟩
         have hn12 : n12 ≤ 100002 := by rw [← g14.len]; have := len_mul (rd q) 2; rw [k13.den.len, g13.len] at this; omega
         have z14 := z13.below b12.bel
         have k14 := k13.below b12.bel
         have gt14 := gt13.below b12.bel
         have y14 := bthen y13 b12.bel)
      | (go_at_call 92
         (with_reducible refine (div_any A10 A12 n10 n12 c10 c12 top _ _ gt14 g14 (by omega) (by omega) HD2.out).mono ?_)
         rintro e w11 ⟨A13, n13, c13, A14, n14, c14, rfl, g15, g16, b13⟩
         have hn13 : n13 ≤ 300000 := by rw [← g15.len]; have := len_mono (Nat.div_le_self top (rd q * 2)); rw [gt14.len] at this; omega
         have z15 := z14.below b13
         have k15 := k14.below b13
         have y15 := bthen y14 b13))
  obtain ⟨Q, hQ⟩ : ∃ Q, Hid (Q = top / (rd q * 2)) := ⟨_, rfl⟩
  have HQ : Hid (Q = rnd q p) := Lib.hid (by rw [hQ.out, htop.out, HSC.out]; rfl)
  rw [← hQ.out] at g15
  have q0 := z15.c0
  clear r1 r2 z11 z12 z13 z14 k11 k12 k13 k14 y11 y12 y13 y14 g12 g13 gt13 gt14 g14 g16 b11 b12 b13
  go_wp2_with fail
  refine (text_any A13 n13 c13 Q _ g15 (by omega) (ht.on y15)).mono ?_
  rintro e w12 ⟨rfl, b14⟩
  obtain ⟨S0, HS0⟩ : ∃ S, Hid (S = bs (Lib.decDigits Q)) := ⟨_, rfl⟩
  have hS0 : S0.size ≤ 10000010 := by rw [HS0.out]; exact txt_size (Nat.le_of_eq g15.len) (by omega)
  rw [← HS0.out]
  have z16 := z15.below b14
  have y16 := bthen y15 b14
  have q0 := z16.c0
  have hQ0 : n13 = 0 ↔ Q = 0 := by rw [← g15.len]; exact len_dig_zero
  have HSG := Lib.hid k15.neg
  have HQ0 := Lib.hid hQ0
  clear z15 y15 b14 k15 g15 hQ0
  go_wp2_with fail
  go_loop [10] (fun s => ∃ (S : ByteArray) (j : Nat), s = .string S ∧ S.size ≤ 10001011 ∧ Hid (S = bs (List.replicate j 48 ++ Lib.decDigits Q)) ∧ Hid (j = 0 ∨ j + (Lib.decDigits Q).length ≤ p + 1)) (fun s => p + 1 - (match s with | .string T => T.size | _ => 0))
  case atStart => exact ⟨S0, 0, rfl, by omega, Lib.hid (by rw [HS0.out]; rfl), Lib.hid (Or.inl rfl)⟩
  case round =>
    obtain ⟨S, j, rfl, hS, HS, HJ⟩ := hrel
    have hSz : S.size = j + (Lib.decDigits Q).length := by rw [HS.out, bs_size, List.length_append, List.length_replicate]
    by_cases hle : S.size ≤ p
    · have HN : Hid ((⟨#[48]⟩ : ByteArray) ++ S = bs (List.replicate (j + 1) 48 ++ Lib.decDigits Q)) := Lib.hid (by
        rw [HS.out, show (⟨#[48]⟩ : ByteArray) = bs [48] from rfl, bs_add]; rfl)
      have HJN : Hid (j + 1 = 0 ∨ j + 1 + (Lib.decDigits Q).length ≤ p + 1) := Lib.hid (Or.inr (by omega))
      clear hSz
      go_wp2_with fail
      go_round
      case rel => exact ⟨_, j + 1, rfl, by rw [ByteArray.size_append]; show 1 + S.size ≤ 10001011; omega, HN, HJN⟩
      case measure => simp only [ByteArray.size_append]; show p + 1 - (1 + S.size) < p + 1 - S.size; omega
    · have HD : Hid (S = bs (dpad (Lib.decDigits Q) p)) := Lib.hid (by
        rw [HS.out]; unfold dpad
        have := dec_pos Q
        have e : j = p + 1 - (Lib.decDigits Q).length := by rcases HJ.out with h | h <;> omega
        rw [← e])
      have HSS := Lib.hid hSz
      clear hSz HS HJ
      by_cases hp0' : p = 0
      · have HX : Hid (S = bs (dpoint (dpad (Lib.decDigits (rnd q p)) p) p)) := Lib.hid (by rw [HD.out, HQ.out]; unfold dpoint; rw [if_pos hp0'])
        have hp2 : ¬ ((0 : Int) < (p : Int)) := by omega
        have hle2 : (p : Int) < (S.size : Int) := by omega
        clear HSC hp0' HD
        rcases (show (s3 = true ∧ 0 < n13) ∨ (s3 = true ∧ n13 = 0) ∨ s3 = false from by cases s3 <;> simp <;> omega) with ⟨rfl, hn0⟩ | ⟨rfl, rfl⟩ | rfl
        · have HZ : Hid (⟨#[45]⟩ ++ S = bs (dtx q p)) := Lib.hid (by
            have hh : (rneg q && decide (0 < rnd q p)) = true := by rw [← HSG.out, ← HQ.out, decide_eq_true (by have := HQ0.out; omega)]; rfl
            unfold dtx
            rw [hh, if_pos rfl, HX.out, show (⟨#[45]⟩ : ByteArray) = bs [45] from rfl, bs_add])
          go_wp2_with fail
          go_ret2
          refine ⟨?_, y16⟩
          rw [← HZ.out]; rfl
        · have HZ : Hid (S = bs (dtx q p)) := Lib.hid (by
            have hh : (rneg q && decide (0 < rnd q p)) = false := by rw [← HSG.out, ← HQ.out, decide_eq_false (by have := HQ0.out; omega)]; rfl
            unfold dtx
            rw [hh, if_neg (by decide), HX.out, List.nil_append])
          go_wp2_with fail
          go_ret2
          refine ⟨?_, y16⟩
          rw [← HZ.out]; rfl
        · have HZ : Hid (S = bs (dtx q p)) := Lib.hid (by
            have hh : (rneg q && decide (0 < rnd q p)) = false := by rw [← HSG.out]; rfl
            unfold dtx
            rw [hh, if_neg (by decide), HX.out, List.nil_append])
          go_wp2_with fail
          go_ret2
          refine ⟨?_, y16⟩
          rw [← HZ.out]; rfl
      · have a1 : (0 : Int) < (p : Int) := by omega
        have hle2 : (p : Int) < (S.size : Int) := by omega
        obtain ⟨K, hK⟩ : ∃ K, K = S.size - p := ⟨_, rfl⟩
        have isub : IntKind.i64.wrap ((S.size : Int) - (p : Int)) = (K : Int) := by rw [IntWalk.i64_in _ (by omega)]; omega
        have b1 : (0 : Int) ≤ (K : Int) := by omega
        have b2 : (K : Int) ≤ (S.size : Int) := by omega
        obtain ⟨E1, hE1⟩ : ∃ E, S.extract 0 K = E := ⟨_, rfl⟩
        obtain ⟨E2, hE2⟩ : ∃ E, S.extract K S.size = E := ⟨_, rfl⟩
        have he1 : E1.size ≤ 10001011 := by rw [← hE1, ByteArray.size_extract]; omega
        have he2 : E2.size ≤ 10001011 := by rw [← hE2, ByteArray.size_extract]; omega
        have HX : Hid (E1 ++ ⟨#[46]⟩ ++ E2 = bs (dpoint (dpad (Lib.decDigits (rnd q p)) p) p)) := Lib.hid (by
          rw [← hE1, ← hE2]
          unfold dpoint
          rw [if_neg hp0', ← HQ.out]
          have hs : S.data.toList = dpad (Lib.decDigits Q) p := by rw [HD.out]; simp [bs]
          have hl : (dpad (Lib.decDigits Q) p).length = S.size := by rw [← hs]; exact Array.length_toList
          rw [hl, ← hs, ← hK]
          apply ByteArray.ext
          apply Array.ext'
          simp only [bs, ByteArray.data_append, Array.toList_append, ByteArray.data_extract, Array.toList_extract, List.extract_eq_take_drop]
          rw [List.drop_zero, Nat.sub_zero, List.append_assoc]
          congr 1
          rw [List.cons_append, List.nil_append]
          congr 1
          apply List.take_of_length_le
          rw [List.length_drop, hs, hl]; exact Nat.le_refl _)
        have HK := Lib.hid hK
        clear HSC hp0' HD HSS hK
        go_wp2_with fail
        have f1 : (9223372036854775807 ≤ E1.size) = False := eq_false (by omega)
        have f2 : (9223372036854775807 < E1.size + 1) = False := eq_false (by omega)
        have f3 : (9223372036854775807 < E1.size + 1 + E2.size) = False := eq_false (by omega)
        have f4 : (9223372036854775806 < E1.size) = False := eq_false (by omega)
        go_region_held3 (fun w' => w'.cell? ⟨w1.heap.size, 0, none⟩ = some (.bool s3)) (first | (with_reducible exact q0) | (with_reducible exact z16.drew.c0) | go_keep) (fail)
        have q0 := z16.drew.c0
        have y16 := below_drew y16
        rcases (show (s3 = true ∧ 0 < n13) ∨ (s3 = true ∧ n13 = 0) ∨ s3 = false from by cases s3 <;> simp <;> omega) with ⟨rfl, hn0⟩ | ⟨rfl, rfl⟩ | rfl
        · have HZ : Hid (⟨#[45]⟩ ++ (E1 ++ ⟨#[46]⟩ ++ E2) = bs (dtx q p)) := Lib.hid (by
            have hh : (rneg q && decide (0 < rnd q p)) = true := by rw [← HSG.out, ← HQ.out, decide_eq_true (by have := HQ0.out; omega)]; rfl
            unfold dtx
            rw [hh, if_pos rfl, HX.out, show (⟨#[45]⟩ : ByteArray) = bs [45] from rfl, bs_add])
          go_wp2_with fail
          go_ret2
          refine ⟨?_, y16⟩
          rw [← HZ.out]; rfl
        · have HZ : Hid (E1 ++ ⟨#[46]⟩ ++ E2 = bs (dtx q p)) := Lib.hid (by
            have hh : (rneg q && decide (0 < rnd q p)) = false := by rw [← HSG.out, ← HQ.out, decide_eq_false (by have := HQ0.out; omega)]; rfl
            unfold dtx
            rw [hh, if_neg (by decide), HX.out, List.nil_append])
          go_wp2_with fail
          go_ret2
          refine ⟨?_, y16⟩
          rw [← HZ.out]; rfl
        · have HZ : Hid (E1 ++ ⟨#[46]⟩ ++ E2 = bs (dtx q p)) := Lib.hid (by
            have hh : (rneg q && decide (0 < rnd q p)) = false := by rw [← HSG.out]; rfl
            unfold dtx
            rw [hh, if_neg (by decide), HX.out, List.nil_append])
          go_wp2_with fail
          go_ret2
          refine ⟨?_, y16⟩
          rw [← HZ.out]; rfl
end Go.Proofs.YtaahbabdbopphaaDoor
