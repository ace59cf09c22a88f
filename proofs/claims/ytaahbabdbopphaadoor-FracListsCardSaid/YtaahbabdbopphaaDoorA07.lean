/- FracLists: the walk. -/
import Derived.Test.YtaahbabdbopphaaDoorL1
namespace Go.Proofs.YtaahbabdbopphaaDoor
open Go.RowKit Mx
set_option maxRecDepth 100000

set_option maxHeartbeats 16000000 in
theorem FracLists_any (A : Option Addr) (n c : Nat) (L : List (Nat × Nat × Rat)) (w : World) (hL : LL w A L) (hq : L.length = n) (ht : Tab w) :
    Calls Tryd.prog 7 #[.slice A n c] w (ValPost (.bool true) w) := by
  have HQ := Lib.hid hq
  clear hq
  by_cases h8 : 8 < n
  · go_enter Tryd.func7, Tryd.ntmps7
    go_wp2_with fail
    refine (known_any _ ht).mono ?_
    rintro e w9 ⟨rfl, b9⟩
    go_wp2_with fail
    go_ret
    exact ⟨rfl, b9⟩
  have hn8 : n ≤ 8 := by omega
  clear h8
  go_enter Tryd.func7, Tryd.ntmps7
  go_wp2_with fail
  go_loop [3] (fun i => ∃ k : Nat, k ≤ n ∧ i = .int .i64 k ∧ Hid (∀ i, i < k → (L.getD i (0, 0, 0)).1 ≤ 4 ∧ (L.getD i (0, 0, 0)).2.1 ≤ 4)) (fun i => n - (intOf i).toNat)
  case atStart => exact ⟨0, Nat.zero_le _, rfl, Lib.hid (fun i hi => absurd hi (by omega))⟩
  case round =>
    obtain ⟨k, hk, rfl, HV⟩ := hrel
    by_cases hkn : k < n
    · obtain ⟨ad, sb, A1, d1, A2, d2, rfl, q0, q1, q2, hr⟩ := hL k (by rw [HQ.out]; exact hkn)
      obtain ⟨x, hx⟩ : ∃ x, x = (L.getD k (0, 0, 0)).1 := ⟨_, rfl⟩
      obtain ⟨y, hy⟩ : ∃ y, y = (L.getD k (0, 0, 0)).2.1 := ⟨_, rfl⟩
      rw [← hx] at q1
      rw [← hy] at q2
      have HX := Lib.hid hx
      have HY := Lib.hid hy
      clear hx hy hL hr
      by_cases h1 : x ≤ 4
      · by_cases h2 : y ≤ 4
        · have HV2 : Hid (∀ i, i < k + 1 → (L.getD i (0, 0, 0)).1 ≤ 4 ∧ (L.getD i (0, 0, 0)).2.1 ≤ 4) := Lib.hid (fun i hi => by
            by_cases e : i = k
            · subst e; rw [← HX.out, ← HY.out]; exact ⟨h1, h2⟩
            · exact HV.out i (by omega))
          go_wp2_with fail
          go_round
          case rel => exact ⟨k + 1, by omega, by go_num, HV2⟩
          case measure => simp [intOf]; omega
        · go_wp2_with fail
          refine (known_any _ ht).mono ?_
          rintro e w9 ⟨rfl, b9⟩
          go_wp2_with fail
          go_ret
          exact ⟨rfl, b9⟩
      · go_wp2_with fail
        refine (known_any _ ht).mono ?_
        rintro e w9 ⟨rfl, b9⟩
        go_wp2_with fail
        go_ret
        exact ⟨rfl, b9⟩
    · obtain rfl : k = n := by omega
      have F4 : FL w A 4 (L.map (·.2.2)) := hL.fl (fun i hi => HV.out i (by rw [← HQ.out]; exact hi))
      obtain ⟨qs, hqs⟩ : ∃ qs, qs = L.map (·.2.2) := ⟨_, rfl⟩
      have HN : Hid (qs.length = k) := Lib.hid (by rw [hqs, List.length_map]; exact HQ.out)
      rw [← hqs] at F4
      clear hqs hL HV HQ hkn
      have F1000 := F4.mono (show 4 ≤ 1000 by omega)
      have hn10 : k ≤ 10 := by omega
      have HSL : Hid (ln (qs.foldl (· + ·) 0) ≤ 1000 ∧ ld (qs.foldl (· + ·) 0) ≤ 1000) := Lib.hid (by
        have := sum_lens F4 (by rw [HN.out]; omega) qs.length (Nat.le_refl _)
        rw [List.take_length] at this
        omega)
      have HPL : Hid (ln (qs.foldl (· * ·) 1) ≤ 1000 ∧ ld (qs.foldl (· * ·) 1) ≤ 1000) := Lib.hid (by
        have := prod_lens F4 (by rw [HN.out]; omega) qs.length (Nat.le_refl _)
        rw [List.take_length] at this
        omega)
      obtain ⟨S, hS⟩ : ∃ S, Hid (S = qs.foldl (· + ·) 0) := ⟨_, Lib.hid rfl⟩
      obtain ⟨P, hP⟩ : ∃ P, Hid (P = qs.foldl (· * ·) 1) := ⟨_, Lib.hid rfl⟩
      obtain ⟨bs, hbs⟩ : ∃ b, Hid (b = bst qs k) := ⟨_, Lib.hid rfl⟩
      obtain ⟨ds, hds⟩ : ∃ b, Hid (b = dst qs) := ⟨_, Lib.hid rfl⟩
      rw [← hS.out] at HSL
      rw [← hP.out] at HPL
      have C39 : Hid (∀ w', FL w' A 4 qs → Calls Tryd.prog 39 #[.slice A k c] w' (FrPost S w')) := Lib.hid (fun w' h => by rw [hS.out]; exact Sum_any A k c qs w' (h.mono (by omega)) HN.out hn10)
      have C40 : Hid (∀ w', FL w' A 4 qs → Calls Tryd.prog 40 #[.slice A k c] w' (FrW S w')) := Lib.hid (fun w' h => by rw [hS.out]; exact rSum_any A k c qs w' (h.mono (by omega)) HN.out hn10)
      have C41 : Hid (∀ w', FL w' A 4 qs → Calls Tryd.prog 41 #[.slice A k c] w' (FrPost P w')) := Lib.hid (fun w' h => by rw [hP.out]; exact Product_any A k c qs w' (h.mono (by omega)) HN.out hn10)
      have C42 : Hid (∀ w', FL w' A 4 qs → Calls Tryd.prog 42 #[.slice A k c] w' (FrW P w')) := Lib.hid (fun w' h => by rw [hP.out]; exact rProduct_any A k c qs w' (h.mono (by omega)) HN.out hn10)
      have C43 : Hid (∀ w', FL w' A 4 qs → Calls Tryd.prog 43 #[.slice A k c] w' (ValPost (.int .i64 bs) w')) := Lib.hid (fun w' h => by rw [hbs.out]; exact Best_any A k c qs w' (h.mono (by omega)) HN.out hn10)
      have C44 : Hid (∀ w', FL w' A 4 qs → Calls Tryd.prog 44 #[.slice A k c] w' (ValPost (.int .i64 bs) w')) := Lib.hid (fun w' h => by rw [hbs.out]; exact rBest_any A k c qs w' (h.mono (by omega)) HN.out hn10)
      have C45 : Hid (∀ w', FL w' A 4 qs → Calls Tryd.prog 45 #[.slice A k c] w' (ValPost (.bool ds) w')) := Lib.hid (fun w' h => by rw [hds.out]; exact Distribution_any A k c qs w' (h.mono (by omega)) HN.out hn10)
      have C46 : Hid (∀ w', FL w' A 4 qs → Calls Tryd.prog 46 #[.slice A k c] w' (ValPost (.bool ds) w')) := Lib.hid (fun w' h => by rw [hds.out]; exact rDistribution_any A k c qs w' (h.mono (by omega)) HN.out hn10)
      have xb := Below.refl w.heap.size w
      clear hS hP hbs hds F1000
      go_wp2_with fail
      refine (C39.out _ F4).mono ?_
      rintro e w1 ⟨s1, A1, n1, c1, A2, n2, c2, rfl, f1, _, _, b5⟩
      replace F4 := F4.below b5
      replace xb := bthen xb b5
      have hn1 : n1 ≤ 1000 := by have := f1.lens; have := HSL.out; omega
      have hn2 : n2 ≤ 1000 := by have := f1.lens; have := HSL.out; omega
      go_wp2_with fail
      refine (C40.out _ F4).mono ?_
      rintro e w2 ⟨s2, A3, n3, c3, A4, n4, c4, rfl, f2, b5⟩
      replace F4 := F4.below b5
      replace f1 := f1.below b5
      replace xb := bthen xb b5
      have hn3 : n3 ≤ 1000 := by have := f2.lens; have := HSL.out; omega
      have hn4 : n4 ≤ 1000 := by have := f2.lens; have := HSL.out; omega
      go_wp2_with fail
      refine (SameFr_any s1 s2 A1 A2 A3 A4 n1 n2 n3 n4 c1 c2 c3 c4 _ _ _ f1 f2 (by omega) (by omega) (by omega) (by omega) true (decide_eq_true rfl).symm).mono ?_
      rintro e w3 ⟨rfl, b5⟩
      replace F4 := F4.below b5
      replace xb := bthen xb b5
      clear f1 f2
      go_wp2_with fail
      refine (C41.out _ F4).mono ?_
      rintro e w1 ⟨s1, A1, n1, c1, A2, n2, c2, rfl, f1, _, _, b5⟩
      replace F4 := F4.below b5
      replace xb := bthen xb b5
      have hn1 : n1 ≤ 1000 := by have := f1.lens; have := HPL.out; omega
      have hn2 : n2 ≤ 1000 := by have := f1.lens; have := HPL.out; omega
      go_wp2_with fail
      refine (C42.out _ F4).mono ?_
      rintro e w2 ⟨s2, A3, n3, c3, A4, n4, c4, rfl, f2, b5⟩
      replace F4 := F4.below b5
      replace f1 := f1.below b5
      replace xb := bthen xb b5
      have hn3 : n3 ≤ 1000 := by have := f2.lens; have := HPL.out; omega
      have hn4 : n4 ≤ 1000 := by have := f2.lens; have := HPL.out; omega
      go_wp2_with fail
      refine (SameFr_any s1 s2 A1 A2 A3 A4 n1 n2 n3 n4 c1 c2 c3 c4 _ _ _ f1 f2 (by omega) (by omega) (by omega) (by omega) true (decide_eq_true rfl).symm).mono ?_
      rintro e w3 ⟨rfl, b5⟩
      replace F4 := F4.below b5
      replace xb := bthen xb b5
      clear f1 f2
      go_wp2_with fail
      refine (C43.out _ F4).mono ?_
      rintro e w4 ⟨rfl, b5⟩
      replace F4 := F4.below b5
      replace xb := bthen xb b5
      go_wp2_with fail
      refine (C44.out _ F4).mono ?_
      rintro e w4 ⟨rfl, b5⟩
      replace F4 := F4.below b5
      replace xb := bthen xb b5
      go_wp2_with fail
      refine (C45.out _ F4).mono ?_
      rintro e w4 ⟨rfl, b5⟩
      replace F4 := F4.below b5
      replace xb := bthen xb b5
      go_wp2_with fail
      refine (C46.out _ F4).mono ?_
      rintro e w4 ⟨rfl, b5⟩
      replace F4 := F4.below b5
      replace xb := bthen xb b5
      have htx := ht.on xb
      go_wp2_with fail
      refine (known_any _ htx).mono ?_
      rintro e w9 ⟨rfl, b9⟩
      go_wp2_with fail
      go_ret
      exact ⟨rfl, bthen xb b9⟩
end Go.Proofs.YtaahbabdbopphaaDoor
