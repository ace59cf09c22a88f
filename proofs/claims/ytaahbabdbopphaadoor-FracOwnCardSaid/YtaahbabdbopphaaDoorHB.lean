/- frac.Pow. frac.Floor. -/
import Derived.Test.YtaahbabdbopphaaDoorHA
namespace Go.Proofs.YtaahbabdbopphaaDoor
open Go.RowKit Mx
set_option maxRecDepth 100000

theorem pow_parts (x : Rat) (n : Nat) : rneg (x ^ n) = (rneg x && decide (n % 2 = 1)) ∧ rn (x ^ n) = rn x ^ n ∧ rd (x ^ n) = rd x ^ n := by
  refine ⟨?_, ?_, ?_⟩
  · unfold rneg
    rw [Rat.num_pow]
    by_cases h0 : x.num < 0
    · rw [decide_eq_true h0, Bool.true_and]
      have key : ∀ m : Nat, (m % 2 = 1 → x.num ^ m < 0) ∧ (m % 2 = 0 → 0 < x.num ^ m) := by
        intro m
        induction m with
        | zero => simp
        | succ m ih =>
          rw [Int.pow_succ]
          refine ⟨fun h => ?_, fun h => ?_⟩
          · exact Int.mul_neg_of_pos_of_neg (ih.2 (by omega)) h0
          · exact Int.mul_pos_of_neg_of_neg (ih.1 (by omega)) h0
      by_cases h1 : n % 2 = 1
      · rw [decide_eq_true h1, decide_eq_true ((key n).1 h1)]
      · rw [decide_eq_false h1, decide_eq_false (by have := (key n).2 (by omega); omega)]
    · rw [decide_eq_false h0, Bool.false_and, decide_eq_false]
      have : 0 ≤ x.num ^ n := Int.pow_nonneg (by omega)
      omega
  · unfold rn; rw [Rat.num_pow, Int.natAbs_pow]
  · unfold rd; rw [Rat.den_pow]

set_option maxHeartbeats 2000000 in
theorem Pow_long (s1 : Bool) (A1 A2 : Option Addr) (n1 n2 c1 c2 : Nat) (n : Int) (w : World) (h : n < -4096 ∨ 4096 < n) :
    Calls Tryd.prog 21 #[.agg #[.bool s1, .slice A1 n1 c1, .slice A2 n2 c2], .int .i64 n] w (FrEPost 0 5 w) := by
  obtain ⟨u, HU, x1, x2, xb⟩ := boxes2 w (.bool s1) (.slice A1 n1 c1) (.slice A2 n2 c2) (.bool false) (.slice none 0 0) (.slice none 0 0) 24 24
  have G := FrEPost.zero 5 xb
  rcases h with h | h
  · have g1 : ¬ (4096 < n) := by omega
    go_enter Tryd.func21, Tryd.ntmps21
    go_wp2_with fail
    exact bodyPost_ret (v := .tuple #[.agg #[.bool false, .slice none 0 0, .slice none 0 0], .int .i64 5]) (by simp [results, Tryd.results21, go_sem]) rfl (FrEPost.zero 5 (below_alloc2 _ _ _))
  · go_enter Tryd.func21, Tryd.ntmps21
    go_wp2_with fail
    exact bodyPost_ret (v := .tuple #[.agg #[.bool false, .slice none 0 0, .slice none 0 0], .int .i64 5]) (by simp [results, Tryd.results21, go_sem]) rfl (FrEPost.zero 5 (below_alloc2 _ _ _))


set_option maxHeartbeats 4000000 in
theorem Pow_nat (s1 : Bool) (A1 A2 : Option Addr) (n1 n2 c1 c2 : Nat) (q : Rat) (N : Nat) (w : World) (h : Rf w s1 A1 n1 c1 A2 n2 c2 q) (l1 : n1 ≤ 100000) (l2 : n2 ≤ 100000) (hN : N ≤ 4096) (hK : N * n1 ≤ 1000000) (hK2 : N * (n2 + 1) ≤ 1000000) :
    Calls Tryd.prog 21 #[.agg #[.bool s1, .slice A1 n1 c1, .slice A2 n2 c2], .int .i64 ((N : Int))] w (FrEPost (q ^ N) 0 w) := by
  have hlen := h.len
  have HPP := Lib.hid (pow_parts (q) N)
  obtain ⟨u, HU, x1, x2, xb⟩ := boxes2 w (.bool s1) (.slice A1 n1 c1) (.slice A2 n2 c2) (.bool false) (.slice none 0 0) (.slice none 0 0) 24 24
  have m1 := h.below xb
  have q0 := x1.c0
  have q1 := x1.c1
  have q2 := x1.c2
  have g1 : ¬ (4096 < ((N : Int) : Int)) := by omega
  have g2 : ¬ (((N : Int) : Int) < -4096) := by omega
  clear h
  go_enter Tryd.func21, Tryd.ntmps21
  go_wp2_with fail
  rw [← HU.out]
  refine (takes_any s1 A1 A2 n1 n2 c1 c2 q _ m1 (by omega) (by omega)).mono ?_
  rintro e w1 ⟨s5, A5, n5, c5, A6, n6, c6, rfl, g5, b1⟩
  have hn5 : n5 ≤ n1 := by have := g5.lens; omega
  have hn6 : n6 ≤ n2 + 1 := by have := g5.lens; omega
  obtain ⟨v, HV, z4, zb⟩ := boxes1 w1 (.bool s5) (.slice A5 n5 c5) (.slice A6 n6 c6) 66
  have y2 := (x2.below b1).below zb
  have yb := bthen (bthen xb b1) zb
  have k5 := g5.below zb
  have q0 := z4.c0
  have q1 := z4.c1
  have q2 := z4.c2
  have hw1 : w.heap.size + 1 < w1.heap.size := Nat.lt_of_lt_of_le x2.lt b1.size
  clear x1 x2 xb m1 g5
  go_wp2_with fail
  rw [← HV.out]
  obtain ⟨V, hV2⟩ : ∃ V, V = v := ⟨_, rfl⟩
  rw [← hV2]
  rw [← hV2] at y2 yb k5 q0 q1 q2 z4
  have e2 := y2
  have e4 := z4
  have ek := k5
  have eb := yb
  clear y2 yb k5 z4 hV2
  have hf : ∀ b : Bool, b = (s5 && decide (N % 2 = 1)) → ∀ (W : World) (B1 : Option Addr) (m1 d1 : Nat) (B2 : Option Addr) (m2 d2 : Nat), Sl W B1 m1 d1 (dig (rn (q) ^ N)) → Sl W B2 m2 d2 (dig (rd (q) ^ N)) → Nm W b B1 m1 d1 B2 m2 d2 ((q) ^ N) := fun b hb W B1 m1 d1 B2 m2 d2 p1 p2 =>
    ⟨by rw [HPP.out.1, ← ek.neg]; exact hb, by rw [HPP.out.2.1]; exact p1, by rw [HPP.out.2.2]; exact p2⟩
  have HF := Lib.hid hf
  have q0 := e4.c0
  have q1 := e4.c1
  have q2 := e4.c2
  have z2 := e2.drew
  have z4 := e4.drew
  have zk := ek.drew
  have zb := below_drew eb
  have K1 : N * n5 ≤ 2000000 := Nat.le_trans (Nat.mul_le_mul_left _ hn5) (by omega)
  have K2 : N * n6 ≤ 2000000 := Nat.le_trans (Nat.mul_le_mul_left _ hn6) (by omega)
  have P1 : Hid (∀ W, Sl W A5 n5 c5 (dig (rn (q))) → Calls Tryd.prog 73 #[.slice A5 n5 c5, .int .i64 (N : Int)] W (RdPost (rn (q) ^ N) W)) := Lib.hid (fun W hW => power_any _ _ _ _ N W hW (by omega) (by omega) (by omega))
  have P2 : Hid (∀ W, Sl W A6 n6 c6 (dig (rd (q))) → Calls Tryd.prog 73 #[.slice A6 n6 c6, .int .i64 (N : Int)] W (RdPost (rd (q) ^ N) W)) := Lib.hid (fun W hW => power_any _ _ _ _ N W hW (by omega) (by omega) (by omega))
  have HK1 := Lib.hid K1
  have HK2 := Lib.hid K2
  clear hf K1 K2
  go_wp2_with fail
  cases s5 with
  | false =>
    refine wp_region_held_drew (S := fun w' => w'.cell? ⟨w1.heap.size, 0, none⟩ = some (.bool false) ∧ w'.cell? ⟨w1.heap.size, 1, none⟩ = some (.slice A5 n5 c5) ∧ w'.cell? ⟨w1.heap.size, 2, none⟩ = some (.slice A6 n6 c6)) (by rfl) ⟨z4.c0, z4.c1, z4.c2⟩ (fun hS0 => ?_)
    refine wpAnyH_take (i := 0) (v := ?_) rfl (by kernel_rfl) (by kernel_rfl) (by kernel_rfl) (fun _ _ _ h => h) (Or.inl ⟨by rfl, ?_⟩) (by assumption) ?_
    rotate_left
    focus (intro w hSw; (try dsimp only at hSw); go_simp; try with_reducible rfl)
    ((try simp only [Act.put]); (try simp only [List.setIfInBounds_toArray]))
    refine wpAnyH_take (i := 1) (v := ?_) rfl (by kernel_rfl) (by kernel_rfl) (by kernel_rfl) (fun _ _ _ h => h) (Or.inl ⟨by rfl, ?_⟩) (by assumption) ?_
    rotate_left
    focus (intro w hSw; (try dsimp only at hSw); go_simp; try with_reducible rfl)
    ((try simp only [Act.put]); (try simp only [List.setIfInBounds_toArray]))
    refine wpAnyH_take (i := 2) (v := ?_) rfl (by kernel_rfl) (by kernel_rfl) (by kernel_rfl) (fun _ _ _ h => h) (Or.inl ⟨by rfl, ?_⟩) (by assumption) ?_
    rotate_left
    focus (intro w hSw; (try dsimp only at hSw); go_simp; try with_reducible rfl)
    ((try simp only [Act.put]); (try simp only [List.setIfInBounds_toArray]))
    refine wpAnyH_take (i := 3) (v := undef) rfl (by kernel_rfl) (by kernel_rfl) (by kernel_rfl) (fun _ _ _ h => h) (Or.inr ⟨by rfl, rfl⟩) (by assumption) ?_
    ((try simp only [Act.put]); (try simp only [List.setIfInBounds_toArray]))
    refine wpAnyH_take (i := 4) (v := undef) rfl (by kernel_rfl) (by kernel_rfl) (by kernel_rfl) (fun _ _ _ h => h) (Or.inr ⟨by rfl, rfl⟩) (by assumption) ?_
    ((try simp only [Act.put]); (try simp only [List.setIfInBounds_toArray]))
    refine wpAnyH_take (i := 5) (v := undef) rfl (by kernel_rfl) (by kernel_rfl) (by kernel_rfl) (fun _ _ _ h => h) (Or.inr ⟨by rfl, rfl⟩) (by assumption) ?_
    ((try simp only [Act.put]); (try simp only [List.setIfInBounds_toArray]))
    refine wpAnyH_take (i := 6) (v := ?_) rfl (by kernel_rfl) (by kernel_rfl) (by kernel_rfl) (fun _ _ _ h => h) (Or.inl ⟨by rfl, ?_⟩) (by assumption) ?_
    rotate_left
    focus (intro w hSw; (try dsimp only at hSw); go_simp; try with_reducible rfl)
    ((try simp only [Act.put]); (try simp only [List.setIfInBounds_toArray]))
    refine wpAnyH_take (i := 7) (v := ?_) rfl (by kernel_rfl) (by kernel_rfl) (by kernel_rfl) (fun _ _ _ h => h) (Or.inl ⟨by rfl, ?_⟩) (by assumption) ?_
    rotate_left
    focus (intro w hSw; (try dsimp only at hSw); go_simp; try with_reducible rfl)
    ((try simp only [Act.put]); (try simp only [List.setIfInBounds_toArray]))
    refine wpAnyH_take (i := 8) (v := ?_) rfl (by kernel_rfl) (by kernel_rfl) (by kernel_rfl) (fun _ _ _ h => h) (Or.inl ⟨by rfl, ?_⟩) (by assumption) ?_
    rotate_left
    focus (intro w hSw; (try dsimp only at hSw); go_simp; try with_reducible rfl)
    ((try simp only [Act.put]); (try simp only [List.setIfInBounds_toArray]))
    refine wpAnyH_take (i := 9) (v := ?_) rfl (by kernel_rfl) (by kernel_rfl) (by kernel_rfl) (fun _ _ _ h => h) (Or.inl ⟨by rfl, ?_⟩) (by assumption) ?_
    rotate_left
    focus (intro w hSw; (try dsimp only at hSw); go_simp; try with_reducible rfl)
    ((try simp only [Act.put]); (try simp only [List.setIfInBounds_toArray]))
    refine wpAnyH_take (i := 11) (v := ?_) rfl (by kernel_rfl) (by kernel_rfl) (by kernel_rfl) (fun _ _ _ h => h) (Or.inl ⟨by rfl, ?_⟩) (by assumption) ?_
    rotate_left
    focus (intro w hSw; (try dsimp only at hSw); go_simp; try with_reducible rfl)
    ((try simp only [Act.put]); (try simp only [List.setIfInBounds_toArray]))
    refine wpAnyH_take (i := 12) (v := ?_) rfl (by kernel_rfl) (by kernel_rfl) (by kernel_rfl) (fun _ _ _ h => h) (Or.inl ⟨by rfl, ?_⟩) (by assumption) ?_
    rotate_left
    focus (intro w hSw; (try dsimp only at hSw); go_simp; try with_reducible rfl)
    ((try simp only [Act.put]); (try simp only [List.setIfInBounds_toArray]))
    refine wpAnyH_take (i := 13) (v := ?_) rfl (by kernel_rfl) (by kernel_rfl) (by kernel_rfl) (fun _ _ _ h => h) (Or.inl ⟨by rfl, ?_⟩) (by assumption) ?_
    rotate_left
    focus (intro w hSw; (try dsimp only at hSw); go_simp; try with_reducible rfl)
    ((try simp only [Act.put]); (try simp only [List.setIfInBounds_toArray]))
    refine wpAnyH_ready (rs := [10]) (by kernel_rfl) (by simp) ?_
    refine AllReadyH.cons rfl ?_ AllReadyH.nil
    intro K hKK
    go_simp
    go_at_call 73
    (with_reducible refine (P1.out _ zk.num).mono ?_)
    rintro e w5 ⟨A9, n9, c9, rfl, h9, b5⟩
    have hn9 : n9 ≤ 2000001 := by rw [← h9.len]; have := len_pow (rn (q)) N; rw [zk.num.len] at this; have := HK1.out; omega
    have i2 := z2.below b5
    have i4 := z4.below b5
    have ik := zk.den.below b5
    have ib := bthen zb b5
    refine hKK.out _ _ ⟨i4.c0, i4.c1, i4.c2⟩ (fun hS1 => ?_)
    clear hKK K
    ((try simp only [Act.put]); (try simp only [List.setIfInBounds_toArray]))
    refine wpAnyH_ready (rs := [14]) (by kernel_rfl) (by simp) ?_
    refine AllReadyH.cons rfl ?_ AllReadyH.nil
    intro K hKK
    go_simp
    go_at_call 73
    (with_reducible refine (P2.out _ ik).mono ?_)
    rintro e w6 ⟨A10, n10, c10, rfl, h10, b6⟩
    have hn10 : n10 ≤ 2000001 := by rw [← h10.len]; have := len_pow (rd (q)) N; rw [ik.len] at this; have := HK2.out; omega
    have j2 := i2.below b6
    have j4 := i4.below b6
    have j9 := h9.below b6
    have jb := bthen ib b6
    have jn := HF.out false rfl _ _ _ _ _ _ _ j9 h10
    refine hKK.out _ _ ⟨j4.c0, j4.c1, j4.c2⟩ (fun hS2 => ?_)
    clear hKK K
    ((try simp only [Act.put]); (try simp only [List.setIfInBounds_toArray]))
    refine wpAnyH_take (i := 15) (v := ?_) rfl (by kernel_rfl) (by kernel_rfl) (by kernel_rfl) (fun _ _ _ h => h) (Or.inl ⟨by rfl, ?_⟩) (by assumption) ?_
    rotate_left
    focus (intro w hSw; (try dsimp only at hSw); go_simp; try with_reducible rfl)
    ((try simp only [Act.put]); (try simp only [List.setIfInBounds_toArray]))
    refine wpAnyH_ready (rs := [16]) (by kernel_rfl) (by simp) ?_
    refine AllReadyH.cons rfl ?_ AllReadyH.nil
    intro K hKK
    go_simp
    go_at_call 74
    (with_reducible refine (gives_any _ _ _ _ _ _ _ _ _ jn (by omega) (by omega)).mono ?_)
    rintro e w7 ⟨s13, A13, n13, c13, A14, n14, c14, rfl, g13, o13, o14, b7⟩
    have k2 := j2.below b7
    have k4 := j4.below b7
    have kb := bthen jb b7
    have G := Lib.hid ((g13.ret o13 o14 (by omega) j2.lt kb).withErr 0)
    have p4 := k4.put (g' := w.heap.size + 1) (by omega) (.bool s13) (.slice A13 n13 c13) (.slice A14 n14 c14)
    have KF := And.intro p4.c0 (And.intro p4.c1 p4.c2)
    unfold put3 at KF
    have t0 := k2.c0
    have t1 := k2.c1
    have t2 := k2.c2
    have v0 := k2.fz 0
    have v1 := k2.fz 1
    have v2 := k2.fz 2
    refine hKK.out _ _ ⟨k4.c0, k4.c1, k4.c2⟩ (fun hS3 => ?_)
    clear hKK K
    ((try simp only [Act.put]); (try simp only [List.setIfInBounds_toArray]))
    refine wpAnyH_ready (rs := [17]) (by kernel_rfl) (by simp) ?_
    refine AllReadyH.cons rfl ?_ AllReadyH.nil
    intro K hKK
    go_simp
    refine hKK.out _ _ KF (fun hS4 => ?_)
    clear hKK K
    ((try simp only [Act.put]); (try simp only [List.setIfInBounds_toArray]))
    refine wpAnyH_take (i := 18) (oi := { dst := some 5, op := Op.assign (Operand.const (Value.int IntKind.i64 0)), type := 26, pos := "frac.go:180", after := #[{ on := 17, ground := Ground.chain }, { on := 0, ground := Ground.phase }, { on := 1, ground := Ground.phase }, { on := 2, ground := Ground.phase }, { on := 3, ground := Ground.phase }, { on := 4, ground := Ground.phase }, { on := 5, ground := Ground.phase }, { on := 6, ground := Ground.phase }, { on := 7, ground := Ground.phase }, { on := 8, ground := Ground.phase }, { on := 9, ground := Ground.phase }, { on := 10, ground := Ground.phase }, { on := 11, ground := Ground.phase }, { on := 12, ground := Ground.phase }, { on := 13, ground := Ground.phase }, { on := 14, ground := Ground.phase }, { on := 15, ground := Ground.phase }, { on := 16, ground := Ground.phase }, { on := 17, ground := Ground.phase }], guard := none }) (v := ?_) rfl (by kernel_rfl) (by kernel_rfl) (by kernel_rfl) (fun _ _ _ h => h) (Or.inl ⟨by rfl, ?_⟩) (by assumption) ?_
    rotate_left
    focus (intro w hSw; (try dsimp only at hSw); go_simp; try with_reducible rfl)
    ((try simp only [Act.put]); (try simp only [List.setIfInBounds_toArray]))
    refine wpAnyH_done (by kernel_rfl) ?_ _
    go_wp2_with fail
    exact bodyPost_ret (v := .tuple #[.agg #[.bool s13, .slice A13 n13 c13, .slice A14 n14 c14], .int .i64 0]) (by simp [results, Tryd.results21, go_sem, t0, t1, t2]) rfl G.out
  | true =>
    by_cases hodd : N % 2 = 1
    · have htm : ((N : Int).tmod 2) = 1 := by rw [Int.tmod_eq_emod_of_nonneg (by omega)]; omega
      refine wp_region_held_drew (S := fun w' => w'.cell? ⟨w1.heap.size, 0, none⟩ = some (.bool true) ∧ w'.cell? ⟨w1.heap.size, 1, none⟩ = some (.slice A5 n5 c5) ∧ w'.cell? ⟨w1.heap.size, 2, none⟩ = some (.slice A6 n6 c6)) (by rfl) ⟨z4.c0, z4.c1, z4.c2⟩ (fun hS0 => ?_)
      refine wpAnyH_take (i := 0) (v := ?_) rfl (by kernel_rfl) (by kernel_rfl) (by kernel_rfl) (fun _ _ _ h => h) (Or.inl ⟨by rfl, ?_⟩) (by assumption) ?_
      rotate_left
      focus (intro w hSw; (try dsimp only at hSw); go_simp; try with_reducible rfl)
      ((try simp only [Act.put]); (try simp only [List.setIfInBounds_toArray]))
      refine wpAnyH_take (i := 1) (v := ?_) rfl (by kernel_rfl) (by kernel_rfl) (by kernel_rfl) (fun _ _ _ h => h) (Or.inl ⟨by rfl, ?_⟩) (by assumption) ?_
      rotate_left
      focus (intro w hSw; (try dsimp only at hSw); go_simp; try with_reducible rfl)
      ((try simp only [Act.put]); (try simp only [List.setIfInBounds_toArray]))
      refine wpAnyH_take (i := 2) (v := ?_) rfl (by kernel_rfl) (by kernel_rfl) (by kernel_rfl) (fun _ _ _ h => h) (Or.inl ⟨by rfl, ?_⟩) (by assumption) ?_
      rotate_left
      focus (intro w hSw; (try dsimp only at hSw); go_simp; try with_reducible rfl)
      ((try simp only [Act.put]); (try simp only [List.setIfInBounds_toArray]))
      refine wpAnyH_take (i := 3) (v := ?_) rfl (by kernel_rfl) (by kernel_rfl) (by kernel_rfl) (fun _ _ _ h => h) (Or.inl ⟨by rfl, ?_⟩) (by assumption) ?_
      rotate_left
      focus (intro w hSw; (try dsimp only at hSw); go_simp; try with_reducible rfl)
      ((try simp only [Act.put]); (try simp only [List.setIfInBounds_toArray]))
      refine wpAnyH_take (i := 4) (v := ?_) rfl (by kernel_rfl) (by kernel_rfl) (by kernel_rfl) (fun _ _ _ h => h) (Or.inl ⟨by rfl, ?_⟩) (by assumption) ?_
      rotate_left
      focus (intro w hSw; (try dsimp only at hSw); go_simp; try with_reducible rfl)
      ((try simp only [Act.put]); (try simp only [List.setIfInBounds_toArray]))
      refine wpAnyH_take (i := 5) (v := ?_) rfl (by kernel_rfl) (by kernel_rfl) (by kernel_rfl) (fun _ _ _ h => h) (Or.inl ⟨by rfl, ?_⟩) (by assumption) ?_
      rotate_left
      focus (intro w hSw; (try dsimp only at hSw); go_simp; try with_reducible rfl)
      ((try simp only [Act.put]); (try simp only [List.setIfInBounds_toArray]))
      refine wpAnyH_take (i := 6) (v := ?_) rfl (by kernel_rfl) (by kernel_rfl) (by kernel_rfl) (fun _ _ _ h => h) (Or.inl ⟨by rfl, ?_⟩) (by assumption) ?_
      rotate_left
      focus (intro w hSw; (try dsimp only at hSw); go_simp; try with_reducible rfl)
      ((try simp only [Act.put]); (try simp only [List.setIfInBounds_toArray]))
      refine wpAnyH_take (i := 7) (v := ?_) rfl (by kernel_rfl) (by kernel_rfl) (by kernel_rfl) (fun _ _ _ h => h) (Or.inl ⟨by rfl, ?_⟩) (by assumption) ?_
      rotate_left
      focus (intro w hSw; (try dsimp only at hSw); go_simp; try with_reducible rfl)
      ((try simp only [Act.put]); (try simp only [List.setIfInBounds_toArray]))
      refine wpAnyH_take (i := 8) (v := ?_) rfl (by kernel_rfl) (by kernel_rfl) (by kernel_rfl) (fun _ _ _ h => h) (Or.inl ⟨by rfl, ?_⟩) (by assumption) ?_
      rotate_left
      focus (intro w hSw; (try dsimp only at hSw); go_simp; try with_reducible rfl)
      ((try simp only [Act.put]); (try simp only [List.setIfInBounds_toArray]))
      refine wpAnyH_take (i := 9) (v := ?_) rfl (by kernel_rfl) (by kernel_rfl) (by kernel_rfl) (fun _ _ _ h => h) (Or.inl ⟨by rfl, ?_⟩) (by assumption) ?_
      rotate_left
      focus (intro w hSw; (try dsimp only at hSw); go_simp; try with_reducible rfl)
      ((try simp only [Act.put]); (try simp only [List.setIfInBounds_toArray]))
      refine wpAnyH_take (i := 11) (v := ?_) rfl (by kernel_rfl) (by kernel_rfl) (by kernel_rfl) (fun _ _ _ h => h) (Or.inl ⟨by rfl, ?_⟩) (by assumption) ?_
      rotate_left
      focus (intro w hSw; (try dsimp only at hSw); go_simp; try with_reducible rfl)
      ((try simp only [Act.put]); (try simp only [List.setIfInBounds_toArray]))
      refine wpAnyH_take (i := 12) (v := ?_) rfl (by kernel_rfl) (by kernel_rfl) (by kernel_rfl) (fun _ _ _ h => h) (Or.inl ⟨by rfl, ?_⟩) (by assumption) ?_
      rotate_left
      focus (intro w hSw; (try dsimp only at hSw); go_simp; try with_reducible rfl)
      ((try simp only [Act.put]); (try simp only [List.setIfInBounds_toArray]))
      refine wpAnyH_take (i := 13) (v := ?_) rfl (by kernel_rfl) (by kernel_rfl) (by kernel_rfl) (fun _ _ _ h => h) (Or.inl ⟨by rfl, ?_⟩) (by assumption) ?_
      rotate_left
      focus (intro w hSw; (try dsimp only at hSw); go_simp; try with_reducible rfl)
      ((try simp only [Act.put]); (try simp only [List.setIfInBounds_toArray]))
      refine wpAnyH_ready (rs := [10]) (by kernel_rfl) (by simp) ?_
      refine AllReadyH.cons rfl ?_ AllReadyH.nil
      intro K hKK
      go_simp
      go_at_call 73
      (with_reducible refine (P1.out _ zk.num).mono ?_)
      rintro e w5 ⟨A9, n9, c9, rfl, h9, b5⟩
      have hn9 : n9 ≤ 2000001 := by rw [← h9.len]; have := len_pow (rn (q)) N; rw [zk.num.len] at this; have := HK1.out; omega
      have i2 := z2.below b5
      have i4 := z4.below b5
      have ik := zk.den.below b5
      have ib := bthen zb b5
      refine hKK.out _ _ ⟨i4.c0, i4.c1, i4.c2⟩ (fun hS1 => ?_)
      clear hKK K
      ((try simp only [Act.put]); (try simp only [List.setIfInBounds_toArray]))
      refine wpAnyH_ready (rs := [14]) (by kernel_rfl) (by simp) ?_
      refine AllReadyH.cons rfl ?_ AllReadyH.nil
      intro K hKK
      go_simp
      go_at_call 73
      (with_reducible refine (P2.out _ ik).mono ?_)
      rintro e w6 ⟨A10, n10, c10, rfl, h10, b6⟩
      have hn10 : n10 ≤ 2000001 := by rw [← h10.len]; have := len_pow (rd (q)) N; rw [ik.len] at this; have := HK2.out; omega
      have j2 := i2.below b6
      have j4 := i4.below b6
      have j9 := h9.below b6
      have jb := bthen ib b6
      have jn := HF.out true (by rw [decide_eq_true hodd]; rfl) _ _ _ _ _ _ _ j9 h10
      refine hKK.out _ _ ⟨j4.c0, j4.c1, j4.c2⟩ (fun hS2 => ?_)
      clear hKK K
      ((try simp only [Act.put]); (try simp only [List.setIfInBounds_toArray]))
      refine wpAnyH_take (i := 15) (v := ?_) rfl (by kernel_rfl) (by kernel_rfl) (by kernel_rfl) (fun _ _ _ h => h) (Or.inl ⟨by rfl, ?_⟩) (by assumption) ?_
      rotate_left
      focus (intro w hSw; (try dsimp only at hSw); go_simp; try with_reducible rfl)
      ((try simp only [Act.put]); (try simp only [List.setIfInBounds_toArray]))
      refine wpAnyH_ready (rs := [16]) (by kernel_rfl) (by simp) ?_
      refine AllReadyH.cons rfl ?_ AllReadyH.nil
      intro K hKK
      go_simp
      go_at_call 74
      (with_reducible refine (gives_any _ _ _ _ _ _ _ _ _ jn (by omega) (by omega)).mono ?_)
      rintro e w7 ⟨s13, A13, n13, c13, A14, n14, c14, rfl, g13, o13, o14, b7⟩
      have k2 := j2.below b7
      have k4 := j4.below b7
      have kb := bthen jb b7
      have G := Lib.hid ((g13.ret o13 o14 (by omega) j2.lt kb).withErr 0)
      have p4 := k4.put (g' := w.heap.size + 1) (by omega) (.bool s13) (.slice A13 n13 c13) (.slice A14 n14 c14)
      have KF := And.intro p4.c0 (And.intro p4.c1 p4.c2)
      unfold put3 at KF
      have t0 := k2.c0
      have t1 := k2.c1
      have t2 := k2.c2
      have v0 := k2.fz 0
      have v1 := k2.fz 1
      have v2 := k2.fz 2
      refine hKK.out _ _ ⟨k4.c0, k4.c1, k4.c2⟩ (fun hS3 => ?_)
      clear hKK K
      ((try simp only [Act.put]); (try simp only [List.setIfInBounds_toArray]))
      refine wpAnyH_ready (rs := [17]) (by kernel_rfl) (by simp) ?_
      refine AllReadyH.cons rfl ?_ AllReadyH.nil
      intro K hKK
      go_simp
      refine hKK.out _ _ KF (fun hS4 => ?_)
      clear hKK K
      ((try simp only [Act.put]); (try simp only [List.setIfInBounds_toArray]))
      refine wpAnyH_take (i := 18) (oi := { dst := some 5, op := Op.assign (Operand.const (Value.int IntKind.i64 0)), type := 26, pos := "frac.go:180", after := #[{ on := 17, ground := Ground.chain }, { on := 0, ground := Ground.phase }, { on := 1, ground := Ground.phase }, { on := 2, ground := Ground.phase }, { on := 3, ground := Ground.phase }, { on := 4, ground := Ground.phase }, { on := 5, ground := Ground.phase }, { on := 6, ground := Ground.phase }, { on := 7, ground := Ground.phase }, { on := 8, ground := Ground.phase }, { on := 9, ground := Ground.phase }, { on := 10, ground := Ground.phase }, { on := 11, ground := Ground.phase }, { on := 12, ground := Ground.phase }, { on := 13, ground := Ground.phase }, { on := 14, ground := Ground.phase }, { on := 15, ground := Ground.phase }, { on := 16, ground := Ground.phase }, { on := 17, ground := Ground.phase }], guard := none }) (v := ?_) rfl (by kernel_rfl) (by kernel_rfl) (by kernel_rfl) (fun _ _ _ h => h) (Or.inl ⟨by rfl, ?_⟩) (by assumption) ?_
      rotate_left
      focus (intro w hSw; (try dsimp only at hSw); go_simp; try with_reducible rfl)
      ((try simp only [Act.put]); (try simp only [List.setIfInBounds_toArray]))
      refine wpAnyH_done (by kernel_rfl) ?_ _
      go_wp2_with fail
      exact bodyPost_ret (v := .tuple #[.agg #[.bool s13, .slice A13 n13 c13, .slice A14 n14 c14], .int .i64 0]) (by simp [results, Tryd.results21, go_sem, t0, t1, t2]) rfl G.out
    · have htm : ((N : Int).tmod 2) = 0 := by rw [Int.tmod_eq_emod_of_nonneg (by omega)]; omega
      refine wp_region_held_drew (S := fun w' => w'.cell? ⟨w1.heap.size, 0, none⟩ = some (.bool true) ∧ w'.cell? ⟨w1.heap.size, 1, none⟩ = some (.slice A5 n5 c5) ∧ w'.cell? ⟨w1.heap.size, 2, none⟩ = some (.slice A6 n6 c6)) (by rfl) ⟨z4.c0, z4.c1, z4.c2⟩ (fun hS0 => ?_)
      refine wpAnyH_take (i := 0) (v := ?_) rfl (by kernel_rfl) (by kernel_rfl) (by kernel_rfl) (fun _ _ _ h => h) (Or.inl ⟨by rfl, ?_⟩) (by assumption) ?_
      rotate_left
      focus (intro w hSw; (try dsimp only at hSw); go_simp; try with_reducible rfl)
      ((try simp only [Act.put]); (try simp only [List.setIfInBounds_toArray]))
      refine wpAnyH_take (i := 1) (v := ?_) rfl (by kernel_rfl) (by kernel_rfl) (by kernel_rfl) (fun _ _ _ h => h) (Or.inl ⟨by rfl, ?_⟩) (by assumption) ?_
      rotate_left
      focus (intro w hSw; (try dsimp only at hSw); go_simp; try with_reducible rfl)
      ((try simp only [Act.put]); (try simp only [List.setIfInBounds_toArray]))
      refine wpAnyH_take (i := 2) (v := ?_) rfl (by kernel_rfl) (by kernel_rfl) (by kernel_rfl) (fun _ _ _ h => h) (Or.inl ⟨by rfl, ?_⟩) (by assumption) ?_
      rotate_left
      focus (intro w hSw; (try dsimp only at hSw); go_simp; try with_reducible rfl)
      ((try simp only [Act.put]); (try simp only [List.setIfInBounds_toArray]))
      refine wpAnyH_take (i := 3) (v := ?_) rfl (by kernel_rfl) (by kernel_rfl) (by kernel_rfl) (fun _ _ _ h => h) (Or.inl ⟨by rfl, ?_⟩) (by assumption) ?_
      rotate_left
      focus (intro w hSw; (try dsimp only at hSw); go_simp; try with_reducible rfl)
      ((try simp only [Act.put]); (try simp only [List.setIfInBounds_toArray]))
      refine wpAnyH_take (i := 4) (v := ?_) rfl (by kernel_rfl) (by kernel_rfl) (by kernel_rfl) (fun _ _ _ h => h) (Or.inl ⟨by rfl, ?_⟩) (by assumption) ?_
      rotate_left
      focus (intro w hSw; (try dsimp only at hSw); go_simp; try with_reducible rfl)
      ((try simp only [Act.put]); (try simp only [List.setIfInBounds_toArray]))
      refine wpAnyH_take (i := 5) (v := ?_) rfl (by kernel_rfl) (by kernel_rfl) (by kernel_rfl) (fun _ _ _ h => h) (Or.inl ⟨by rfl, ?_⟩) (by assumption) ?_
      rotate_left
      focus (intro w hSw; (try dsimp only at hSw); go_simp; try with_reducible rfl)
      ((try simp only [Act.put]); (try simp only [List.setIfInBounds_toArray]))
      refine wpAnyH_take (i := 6) (v := ?_) rfl (by kernel_rfl) (by kernel_rfl) (by kernel_rfl) (fun _ _ _ h => h) (Or.inl ⟨by rfl, ?_⟩) (by assumption) ?_
      rotate_left
      focus (intro w hSw; (try dsimp only at hSw); go_simp; try with_reducible rfl)
      ((try simp only [Act.put]); (try simp only [List.setIfInBounds_toArray]))
      refine wpAnyH_take (i := 7) (v := ?_) rfl (by kernel_rfl) (by kernel_rfl) (by kernel_rfl) (fun _ _ _ h => h) (Or.inl ⟨by rfl, ?_⟩) (by assumption) ?_
      rotate_left
      focus (intro w hSw; (try dsimp only at hSw); go_simp; try with_reducible rfl)
      ((try simp only [Act.put]); (try simp only [List.setIfInBounds_toArray]))
      refine wpAnyH_take (i := 8) (v := ?_) rfl (by kernel_rfl) (by kernel_rfl) (by kernel_rfl) (fun _ _ _ h => h) (Or.inl ⟨by rfl, ?_⟩) (by assumption) ?_
      rotate_left
      focus (intro w hSw; (try dsimp only at hSw); go_simp; try with_reducible rfl)
      ((try simp only [Act.put]); (try simp only [List.setIfInBounds_toArray]))
      refine wpAnyH_take (i := 9) (v := ?_) rfl (by kernel_rfl) (by kernel_rfl) (by kernel_rfl) (fun _ _ _ h => h) (Or.inl ⟨by rfl, ?_⟩) (by assumption) ?_
      rotate_left
      focus (intro w hSw; (try dsimp only at hSw); go_simp; try with_reducible rfl)
      ((try simp only [Act.put]); (try simp only [List.setIfInBounds_toArray]))
      refine wpAnyH_take (i := 11) (v := ?_) rfl (by kernel_rfl) (by kernel_rfl) (by kernel_rfl) (fun _ _ _ h => h) (Or.inl ⟨by rfl, ?_⟩) (by assumption) ?_
      rotate_left
      focus (intro w hSw; (try dsimp only at hSw); go_simp; try with_reducible rfl)
      ((try simp only [Act.put]); (try simp only [List.setIfInBounds_toArray]))
      refine wpAnyH_take (i := 12) (v := ?_) rfl (by kernel_rfl) (by kernel_rfl) (by kernel_rfl) (fun _ _ _ h => h) (Or.inl ⟨by rfl, ?_⟩) (by assumption) ?_
      rotate_left
      focus (intro w hSw; (try dsimp only at hSw); go_simp; try with_reducible rfl)
      ((try simp only [Act.put]); (try simp only [List.setIfInBounds_toArray]))
      refine wpAnyH_take (i := 13) (v := ?_) rfl (by kernel_rfl) (by kernel_rfl) (by kernel_rfl) (fun _ _ _ h => h) (Or.inl ⟨by rfl, ?_⟩) (by assumption) ?_
      rotate_left
      focus (intro w hSw; (try dsimp only at hSw); go_simp; try with_reducible rfl)
      ((try simp only [Act.put]); (try simp only [List.setIfInBounds_toArray]))
      refine wpAnyH_ready (rs := [10]) (by kernel_rfl) (by simp) ?_
      refine AllReadyH.cons rfl ?_ AllReadyH.nil
      intro K hKK
      go_simp
      go_at_call 73
      (with_reducible refine (P1.out _ zk.num).mono ?_)
      rintro e w5 ⟨A9, n9, c9, rfl, h9, b5⟩
      have hn9 : n9 ≤ 2000001 := by rw [← h9.len]; have := len_pow (rn (q)) N; rw [zk.num.len] at this; have := HK1.out; omega
      have i2 := z2.below b5
      have i4 := z4.below b5
      have ik := zk.den.below b5
      have ib := bthen zb b5
      refine hKK.out _ _ ⟨i4.c0, i4.c1, i4.c2⟩ (fun hS1 => ?_)
      clear hKK K
      ((try simp only [Act.put]); (try simp only [List.setIfInBounds_toArray]))
      refine wpAnyH_ready (rs := [14]) (by kernel_rfl) (by simp) ?_
      refine AllReadyH.cons rfl ?_ AllReadyH.nil
      intro K hKK
      go_simp
      go_at_call 73
      (with_reducible refine (P2.out _ ik).mono ?_)
      rintro e w6 ⟨A10, n10, c10, rfl, h10, b6⟩
      have hn10 : n10 ≤ 2000001 := by rw [← h10.len]; have := len_pow (rd (q)) N; rw [ik.len] at this; have := HK2.out; omega
      have j2 := i2.below b6
      have j4 := i4.below b6
      have j9 := h9.below b6
      have jb := bthen ib b6
      have jn := HF.out false (by rw [decide_eq_false hodd]; rfl) _ _ _ _ _ _ _ j9 h10
      refine hKK.out _ _ ⟨j4.c0, j4.c1, j4.c2⟩ (fun hS2 => ?_)
      clear hKK K
      ((try simp only [Act.put]); (try simp only [List.setIfInBounds_toArray]))
      refine wpAnyH_take (i := 15) (v := ?_) rfl (by kernel_rfl) (by kernel_rfl) (by kernel_rfl) (fun _ _ _ h => h) (Or.inl ⟨by rfl, ?_⟩) (by assumption) ?_
      rotate_left
      focus (intro w hSw; (try dsimp only at hSw); go_simp; try with_reducible rfl)
      ((try simp only [Act.put]); (try simp only [List.setIfInBounds_toArray]))
      refine wpAnyH_ready (rs := [16]) (by kernel_rfl) (by simp) ?_
      refine AllReadyH.cons rfl ?_ AllReadyH.nil
      intro K hKK
      go_simp
      go_at_call 74
      (with_reducible refine (gives_any _ _ _ _ _ _ _ _ _ jn (by omega) (by omega)).mono ?_)
      rintro e w7 ⟨s13, A13, n13, c13, A14, n14, c14, rfl, g13, o13, o14, b7⟩
      have k2 := j2.below b7
      have k4 := j4.below b7
      have kb := bthen jb b7
      have G := Lib.hid ((g13.ret o13 o14 (by omega) j2.lt kb).withErr 0)
      have p4 := k4.put (g' := w.heap.size + 1) (by omega) (.bool s13) (.slice A13 n13 c13) (.slice A14 n14 c14)
      have KF := And.intro p4.c0 (And.intro p4.c1 p4.c2)
      unfold put3 at KF
      have t0 := k2.c0
      have t1 := k2.c1
      have t2 := k2.c2
      have v0 := k2.fz 0
      have v1 := k2.fz 1
      have v2 := k2.fz 2
      refine hKK.out _ _ ⟨k4.c0, k4.c1, k4.c2⟩ (fun hS3 => ?_)
      clear hKK K
      ((try simp only [Act.put]); (try simp only [List.setIfInBounds_toArray]))
      refine wpAnyH_ready (rs := [17]) (by kernel_rfl) (by simp) ?_
      refine AllReadyH.cons rfl ?_ AllReadyH.nil
      intro K hKK
      go_simp
      refine hKK.out _ _ KF (fun hS4 => ?_)
      clear hKK K
      ((try simp only [Act.put]); (try simp only [List.setIfInBounds_toArray]))
      refine wpAnyH_take (i := 18) (oi := { dst := some 5, op := Op.assign (Operand.const (Value.int IntKind.i64 0)), type := 26, pos := "frac.go:180", after := #[{ on := 17, ground := Ground.chain }, { on := 0, ground := Ground.phase }, { on := 1, ground := Ground.phase }, { on := 2, ground := Ground.phase }, { on := 3, ground := Ground.phase }, { on := 4, ground := Ground.phase }, { on := 5, ground := Ground.phase }, { on := 6, ground := Ground.phase }, { on := 7, ground := Ground.phase }, { on := 8, ground := Ground.phase }, { on := 9, ground := Ground.phase }, { on := 10, ground := Ground.phase }, { on := 11, ground := Ground.phase }, { on := 12, ground := Ground.phase }, { on := 13, ground := Ground.phase }, { on := 14, ground := Ground.phase }, { on := 15, ground := Ground.phase }, { on := 16, ground := Ground.phase }, { on := 17, ground := Ground.phase }], guard := none }) (v := ?_) rfl (by kernel_rfl) (by kernel_rfl) (by kernel_rfl) (fun _ _ _ h => h) (Or.inl ⟨by rfl, ?_⟩) (by assumption) ?_
      rotate_left
      focus (intro w hSw; (try dsimp only at hSw); go_simp; try with_reducible rfl)
      ((try simp only [Act.put]); (try simp only [List.setIfInBounds_toArray]))
      refine wpAnyH_done (by kernel_rfl) ?_ _
      go_wp2_with fail
      exact bodyPost_ret (v := .tuple #[.agg #[.bool s13, .slice A13 n13 c13, .slice A14 n14 c14], .int .i64 0]) (by simp [results, Tryd.results21, go_sem, t0, t1, t2]) rfl G.out

set_option maxHeartbeats 4000000 in
theorem Pow_inv (s1 : Bool) (A1 A2 : Option Addr) (n1 n2 c1 c2 : Nat) (q : Rat) (N : Nat) (w : World) (h : Rf w s1 A1 n1 c1 A2 n2 c2 q) (l1 : n1 ≤ 100000) (l2 : n2 ≤ 100000) (hN : N ≤ 4096) (hN0 : 0 < N) (hz : rn q ≠ 0) (hK : N * n1 ≤ 1000000) (hK2 : N * (n2 + 1) ≤ 1000000) :
    Calls Tryd.prog 21 #[.agg #[.bool s1, .slice A1 n1 c1, .slice A2 n2 c2], .int .i64 (-(N : Int))] w (FrEPost (q⁻¹ ^ N) 0 w) := by
  have hlen := h.len
  have HPP := Lib.hid (pow_parts (q⁻¹) N)
  have HI := Lib.hid (ln_inv hz)
  obtain ⟨u, HU, x1, x2, xb⟩ := boxes2 w (.bool s1) (.slice A1 n1 c1) (.slice A2 n2 c2) (.bool false) (.slice none 0 0) (.slice none 0 0) 24 24
  have m1 := h.below xb
  have q0 := x1.c0
  have q1 := x1.c1
  have q2 := x1.c2
  have g1 : ¬ (4096 < (-(N : Int) : Int)) := by omega
  have g2 : ¬ ((-(N : Int) : Int) < -4096) := by omega
  clear h
  go_enter Tryd.func21, Tryd.ntmps21
  go_wp2_with fail
  rw [← HU.out]
  refine (takes_any s1 A1 A2 n1 n2 c1 c2 q _ m1 (by omega) (by omega)).mono ?_
  rintro e w1 ⟨s5, A5, n5, c5, A6, n6, c6, rfl, g5, b1⟩
  have hn5 : n5 ≤ n1 := by have := g5.lens; omega
  have hn6 : n6 ≤ n2 + 1 := by have := g5.lens; omega
  obtain ⟨v, HV, z4, zb⟩ := boxes1 w1 (.bool s5) (.slice A5 n5 c5) (.slice A6 n6 c6) 66
  have y2 := (x2.below b1).below zb
  have yb := bthen (bthen xb b1) zb
  have k5 := g5.below zb
  have q0 := z4.c0
  have q1 := z4.c1
  have q2 := z4.c2
  have hw1 : w.heap.size + 1 < w1.heap.size := Nat.lt_of_lt_of_le x2.lt b1.size
  clear x1 x2 xb m1 g5
  go_wp2_with fail
  rw [← HV.out]
  refine (nzero_no s5 A5 A6 n5 n6 c5 c6 q _ k5 hz (by omega)).mono ?_
  rintro e w2 ⟨rfl, b2⟩
  have a2 := y2.below b2
  have a4 := z4.below b2
  have ak := k5.below b2
  have ab := bthen yb b2
  have q0 := a4.c0
  have q1 := a4.c1
  have q2 := a4.c2
  clear y2 z4 k5 yb b2
  go_wp2_with fail
  refine (ninverse_any s5 A5 A6 n5 n6 c5 c6 q _ ak hz).mono ?_
  rintro e w3 ⟨s7, A7, n7, c7, A8, n8, c8, rfl, g7, b3⟩
  have hn7 : n7 ≤ n2 + 1 := by have := g7.lens; have := HI.out; have := ak.lens; omega
  have hn8 : n8 ≤ n1 := by have := g7.lens; have := HI.out; have := ak.lens; omega
  have d2 := a2.below b3
  have d4 := a4.below b3
  obtain ⟨V, HV2⟩ : ∃ V, Hid (V = put3 w3 w1.heap.size (.bool s7) (.slice A7 n7 c7) (.slice A8 n8 c8)) := ⟨_, rfl⟩
  have e2 : Bk V (w.heap.size + 1) (.bool false) (.slice none 0 0) (.slice none 0 0) := by rw [HV2.out]; exact d2.put (by omega) _ _ _
  have e4 : Bk V w1.heap.size (.bool s7) (.slice A7 n7 c7) (.slice A8 n8 c8) := by rw [HV2.out]; exact d4.self _ _ _
  have ek : Nm V s7 A7 n7 c7 A8 n8 c8 (q⁻¹) := by rw [HV2.out]; exact g7.put3 d4 _ _ _
  have eb : Below w.heap.size w V := by rw [HV2.out]; exact below_put3 (bthen ab b3) (by omega) _ _ _
  have t0 := d4.c0
  have t1 := d4.c1
  have t2 := d4.c2
  have v0 := d4.fz 0
  have v1 := d4.fz 1
  have v2 := d4.fz 2
  have HVX := HV2.out
  unfold put3 at HVX
  have HVW := Lib.hid HVX
  clear HVX
  clear a2 a4 ak ab d2 g7 q0 q1 q2 b3
  go_wp2_with fail
  rw [← HVW.out]
  have hf : ∀ b : Bool, b = (s7 && decide (N % 2 = 1)) → ∀ (W : World) (B1 : Option Addr) (m1 d1 : Nat) (B2 : Option Addr) (m2 d2 : Nat), Sl W B1 m1 d1 (dig (rn (q⁻¹) ^ N)) → Sl W B2 m2 d2 (dig (rd (q⁻¹) ^ N)) → Nm W b B1 m1 d1 B2 m2 d2 ((q⁻¹) ^ N) := fun b hb W B1 m1 d1 B2 m2 d2 p1 p2 =>
    ⟨by rw [HPP.out.1, ← ek.neg]; exact hb, by rw [HPP.out.2.1]; exact p1, by rw [HPP.out.2.2]; exact p2⟩
  have HF := Lib.hid hf
  have q0 := e4.c0
  have q1 := e4.c1
  have q2 := e4.c2
  have z2 := e2.drew
  have z4 := e4.drew
  have zk := ek.drew
  have zb := below_drew eb
  have K1 : N * n7 ≤ 2000000 := Nat.le_trans (Nat.mul_le_mul_left _ hn7) (by omega)
  have K2 : N * n8 ≤ 2000000 := Nat.le_trans (Nat.mul_le_mul_left _ hn8) (by omega)
  have P1 : Hid (∀ W, Sl W A7 n7 c7 (dig (rn (q⁻¹))) → Calls Tryd.prog 73 #[.slice A7 n7 c7, .int .i64 (N : Int)] W (RdPost (rn (q⁻¹) ^ N) W)) := Lib.hid (fun W hW => power_any _ _ _ _ N W hW (by omega) (by omega) (by omega))
  have P2 : Hid (∀ W, Sl W A8 n8 c8 (dig (rd (q⁻¹))) → Calls Tryd.prog 73 #[.slice A8 n8 c8, .int .i64 (N : Int)] W (RdPost (rd (q⁻¹) ^ N) W)) := Lib.hid (fun W hW => power_any _ _ _ _ N W hW (by omega) (by omega) (by omega))
  have HK1 := Lib.hid K1
  have HK2 := Lib.hid K2
  clear hf K1 K2
  go_wp2_with fail
  cases s7 with
  | false =>
    refine wp_region_held_drew (S := fun w' => w'.cell? ⟨w1.heap.size, 0, none⟩ = some (.bool false) ∧ w'.cell? ⟨w1.heap.size, 1, none⟩ = some (.slice A7 n7 c7) ∧ w'.cell? ⟨w1.heap.size, 2, none⟩ = some (.slice A8 n8 c8)) (by rfl) ⟨z4.c0, z4.c1, z4.c2⟩ (fun hS0 => ?_)
    refine wpAnyH_take (i := 0) (v := ?_) rfl (by kernel_rfl) (by kernel_rfl) (by kernel_rfl) (fun _ _ _ h => h) (Or.inl ⟨by rfl, ?_⟩) (by assumption) ?_
    rotate_left
    focus (intro w hSw; (try dsimp only at hSw); go_simp; try with_reducible rfl)
    ((try simp only [Act.put]); (try simp only [List.setIfInBounds_toArray]))
    refine wpAnyH_take (i := 1) (v := ?_) rfl (by kernel_rfl) (by kernel_rfl) (by kernel_rfl) (fun _ _ _ h => h) (Or.inl ⟨by rfl, ?_⟩) (by assumption) ?_
    rotate_left
    focus (intro w hSw; (try dsimp only at hSw); go_simp; try with_reducible rfl)
    ((try simp only [Act.put]); (try simp only [List.setIfInBounds_toArray]))
    refine wpAnyH_take (i := 2) (v := ?_) rfl (by kernel_rfl) (by kernel_rfl) (by kernel_rfl) (fun _ _ _ h => h) (Or.inl ⟨by rfl, ?_⟩) (by assumption) ?_
    rotate_left
    focus (intro w hSw; (try dsimp only at hSw); go_simp; try with_reducible rfl)
    ((try simp only [Act.put]); (try simp only [List.setIfInBounds_toArray]))
    refine wpAnyH_take (i := 3) (v := undef) rfl (by kernel_rfl) (by kernel_rfl) (by kernel_rfl) (fun _ _ _ h => h) (Or.inr ⟨by rfl, rfl⟩) (by assumption) ?_
    ((try simp only [Act.put]); (try simp only [List.setIfInBounds_toArray]))
    refine wpAnyH_take (i := 4) (v := undef) rfl (by kernel_rfl) (by kernel_rfl) (by kernel_rfl) (fun _ _ _ h => h) (Or.inr ⟨by rfl, rfl⟩) (by assumption) ?_
    ((try simp only [Act.put]); (try simp only [List.setIfInBounds_toArray]))
    refine wpAnyH_take (i := 5) (v := undef) rfl (by kernel_rfl) (by kernel_rfl) (by kernel_rfl) (fun _ _ _ h => h) (Or.inr ⟨by rfl, rfl⟩) (by assumption) ?_
    ((try simp only [Act.put]); (try simp only [List.setIfInBounds_toArray]))
    refine wpAnyH_take (i := 6) (v := ?_) rfl (by kernel_rfl) (by kernel_rfl) (by kernel_rfl) (fun _ _ _ h => h) (Or.inl ⟨by rfl, ?_⟩) (by assumption) ?_
    rotate_left
    focus (intro w hSw; (try dsimp only at hSw); go_simp; try with_reducible rfl)
    ((try simp only [Act.put]); (try simp only [List.setIfInBounds_toArray]))
    refine wpAnyH_take (i := 7) (v := ?_) rfl (by kernel_rfl) (by kernel_rfl) (by kernel_rfl) (fun _ _ _ h => h) (Or.inl ⟨by rfl, ?_⟩) (by assumption) ?_
    rotate_left
    focus (intro w hSw; (try dsimp only at hSw); go_simp; try with_reducible rfl)
    ((try simp only [Act.put]); (try simp only [List.setIfInBounds_toArray]))
    refine wpAnyH_take (i := 8) (v := ?_) rfl (by kernel_rfl) (by kernel_rfl) (by kernel_rfl) (fun _ _ _ h => h) (Or.inl ⟨by rfl, ?_⟩) (by assumption) ?_
    rotate_left
    focus (intro w hSw; (try dsimp only at hSw); go_simp; try with_reducible rfl)
    ((try simp only [Act.put]); (try simp only [List.setIfInBounds_toArray]))
    refine wpAnyH_take (i := 9) (v := ?_) rfl (by kernel_rfl) (by kernel_rfl) (by kernel_rfl) (fun _ _ _ h => h) (Or.inl ⟨by rfl, ?_⟩) (by assumption) ?_
    rotate_left
    focus (intro w hSw; (try dsimp only at hSw); go_simp; try with_reducible rfl)
    ((try simp only [Act.put]); (try simp only [List.setIfInBounds_toArray]))
    refine wpAnyH_take (i := 11) (v := ?_) rfl (by kernel_rfl) (by kernel_rfl) (by kernel_rfl) (fun _ _ _ h => h) (Or.inl ⟨by rfl, ?_⟩) (by assumption) ?_
    rotate_left
    focus (intro w hSw; (try dsimp only at hSw); go_simp; try with_reducible rfl)
    ((try simp only [Act.put]); (try simp only [List.setIfInBounds_toArray]))
    refine wpAnyH_take (i := 12) (v := ?_) rfl (by kernel_rfl) (by kernel_rfl) (by kernel_rfl) (fun _ _ _ h => h) (Or.inl ⟨by rfl, ?_⟩) (by assumption) ?_
    rotate_left
    focus (intro w hSw; (try dsimp only at hSw); go_simp; try with_reducible rfl)
    ((try simp only [Act.put]); (try simp only [List.setIfInBounds_toArray]))
    refine wpAnyH_take (i := 13) (v := ?_) rfl (by kernel_rfl) (by kernel_rfl) (by kernel_rfl) (fun _ _ _ h => h) (Or.inl ⟨by rfl, ?_⟩) (by assumption) ?_
    rotate_left
    focus (intro w hSw; (try dsimp only at hSw); go_simp; try with_reducible rfl)
    ((try simp only [Act.put]); (try simp only [List.setIfInBounds_toArray]))
    refine wpAnyH_ready (rs := [10]) (by kernel_rfl) (by simp) ?_
    refine AllReadyH.cons rfl ?_ AllReadyH.nil
    intro K hKK
    go_simp
    go_at_call 73
    (with_reducible refine (P1.out _ zk.num).mono ?_)
    rintro e w5 ⟨A9, n9, c9, rfl, h9, b5⟩
    have hn9 : n9 ≤ 2000001 := by rw [← h9.len]; have := len_pow (rn (q⁻¹)) N; rw [zk.num.len] at this; have := HK1.out; omega
    have i2 := z2.below b5
    have i4 := z4.below b5
    have ik := zk.den.below b5
    have ib := bthen zb b5
    refine hKK.out _ _ ⟨i4.c0, i4.c1, i4.c2⟩ (fun hS1 => ?_)
    clear hKK K
    ((try simp only [Act.put]); (try simp only [List.setIfInBounds_toArray]))
    refine wpAnyH_ready (rs := [14]) (by kernel_rfl) (by simp) ?_
    refine AllReadyH.cons rfl ?_ AllReadyH.nil
    intro K hKK
    go_simp
    go_at_call 73
    (with_reducible refine (P2.out _ ik).mono ?_)
    rintro e w6 ⟨A10, n10, c10, rfl, h10, b6⟩
    have hn10 : n10 ≤ 2000001 := by rw [← h10.len]; have := len_pow (rd (q⁻¹)) N; rw [ik.len] at this; have := HK2.out; omega
    have j2 := i2.below b6
    have j4 := i4.below b6
    have j9 := h9.below b6
    have jb := bthen ib b6
    have jn := HF.out false rfl _ _ _ _ _ _ _ j9 h10
    refine hKK.out _ _ ⟨j4.c0, j4.c1, j4.c2⟩ (fun hS2 => ?_)
    clear hKK K
    ((try simp only [Act.put]); (try simp only [List.setIfInBounds_toArray]))
    refine wpAnyH_take (i := 15) (v := ?_) rfl (by kernel_rfl) (by kernel_rfl) (by kernel_rfl) (fun _ _ _ h => h) (Or.inl ⟨by rfl, ?_⟩) (by assumption) ?_
    rotate_left
    focus (intro w hSw; (try dsimp only at hSw); go_simp; try with_reducible rfl)
    ((try simp only [Act.put]); (try simp only [List.setIfInBounds_toArray]))
    refine wpAnyH_ready (rs := [16]) (by kernel_rfl) (by simp) ?_
    refine AllReadyH.cons rfl ?_ AllReadyH.nil
    intro K hKK
    go_simp
    go_at_call 74
    (with_reducible refine (gives_any _ _ _ _ _ _ _ _ _ jn (by omega) (by omega)).mono ?_)
    rintro e w7 ⟨s13, A13, n13, c13, A14, n14, c14, rfl, g13, o13, o14, b7⟩
    have k2 := j2.below b7
    have k4 := j4.below b7
    have kb := bthen jb b7
    have G := Lib.hid ((g13.ret o13 o14 (by omega) j2.lt kb).withErr 0)
    have p4 := k4.put (g' := w.heap.size + 1) (by omega) (.bool s13) (.slice A13 n13 c13) (.slice A14 n14 c14)
    have KF := And.intro p4.c0 (And.intro p4.c1 p4.c2)
    unfold put3 at KF
    have t0 := k2.c0
    have t1 := k2.c1
    have t2 := k2.c2
    have v0 := k2.fz 0
    have v1 := k2.fz 1
    have v2 := k2.fz 2
    refine hKK.out _ _ ⟨k4.c0, k4.c1, k4.c2⟩ (fun hS3 => ?_)
    clear hKK K
    ((try simp only [Act.put]); (try simp only [List.setIfInBounds_toArray]))
    refine wpAnyH_ready (rs := [17]) (by kernel_rfl) (by simp) ?_
    refine AllReadyH.cons rfl ?_ AllReadyH.nil
    intro K hKK
    go_simp
    refine hKK.out _ _ KF (fun hS4 => ?_)
    clear hKK K
    ((try simp only [Act.put]); (try simp only [List.setIfInBounds_toArray]))
    refine wpAnyH_take (i := 18) (oi := { dst := some 5, op := Op.assign (Operand.const (Value.int IntKind.i64 0)), type := 26, pos := "frac.go:180", after := #[{ on := 17, ground := Ground.chain }, { on := 0, ground := Ground.phase }, { on := 1, ground := Ground.phase }, { on := 2, ground := Ground.phase }, { on := 3, ground := Ground.phase }, { on := 4, ground := Ground.phase }, { on := 5, ground := Ground.phase }, { on := 6, ground := Ground.phase }, { on := 7, ground := Ground.phase }, { on := 8, ground := Ground.phase }, { on := 9, ground := Ground.phase }, { on := 10, ground := Ground.phase }, { on := 11, ground := Ground.phase }, { on := 12, ground := Ground.phase }, { on := 13, ground := Ground.phase }, { on := 14, ground := Ground.phase }, { on := 15, ground := Ground.phase }, { on := 16, ground := Ground.phase }, { on := 17, ground := Ground.phase }], guard := none }) (v := ?_) rfl (by kernel_rfl) (by kernel_rfl) (by kernel_rfl) (fun _ _ _ h => h) (Or.inl ⟨by rfl, ?_⟩) (by assumption) ?_
    rotate_left
    focus (intro w hSw; (try dsimp only at hSw); go_simp; try with_reducible rfl)
    ((try simp only [Act.put]); (try simp only [List.setIfInBounds_toArray]))
    refine wpAnyH_done (by kernel_rfl) ?_ _
    go_wp2_with fail
    exact bodyPost_ret (v := .tuple #[.agg #[.bool s13, .slice A13 n13 c13, .slice A14 n14 c14], .int .i64 0]) (by simp [results, Tryd.results21, go_sem, t0, t1, t2]) rfl G.out
  | true =>
    by_cases hodd : N % 2 = 1
    · have htm : ((N : Int).tmod 2) = 1 := by rw [Int.tmod_eq_emod_of_nonneg (by omega)]; omega
      refine wp_region_held_drew (S := fun w' => w'.cell? ⟨w1.heap.size, 0, none⟩ = some (.bool true) ∧ w'.cell? ⟨w1.heap.size, 1, none⟩ = some (.slice A7 n7 c7) ∧ w'.cell? ⟨w1.heap.size, 2, none⟩ = some (.slice A8 n8 c8)) (by rfl) ⟨z4.c0, z4.c1, z4.c2⟩ (fun hS0 => ?_)
      refine wpAnyH_take (i := 0) (v := ?_) rfl (by kernel_rfl) (by kernel_rfl) (by kernel_rfl) (fun _ _ _ h => h) (Or.inl ⟨by rfl, ?_⟩) (by assumption) ?_
      rotate_left
      focus (intro w hSw; (try dsimp only at hSw); go_simp; try with_reducible rfl)
      ((try simp only [Act.put]); (try simp only [List.setIfInBounds_toArray]))
      refine wpAnyH_take (i := 1) (v := ?_) rfl (by kernel_rfl) (by kernel_rfl) (by kernel_rfl) (fun _ _ _ h => h) (Or.inl ⟨by rfl, ?_⟩) (by assumption) ?_
      rotate_left
      focus (intro w hSw; (try dsimp only at hSw); go_simp; try with_reducible rfl)
      ((try simp only [Act.put]); (try simp only [List.setIfInBounds_toArray]))
      refine wpAnyH_take (i := 2) (v := ?_) rfl (by kernel_rfl) (by kernel_rfl) (by kernel_rfl) (fun _ _ _ h => h) (Or.inl ⟨by rfl, ?_⟩) (by assumption) ?_
      rotate_left
      focus (intro w hSw; (try dsimp only at hSw); go_simp; try with_reducible rfl)
      ((try simp only [Act.put]); (try simp only [List.setIfInBounds_toArray]))
      refine wpAnyH_take (i := 3) (v := ?_) rfl (by kernel_rfl) (by kernel_rfl) (by kernel_rfl) (fun _ _ _ h => h) (Or.inl ⟨by rfl, ?_⟩) (by assumption) ?_
      rotate_left
      focus (intro w hSw; (try dsimp only at hSw); go_simp; try with_reducible rfl)
      ((try simp only [Act.put]); (try simp only [List.setIfInBounds_toArray]))
      refine wpAnyH_take (i := 4) (v := ?_) rfl (by kernel_rfl) (by kernel_rfl) (by kernel_rfl) (fun _ _ _ h => h) (Or.inl ⟨by rfl, ?_⟩) (by assumption) ?_
      rotate_left
      focus (intro w hSw; (try dsimp only at hSw); go_simp; try with_reducible rfl)
      ((try simp only [Act.put]); (try simp only [List.setIfInBounds_toArray]))
      refine wpAnyH_take (i := 5) (v := ?_) rfl (by kernel_rfl) (by kernel_rfl) (by kernel_rfl) (fun _ _ _ h => h) (Or.inl ⟨by rfl, ?_⟩) (by assumption) ?_
      rotate_left
      focus (intro w hSw; (try dsimp only at hSw); go_simp; try with_reducible rfl)
      ((try simp only [Act.put]); (try simp only [List.setIfInBounds_toArray]))
      refine wpAnyH_take (i := 6) (v := ?_) rfl (by kernel_rfl) (by kernel_rfl) (by kernel_rfl) (fun _ _ _ h => h) (Or.inl ⟨by rfl, ?_⟩) (by assumption) ?_
      rotate_left
      focus (intro w hSw; (try dsimp only at hSw); go_simp; try with_reducible rfl)
      ((try simp only [Act.put]); (try simp only [List.setIfInBounds_toArray]))
      refine wpAnyH_take (i := 7) (v := ?_) rfl (by kernel_rfl) (by kernel_rfl) (by kernel_rfl) (fun _ _ _ h => h) (Or.inl ⟨by rfl, ?_⟩) (by assumption) ?_
      rotate_left
      focus (intro w hSw; (try dsimp only at hSw); go_simp; try with_reducible rfl)
      ((try simp only [Act.put]); (try simp only [List.setIfInBounds_toArray]))
      refine wpAnyH_take (i := 8) (v := ?_) rfl (by kernel_rfl) (by kernel_rfl) (by kernel_rfl) (fun _ _ _ h => h) (Or.inl ⟨by rfl, ?_⟩) (by assumption) ?_
      rotate_left
      focus (intro w hSw; (try dsimp only at hSw); go_simp; try with_reducible rfl)
      ((try simp only [Act.put]); (try simp only [List.setIfInBounds_toArray]))
      refine wpAnyH_take (i := 9) (v := ?_) rfl (by kernel_rfl) (by kernel_rfl) (by kernel_rfl) (fun _ _ _ h => h) (Or.inl ⟨by rfl, ?_⟩) (by assumption) ?_
      rotate_left
      focus (intro w hSw; (try dsimp only at hSw); go_simp; try with_reducible rfl)
      ((try simp only [Act.put]); (try simp only [List.setIfInBounds_toArray]))
      refine wpAnyH_take (i := 11) (v := ?_) rfl (by kernel_rfl) (by kernel_rfl) (by kernel_rfl) (fun _ _ _ h => h) (Or.inl ⟨by rfl, ?_⟩) (by assumption) ?_
      rotate_left
      focus (intro w hSw; (try dsimp only at hSw); go_simp; try with_reducible rfl)
      ((try simp only [Act.put]); (try simp only [List.setIfInBounds_toArray]))
      refine wpAnyH_take (i := 12) (v := ?_) rfl (by kernel_rfl) (by kernel_rfl) (by kernel_rfl) (fun _ _ _ h => h) (Or.inl ⟨by rfl, ?_⟩) (by assumption) ?_
      rotate_left
      focus (intro w hSw; (try dsimp only at hSw); go_simp; try with_reducible rfl)
      ((try simp only [Act.put]); (try simp only [List.setIfInBounds_toArray]))
      refine wpAnyH_take (i := 13) (v := ?_) rfl (by kernel_rfl) (by kernel_rfl) (by kernel_rfl) (fun _ _ _ h => h) (Or.inl ⟨by rfl, ?_⟩) (by assumption) ?_
      rotate_left
      focus (intro w hSw; (try dsimp only at hSw); go_simp; try with_reducible rfl)
      ((try simp only [Act.put]); (try simp only [List.setIfInBounds_toArray]))
      refine wpAnyH_ready (rs := [10]) (by kernel_rfl) (by simp) ?_
      refine AllReadyH.cons rfl ?_ AllReadyH.nil
      intro K hKK
      go_simp
      go_at_call 73
      (with_reducible refine (P1.out _ zk.num).mono ?_)
      rintro e w5 ⟨A9, n9, c9, rfl, h9, b5⟩
      have hn9 : n9 ≤ 2000001 := by rw [← h9.len]; have := len_pow (rn (q⁻¹)) N; rw [zk.num.len] at this; have := HK1.out; omega
      have i2 := z2.below b5
      have i4 := z4.below b5
      have ik := zk.den.below b5
      have ib := bthen zb b5
      refine hKK.out _ _ ⟨i4.c0, i4.c1, i4.c2⟩ (fun hS1 => ?_)
      clear hKK K
      ((try simp only [Act.put]); (try simp only [List.setIfInBounds_toArray]))
      refine wpAnyH_ready (rs := [14]) (by kernel_rfl) (by simp) ?_
      refine AllReadyH.cons rfl ?_ AllReadyH.nil
      intro K hKK
      go_simp
      go_at_call 73
      (with_reducible refine (P2.out _ ik).mono ?_)
      rintro e w6 ⟨A10, n10, c10, rfl, h10, b6⟩
      have hn10 : n10 ≤ 2000001 := by rw [← h10.len]; have := len_pow (rd (q⁻¹)) N; rw [ik.len] at this; have := HK2.out; omega
      have j2 := i2.below b6
      have j4 := i4.below b6
      have j9 := h9.below b6
      have jb := bthen ib b6
      have jn := HF.out true (by rw [decide_eq_true hodd]; rfl) _ _ _ _ _ _ _ j9 h10
      refine hKK.out _ _ ⟨j4.c0, j4.c1, j4.c2⟩ (fun hS2 => ?_)
      clear hKK K
      ((try simp only [Act.put]); (try simp only [List.setIfInBounds_toArray]))
      refine wpAnyH_take (i := 15) (v := ?_) rfl (by kernel_rfl) (by kernel_rfl) (by kernel_rfl) (fun _ _ _ h => h) (Or.inl ⟨by rfl, ?_⟩) (by assumption) ?_
      rotate_left
      focus (intro w hSw; (try dsimp only at hSw); go_simp; try with_reducible rfl)
      ((try simp only [Act.put]); (try simp only [List.setIfInBounds_toArray]))
      refine wpAnyH_ready (rs := [16]) (by kernel_rfl) (by simp) ?_
      refine AllReadyH.cons rfl ?_ AllReadyH.nil
      intro K hKK
      go_simp
      go_at_call 74
      (with_reducible refine (gives_any _ _ _ _ _ _ _ _ _ jn (by omega) (by omega)).mono ?_)
      rintro e w7 ⟨s13, A13, n13, c13, A14, n14, c14, rfl, g13, o13, o14, b7⟩
      have k2 := j2.below b7
      have k4 := j4.below b7
      have kb := bthen jb b7
      have G := Lib.hid ((g13.ret o13 o14 (by omega) j2.lt kb).withErr 0)
      have p4 := k4.put (g' := w.heap.size + 1) (by omega) (.bool s13) (.slice A13 n13 c13) (.slice A14 n14 c14)
      have KF := And.intro p4.c0 (And.intro p4.c1 p4.c2)
      unfold put3 at KF
      have t0 := k2.c0
      have t1 := k2.c1
      have t2 := k2.c2
      have v0 := k2.fz 0
      have v1 := k2.fz 1
      have v2 := k2.fz 2
      refine hKK.out _ _ ⟨k4.c0, k4.c1, k4.c2⟩ (fun hS3 => ?_)
      clear hKK K
      ((try simp only [Act.put]); (try simp only [List.setIfInBounds_toArray]))
      refine wpAnyH_ready (rs := [17]) (by kernel_rfl) (by simp) ?_
      refine AllReadyH.cons rfl ?_ AllReadyH.nil
      intro K hKK
      go_simp
      refine hKK.out _ _ KF (fun hS4 => ?_)
      clear hKK K
      ((try simp only [Act.put]); (try simp only [List.setIfInBounds_toArray]))
      refine wpAnyH_take (i := 18) (oi := { dst := some 5, op := Op.assign (Operand.const (Value.int IntKind.i64 0)), type := 26, pos := "frac.go:180", after := #[{ on := 17, ground := Ground.chain }, { on := 0, ground := Ground.phase }, { on := 1, ground := Ground.phase }, { on := 2, ground := Ground.phase }, { on := 3, ground := Ground.phase }, { on := 4, ground := Ground.phase }, { on := 5, ground := Ground.phase }, { on := 6, ground := Ground.phase }, { on := 7, ground := Ground.phase }, { on := 8, ground := Ground.phase }, { on := 9, ground := Ground.phase }, { on := 10, ground := Ground.phase }, { on := 11, ground := Ground.phase }, { on := 12, ground := Ground.phase }, { on := 13, ground := Ground.phase }, { on := 14, ground := Ground.phase }, { on := 15, ground := Ground.phase }, { on := 16, ground := Ground.phase }, { on := 17, ground := Ground.phase }], guard := none }) (v := ?_) rfl (by kernel_rfl) (by kernel_rfl) (by kernel_rfl) (fun _ _ _ h => h) (Or.inl ⟨by rfl, ?_⟩) (by assumption) ?_
      rotate_left
      focus (intro w hSw; (try dsimp only at hSw); go_simp; try with_reducible rfl)
      ((try simp only [Act.put]); (try simp only [List.setIfInBounds_toArray]))
      refine wpAnyH_done (by kernel_rfl) ?_ _
      go_wp2_with fail
      exact bodyPost_ret (v := .tuple #[.agg #[.bool s13, .slice A13 n13 c13, .slice A14 n14 c14], .int .i64 0]) (by simp [results, Tryd.results21, go_sem, t0, t1, t2]) rfl G.out
    · have htm : ((N : Int).tmod 2) = 0 := by rw [Int.tmod_eq_emod_of_nonneg (by omega)]; omega
      refine wp_region_held_drew (S := fun w' => w'.cell? ⟨w1.heap.size, 0, none⟩ = some (.bool true) ∧ w'.cell? ⟨w1.heap.size, 1, none⟩ = some (.slice A7 n7 c7) ∧ w'.cell? ⟨w1.heap.size, 2, none⟩ = some (.slice A8 n8 c8)) (by rfl) ⟨z4.c0, z4.c1, z4.c2⟩ (fun hS0 => ?_)
      refine wpAnyH_take (i := 0) (v := ?_) rfl (by kernel_rfl) (by kernel_rfl) (by kernel_rfl) (fun _ _ _ h => h) (Or.inl ⟨by rfl, ?_⟩) (by assumption) ?_
      rotate_left
      focus (intro w hSw; (try dsimp only at hSw); go_simp; try with_reducible rfl)
      ((try simp only [Act.put]); (try simp only [List.setIfInBounds_toArray]))
      refine wpAnyH_take (i := 1) (v := ?_) rfl (by kernel_rfl) (by kernel_rfl) (by kernel_rfl) (fun _ _ _ h => h) (Or.inl ⟨by rfl, ?_⟩) (by assumption) ?_
      rotate_left
      focus (intro w hSw; (try dsimp only at hSw); go_simp; try with_reducible rfl)
      ((try simp only [Act.put]); (try simp only [List.setIfInBounds_toArray]))
      refine wpAnyH_take (i := 2) (v := ?_) rfl (by kernel_rfl) (by kernel_rfl) (by kernel_rfl) (fun _ _ _ h => h) (Or.inl ⟨by rfl, ?_⟩) (by assumption) ?_
      rotate_left
      focus (intro w hSw; (try dsimp only at hSw); go_simp; try with_reducible rfl)
      ((try simp only [Act.put]); (try simp only [List.setIfInBounds_toArray]))
      refine wpAnyH_take (i := 3) (v := ?_) rfl (by kernel_rfl) (by kernel_rfl) (by kernel_rfl) (fun _ _ _ h => h) (Or.inl ⟨by rfl, ?_⟩) (by assumption) ?_
      rotate_left
      focus (intro w hSw; (try dsimp only at hSw); go_simp; try with_reducible rfl)
      ((try simp only [Act.put]); (try simp only [List.setIfInBounds_toArray]))
      refine wpAnyH_take (i := 4) (v := ?_) rfl (by kernel_rfl) (by kernel_rfl) (by kernel_rfl) (fun _ _ _ h => h) (Or.inl ⟨by rfl, ?_⟩) (by assumption) ?_
      rotate_left
      focus (intro w hSw; (try dsimp only at hSw); go_simp; try with_reducible rfl)
      ((try simp only [Act.put]); (try simp only [List.setIfInBounds_toArray]))
      refine wpAnyH_take (i := 5) (v := ?_) rfl (by kernel_rfl) (by kernel_rfl) (by kernel_rfl) (fun _ _ _ h => h) (Or.inl ⟨by rfl, ?_⟩) (by assumption) ?_
      rotate_left
      focus (intro w hSw; (try dsimp only at hSw); go_simp; try with_reducible rfl)
      ((try simp only [Act.put]); (try simp only [List.setIfInBounds_toArray]))
      refine wpAnyH_take (i := 6) (v := ?_) rfl (by kernel_rfl) (by kernel_rfl) (by kernel_rfl) (fun _ _ _ h => h) (Or.inl ⟨by rfl, ?_⟩) (by assumption) ?_
      rotate_left
      focus (intro w hSw; (try dsimp only at hSw); go_simp; try with_reducible rfl)
      ((try simp only [Act.put]); (try simp only [List.setIfInBounds_toArray]))
      refine wpAnyH_take (i := 7) (v := ?_) rfl (by kernel_rfl) (by kernel_rfl) (by kernel_rfl) (fun _ _ _ h => h) (Or.inl ⟨by rfl, ?_⟩) (by assumption) ?_
      rotate_left
      focus (intro w hSw; (try dsimp only at hSw); go_simp; try with_reducible rfl)
      ((try simp only [Act.put]); (try simp only [List.setIfInBounds_toArray]))
      refine wpAnyH_take (i := 8) (v := ?_) rfl (by kernel_rfl) (by kernel_rfl) (by kernel_rfl) (fun _ _ _ h => h) (Or.inl ⟨by rfl, ?_⟩) (by assumption) ?_
      rotate_left
      focus (intro w hSw; (try dsimp only at hSw); go_simp; try with_reducible rfl)
      ((try simp only [Act.put]); (try simp only [List.setIfInBounds_toArray]))
      refine wpAnyH_take (i := 9) (v := ?_) rfl (by kernel_rfl) (by kernel_rfl) (by kernel_rfl) (fun _ _ _ h => h) (Or.inl ⟨by rfl, ?_⟩) (by assumption) ?_
      rotate_left
      focus (intro w hSw; (try dsimp only at hSw); go_simp; try with_reducible rfl)
      ((try simp only [Act.put]); (try simp only [List.setIfInBounds_toArray]))
      refine wpAnyH_take (i := 11) (v := ?_) rfl (by kernel_rfl) (by kernel_rfl) (by kernel_rfl) (fun _ _ _ h => h) (Or.inl ⟨by rfl, ?_⟩) (by assumption) ?_
      rotate_left
      focus (intro w hSw; (try dsimp only at hSw); go_simp; try with_reducible rfl)
      ((try simp only [Act.put]); (try simp only [List.setIfInBounds_toArray]))
      refine wpAnyH_take (i := 12) (v := ?_) rfl (by kernel_rfl) (by kernel_rfl) (by kernel_rfl) (fun _ _ _ h => h) (Or.inl ⟨by rfl, ?_⟩) (by assumption) ?_
      rotate_left
      focus (intro w hSw; (try dsimp only at hSw); go_simp; try with_reducible rfl)
      ((try simp only [Act.put]); (try simp only [List.setIfInBounds_toArray]))
      refine wpAnyH_take (i := 13) (v := ?_) rfl (by kernel_rfl) (by kernel_rfl) (by kernel_rfl) (fun _ _ _ h => h) (Or.inl ⟨by rfl, ?_⟩) (by assumption) ?_
      rotate_left
      focus (intro w hSw; (try dsimp only at hSw); go_simp; try with_reducible rfl)
      ((try simp only [Act.put]); (try simp only [List.setIfInBounds_toArray]))
      refine wpAnyH_ready (rs := [10]) (by kernel_rfl) (by simp) ?_
      refine AllReadyH.cons rfl ?_ AllReadyH.nil
      intro K hKK
      go_simp
      go_at_call 73
      (with_reducible refine (P1.out _ zk.num).mono ?_)
      rintro e w5 ⟨A9, n9, c9, rfl, h9, b5⟩
      have hn9 : n9 ≤ 2000001 := by rw [← h9.len]; have := len_pow (rn (q⁻¹)) N; rw [zk.num.len] at this; have := HK1.out; omega
      have i2 := z2.below b5
      have i4 := z4.below b5
      have ik := zk.den.below b5
      have ib := bthen zb b5
      refine hKK.out _ _ ⟨i4.c0, i4.c1, i4.c2⟩ (fun hS1 => ?_)
      clear hKK K
      ((try simp only [Act.put]); (try simp only [List.setIfInBounds_toArray]))
      refine wpAnyH_ready (rs := [14]) (by kernel_rfl) (by simp) ?_
      refine AllReadyH.cons rfl ?_ AllReadyH.nil
      intro K hKK
      go_simp
      go_at_call 73
      (with_reducible refine (P2.out _ ik).mono ?_)
      rintro e w6 ⟨A10, n10, c10, rfl, h10, b6⟩
      have hn10 : n10 ≤ 2000001 := by rw [← h10.len]; have := len_pow (rd (q⁻¹)) N; rw [ik.len] at this; have := HK2.out; omega
      have j2 := i2.below b6
      have j4 := i4.below b6
      have j9 := h9.below b6
      have jb := bthen ib b6
      have jn := HF.out false (by rw [decide_eq_false hodd]; rfl) _ _ _ _ _ _ _ j9 h10
      refine hKK.out _ _ ⟨j4.c0, j4.c1, j4.c2⟩ (fun hS2 => ?_)
      clear hKK K
      ((try simp only [Act.put]); (try simp only [List.setIfInBounds_toArray]))
      refine wpAnyH_take (i := 15) (v := ?_) rfl (by kernel_rfl) (by kernel_rfl) (by kernel_rfl) (fun _ _ _ h => h) (Or.inl ⟨by rfl, ?_⟩) (by assumption) ?_
      rotate_left
      focus (intro w hSw; (try dsimp only at hSw); go_simp; try with_reducible rfl)
      ((try simp only [Act.put]); (try simp only [List.setIfInBounds_toArray]))
      refine wpAnyH_ready (rs := [16]) (by kernel_rfl) (by simp) ?_
      refine AllReadyH.cons rfl ?_ AllReadyH.nil
      intro K hKK
      go_simp
      go_at_call 74
      (with_reducible refine (gives_any _ _ _ _ _ _ _ _ _ jn (by omega) (by omega)).mono ?_)
      rintro e w7 ⟨s13, A13, n13, c13, A14, n14, c14, rfl, g13, o13, o14, b7⟩
      have k2 := j2.below b7
      have k4 := j4.below b7
      have kb := bthen jb b7
      have G := Lib.hid ((g13.ret o13 o14 (by omega) j2.lt kb).withErr 0)
      have p4 := k4.put (g' := w.heap.size + 1) (by omega) (.bool s13) (.slice A13 n13 c13) (.slice A14 n14 c14)
      have KF := And.intro p4.c0 (And.intro p4.c1 p4.c2)
      unfold put3 at KF
      have t0 := k2.c0
      have t1 := k2.c1
      have t2 := k2.c2
      have v0 := k2.fz 0
      have v1 := k2.fz 1
      have v2 := k2.fz 2
      refine hKK.out _ _ ⟨k4.c0, k4.c1, k4.c2⟩ (fun hS3 => ?_)
      clear hKK K
      ((try simp only [Act.put]); (try simp only [List.setIfInBounds_toArray]))
      refine wpAnyH_ready (rs := [17]) (by kernel_rfl) (by simp) ?_
      refine AllReadyH.cons rfl ?_ AllReadyH.nil
      intro K hKK
      go_simp
      refine hKK.out _ _ KF (fun hS4 => ?_)
      clear hKK K
      ((try simp only [Act.put]); (try simp only [List.setIfInBounds_toArray]))
      refine wpAnyH_take (i := 18) (oi := { dst := some 5, op := Op.assign (Operand.const (Value.int IntKind.i64 0)), type := 26, pos := "frac.go:180", after := #[{ on := 17, ground := Ground.chain }, { on := 0, ground := Ground.phase }, { on := 1, ground := Ground.phase }, { on := 2, ground := Ground.phase }, { on := 3, ground := Ground.phase }, { on := 4, ground := Ground.phase }, { on := 5, ground := Ground.phase }, { on := 6, ground := Ground.phase }, { on := 7, ground := Ground.phase }, { on := 8, ground := Ground.phase }, { on := 9, ground := Ground.phase }, { on := 10, ground := Ground.phase }, { on := 11, ground := Ground.phase }, { on := 12, ground := Ground.phase }, { on := 13, ground := Ground.phase }, { on := 14, ground := Ground.phase }, { on := 15, ground := Ground.phase }, { on := 16, ground := Ground.phase }, { on := 17, ground := Ground.phase }], guard := none }) (v := ?_) rfl (by kernel_rfl) (by kernel_rfl) (by kernel_rfl) (fun _ _ _ h => h) (Or.inl ⟨by rfl, ?_⟩) (by assumption) ?_
      rotate_left
      focus (intro w hSw; (try dsimp only at hSw); go_simp; try with_reducible rfl)
      ((try simp only [Act.put]); (try simp only [List.setIfInBounds_toArray]))
      refine wpAnyH_done (by kernel_rfl) ?_ _
      go_wp2_with fail
      exact bodyPost_ret (v := .tuple #[.agg #[.bool s13, .slice A13 n13 c13, .slice A14 n14 c14], .int .i64 0]) (by simp [results, Tryd.results21, go_sem, t0, t1, t2]) rfl G.out

end Go.Proofs.YtaahbabdbopphaaDoor
namespace Go.Proofs.YtaahbabdbopphaaDoor
open Go.RowKit Mx
set_option maxRecDepth 100000

theorem rn_nat_ne {d : Int} (h : d ≠ 0) : rn (d : Rat) ≠ 0 := by rw [(int_parts d).2.1]; omega

set_option maxHeartbeats 2000000 in
theorem Floor_err (s1 : Bool) (A1 A2 : Option Addr) (n1 n2 c1 c2 : Nat) (n : Int) (w : World) (h : n < 1) :
    Calls Tryd.prog 26 #[.agg #[.bool s1, .slice A1 n1 c1, .slice A2 n2 c2], .int .i64 n] w (FrEPost 0 2 w) := by
  go_enter Tryd.func26, Tryd.ntmps26
  go_wp2_with fail
  exact bodyPost_ret (v := .tuple #[.agg #[.bool false, .slice none 0 0, .slice none 0 0], .int .i64 2]) (by simp [results, Tryd.results26, go_sem]) rfl (FrEPost.zero 2 (below_alloc2 _ _ _))

set_option maxHeartbeats 4000000 in
theorem Floor_yes (s1 : Bool) (A1 A2 : Option Addr) (n1 n2 c1 c2 : Nat) (q : Rat) (d : Int) (w : World) (h : Rf w s1 A1 n1 c1 A2 n2 c2 q) (l1 : n1 ≤ 100000) (l2 : n2 ≤ 100000) (hd : 1 ≤ d) (hd1 : d ≤ 9223372036854775807) :
    Calls Tryd.prog 26 #[.agg #[.bool s1, .slice A1 n1 c1, .slice A2 n2 c2], .int .i64 d] w (FrEPost ((((q * (d : Rat)).floor : Int) : Rat) * (d : Rat)⁻¹) 0 w) := by
  have hlen := h.len
  have hz : rn (d : Rat) ≠ 0 := rn_nat_ne (by omega)
  have LI := Lib.hid (ln_i64 (z := d) (by omega) hd1)
  have LJ := Lib.hid (ln_int d).2
  have LM := Lib.hid (ln_mul q (d : Rat))
  have LF := Lib.hid (ln_floor (q * (d : Rat)))
  have LG := Lib.hid (ln_int (q * (d : Rat)).floor).2
  have LV := Lib.hid (ln_inv hz)
  have LX := Lib.hid (ln_mul (((q * (d : Rat)).floor : Int) : Rat) ((d : Rat)⁻¹))
  obtain ⟨u, HU, x1, x2, xb⟩ := boxes2 w (.bool s1) (.slice A1 n1 c1) (.slice A2 n2 c2) (.bool false) (.slice none 0 0) (.slice none 0 0) 24 24
  have m1 := h.below xb
  have q0 := x1.c0
  have q1 := x1.c1
  have q2 := x1.c2
  have g1 : ¬ (d < 1) := by omega
  clear h
  go_enter Tryd.func26, Tryd.ntmps26
  go_wp2_with fail
  rw [← HU.out]
  refine (takes_any s1 A1 A2 n1 n2 c1 c2 q _ m1 (by omega) (by omega)).mono ?_
  rintro e w1 ⟨s5, A5, n5, c5, A6, n6, c6, rfl, g5, b1⟩
  have hn5 : n5 ≤ 100000 := by have := g5.lens; omega
  have hn6 : n6 ≤ 100001 := by have := g5.lens; omega
  have y2 := x2.below b1
  have yb := bthen xb b1
  clear x1 x2 xb m1
  go_wp2_with fail
  refine (whole_any d _ (by omega) hd1).mono ?_
  rintro e w2 ⟨s7, A7, n7, c7, A8, n8, c8, rfl, g7, b2⟩
  have hn7 : n7 ≤ 2 := by have := g7.lens; have := LI.out; omega
  have hn8 : n8 ≤ 2 := by have := g7.lens; have := LJ.out; omega
  have a2 := y2.below b2
  have ab := bthen yb b2
  have ak := g5.below b2
  clear y2 yb g5
  go_wp2_with fail
  refine (nmul_any s5 s7 A5 A6 A7 A8 n5 n6 n7 n8 c5 c6 c7 c8 _ _ _ ak g7 (by omega) (by omega) (by omega) (by omega)).mono ?_
  rintro e w3 ⟨s9, A9, n9, c9, A10, n10, c10, rfl, g9, b3⟩
  have hn9 : n9 ≤ 200000 := by have := g9.lens; have := LM.out; have := ak.lens; have := g7.lens; omega
  have hn10 : n10 ≤ 200000 := by have := g9.lens; have := LM.out; have := ak.lens; have := g7.lens; omega
  have d2 := a2.below b3
  have db := bthen ab b3
  clear a2 ab ak g7
  go_wp2_with fail
  refine (nfloor_any s9 A9 A10 n9 n10 c9 c10 _ _ g9 (by omega) (by omega)).mono ?_
  rintro e w4 ⟨s11, A11, n11, c11, A12, n12, c12, rfl, g11, b4⟩
  have hn11 : n11 ≤ 200001 := by have := g11.lens; have := LF.out; have := g9.lens; omega
  have hn12 : n12 ≤ 2 := by have := g11.lens; have := LG.out; omega
  obtain ⟨v, HV, z4, zb⟩ := boxes1 w4 (.bool s11) (.slice A11 n11 c11) (.slice A12 n12 c12) 66
  have f2 := ((d2.below b4).below zb).drew
  have f4 := z4.drew
  have fb := below_drew (bthen (bthen db b4) zb)
  have fk := (g11.below zb).drew
  have hwb : w.heap.size + 1 < w4.heap.size := Nat.lt_of_lt_of_le d2.lt b4.size
  have r0 := z4.c0
  have r1 := z4.c1
  have r2 := z4.c2
  clear d2 db g9 g11 z4 zb b1 b2 b3 b4 q0 q1 q2
  go_wp2_with fail
  rw [← HV.out]
  go_region_held3 (fun w' => w'.cell? ⟨w4.heap.size, 0, none⟩ = some (.bool s11) ∧ w'.cell? ⟨w4.heap.size, 1, none⟩ = some (.slice A11 n11 c11) ∧ w'.cell? ⟨w4.heap.size, 2, none⟩ = some (.slice A12 n12 c12))
    (first | (with_reducible exact ⟨f4.c0, f4.c1, f4.c2⟩) | (with_reducible exact ⟨i4.c0, i4.c1, i4.c2⟩) | (with_reducible exact ⟨j4.c0, j4.c1, j4.c2⟩) | (with_reducible exact ⟨k4.c0, k4.c1, k4.c2⟩) | (with_reducible exact ⟨p4.c0, p4.c1, p4.c2⟩) | (with_reducible exact KF) | go_keep)
    (first
      | (go_at_call 79
         (with_reducible refine (whole_any d _ (by omega) hd1).mono ?_)
         rintro e w5 ⟨s13, A13, n13, c13, A14, n14, c14, rfl, g13, b5⟩
         have hn13 : n13 ≤ 2 := by have := g13.lens; have := LI.out; omega
         have hn14 : n14 ≤ 2 := by have := g13.lens; have := LJ.out; omega
         have i2 := f2.below b5
         have i4 := f4.below b5
         have ik := fk.below b5
         have ib := bthen fb b5)
      | (go_at_call 72
         (with_reducible refine (ninverse_any s13 A13 A14 n13 n14 c13 c14 _ _ g13 hz).mono ?_)
         rintro e w6 ⟨s15, A15, n15, c15, A16, n16, c16, rfl, g15, b6⟩
         have hn15 : n15 ≤ 2 := by have := g15.lens; have := LV.out; have := g13.lens; omega
         have hn16 : n16 ≤ 2 := by have := g15.lens; have := LV.out; have := g13.lens; omega
         have j2 := i2.below b6
         have j4 := i4.below b6
         have jk := ik.below b6
         have jb := bthen ib b6)
      | (go_at_call 78
         (with_reducible refine (nmul_any s11 s15 A11 A12 A15 A16 n11 n12 n15 n16 c11 c12 c15 c16 _ _ _ jk g15 (by omega) (by omega) (by omega) (by omega)).mono ?_)
         rintro e w7 ⟨s17, A17, n17, c17, A18, n18, c18, rfl, g17, b7⟩
         have hn17 : n17 ≤ 1000000 := by have := g17.lens; have := LX.out; have := jk.lens; have := g15.lens; omega
         have hn18 : n18 ≤ 1000000 := by have := g17.lens; have := LX.out; have := jk.lens; have := g15.lens; omega
         have k2 := j2.below b7
         have k4 := j4.below b7
         have kb := bthen jb b7)
      | (go_at_call 74
         (with_reducible refine (gives_any s17 A17 A18 n17 n18 c17 c18 _ _ g17 (by omega) (by omega)).mono ?_)
         rintro e w8 ⟨s19, A19, n19, c19, A20, n20, c20, rfl, g19, o19, o20, b8⟩
         have p2 := k2.below b8
         have p4 := k4.below b8
         have pb := bthen kb b8
         have G := Lib.hid ((g19.ret o19 o20 (by omega) k2.lt pb).withErr 0)
         have pp := p4.put (g' := w.heap.size + 1) (by omega) (.bool s19) (.slice A19 n19 c19) (.slice A20 n20 c20)
         have KF := And.intro pp.c0 (And.intro pp.c1 pp.c2)
         unfold put3 at KF
         have t0 := p2.c0
         have t1 := p2.c1
         have t2 := p2.c2
         have v0 := p2.fz 0
         have v1 := p2.fz 1
         have v2 := p2.fz 2))
  go_wp2_with fail
  exact bodyPost_ret (v := .tuple #[.agg #[.bool s19, .slice A19 n19 c19, .slice A20 n20 c20], .int .i64 0]) (by simp [results, Tryd.results26, go_sem, t0, t1, t2]) rfl G.out
end Go.Proofs.YtaahbabdbopphaaDoor
