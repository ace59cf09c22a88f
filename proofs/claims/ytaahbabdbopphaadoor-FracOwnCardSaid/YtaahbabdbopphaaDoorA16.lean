/- FracOwn: the walk. -/
import Derived.Test.YtaahbabdbopphaaDoorOR
import Derived.Deep.LoopGhost
namespace Go.Proofs.YtaahbabdbopphaaDoor
open Go.RowKit Mx
set_option maxRecDepth 100000

set_option maxHeartbeats 4000000 in
theorem FracOwn_no (s1 : Bool) (A1 A2 : Option Addr) (n1 n2 c1 c2 : Nat) (s2 : Bool) (A3 A4 : Option Addr) (n3 n4 c3 c4 : Nat) (w : World) (ht : Tab w) (h : 12 < n1 ∨ 12 < n2 ∨ 12 < n3 ∨ 12 < n4) :
    Calls Tryd.prog 16 #[.agg #[.bool s1, .slice A1 n1 c1, .slice A2 n2 c2], .agg #[.bool s2, .slice A3 n3 c3, .slice A4 n4 c4]] w (ValPost (.bool true) w) := by
  obtain ⟨u, HU, x1, x2, xb⟩ := boxes2 w (.bool s1) (.slice A1 n1 c1) (.slice A2 n2 c2) (.bool s2) (.slice A3 n3 c3) (.slice A4 n4 c4) 24 24
  obtain ⟨v, HV⟩ : ∃ v, Hid (v = u.alloc (.cells #[.bool s1, .slice A1 n1 c1, .slice A2 n2 c2, .bool s2, .slice A3 n3 c3, .slice A4 n4 c4] 24)) := ⟨_, rfl⟩
  have SM := Lib.hid (small_two (T := 24) (s1 := s1) (A1 := A1) (A2 := A2) (n1 := n1) (n2 := n2) (c1 := c1) (c2 := c2) (s2 := s2) (A3 := A3) (A4 := A4) (n3 := n3) (n4 := n4) (c3 := c3) (c4 := c4) u false (by rw [decide_eq_false]; omega))
  rw [← HV.out, show u.heap.size = w.heap.size + 1 + 1 from by rw [HU.out]; simp] at SM
  have xb := bthen xb (show Below u.heap.size u v by rw [HV.out]; exact below_alloc (Below.refl _ _) _)
  have x1p0 := x1.c0
  have x1p1 := x1.c1
  have x1p2 := x1.c2
  have x2p0 := x2.c0
  have x2p1 := x2.c1
  have x2p2 := x2.c2
  rw [HU.out] at x1p0 x1p1 x1p2 x2p0 x2p1 x2p2
  have ht2 := ht.on xb
  clear h
  go_enter Tryd.func16, Tryd.ntmps16
  go_wp2_with fail
  rw [← HU.out, ← HV.out]
  refine SM.out.mono ?_
  rintro e w1 ⟨rfl, hw⟩
  replace hw := hw.symm
  subst hw
  clear x1p0 x1p1 x1p2 x2p0 x2p1 x2p2
  go_wp2_with fail
  refine (known_any _ ht2).mono ?_
  rintro e w9 ⟨rfl, b9⟩
  go_wp2_with fail
  go_ret
  exact ⟨rfl, bthen xb b9⟩

set_option maxHeartbeats 32000000 in
theorem FracOwn_yes (s1 : Bool) (A1 A2 : Option Addr) (n1 n2 c1 c2 : Nat) (s2 : Bool) (A3 A4 : Option Addr) (n3 n4 c3 c4 : Nat) (xs ys zs ts : List Nat) (w : World) (a1 : Sl w A1 n1 c1 xs) (a2 : Sl w A2 n2 c2 ys) (b1 : Sl w A3 n3 c3 zs) (b2 : Sl w A4 n4 c4 ts) (d1 : Ds xs) (d2 : Ds ys) (d3 : Ds zs) (d4 : Ds ts) (ht : Tab w) (l1 : n1 ≤ 12) (l2 : n2 ≤ 12) (l3 : n3 ≤ 12) (l4 : n4 ≤ 12) :
    Calls Tryd.prog 16 #[.agg #[.bool s1, .slice A1 n1 c1, .slice A2 n2 c2], .agg #[.bool s2, .slice A3 n3 c3, .slice A4 n4 c4]] w (ValPost (.bool true) w) := by
  obtain ⟨q1, hq1⟩ : ∃ q, Hid (q = fv s1 (val xs) (val ys)) := ⟨_, Lib.hid rfl⟩
  obtain ⟨q2, hq2⟩ : ∃ q, Hid (q = fv s2 (val zs) (val ts)) := ⟨_, Lib.hid rfl⟩
  have LQ : Hid (ln q1 ≤ 12 ∧ ld q1 ≤ 13 ∧ ln q2 ≤ 12 ∧ ld q2 ≤ 13) := Lib.hid (by
    have e1 : Rf w s1 A1 n1 c1 A2 n2 c2 q1 := ⟨xs, ys, a1, a2, d1, d2, hq1.out⟩
    have e2 : Rf w s2 A3 n3 c3 A4 n4 c4 q2 := ⟨zs, ts, b1, b2, d3, d4, hq2.out⟩
    have f1 := e1.len
    have f2 := e2.len
    omega)
  have Lone : Hid (ln ((1 : Rat)) ≤ 1 ∧ ld (1 : Rat) = 1) := Lib.hid ln_one
  have L6 : Hid (ln q1 ≤ 100000 ∧ ld q1 ≤ 100000) := Lib.hid (by have := LQ.out; omega)
  have L7 : Hid (ln (-q1) ≤ 100000 ∧ ld (-q1) ≤ 100000) := Lib.hid (by have := LQ.out; have := ln_neg q1; omega)
  have L8 : Hid (ln (q1 + q2) ≤ 100000 ∧ ld (q1 + q2) ≤ 100000) := Lib.hid (by have := LQ.out; have := ln_add q1 q2; omega)
  have L9 : Hid (ln (q1 - q2) ≤ 100000 ∧ ld (q1 - q2) ≤ 100000) := Lib.hid (by rw [show q1 - q2 = q1 + -q2 from by grind]; have := LQ.out; have := ln_add q1 (-q2); have := ln_neg q2; omega)
  have L10 : Hid (ln (q1 * q2) ≤ 100000 ∧ ld (q1 * q2) ≤ 100000) := Lib.hid (by have := LQ.out; have := ln_mul q1 q2; omega)
  have L5 : Hid (ln (q1 ^ 1) ≤ 100000 ∧ ld (q1 ^ 1) ≤ 100000) := Lib.hid (by rw [Rat.pow_succ, Rat.pow_zero, Rat.one_mul]; exact L6.out)
  have L11 : Hid (ln ([q1].foldl (· + ·) 0) ≤ 100000 ∧ ld ([q1].foldl (· + ·) 0) ≤ 100000) := Lib.hid (by show ln (0 + q1) ≤ 100000 ∧ ld (0 + q1) ≤ 100000; rw [Rat.zero_add]; exact L6.out)
  have L12 : Hid (ln ([q1].foldl (· * ·) 1) ≤ 100000 ∧ ld ([q1].foldl (· * ·) 1) ≤ 100000) := Lib.hid (by show ln (1 * q1) ≤ 100000 ∧ ld (1 * q1) ≤ 100000; rw [Rat.one_mul]; exact L6.out)
  clear Lone
  obtain ⟨u, HU, x1, x2, xb⟩ := boxes2 w (.bool s1) (.slice A1 n1 c1) (.slice A2 n2 c2) (.bool s2) (.slice A3 n3 c3) (.slice A4 n4 c4) 24 24
  obtain ⟨v, HV⟩ : ∃ v, Hid (v = u.alloc (.cells #[.bool s1, .slice A1 n1 c1, .slice A2 n2 c2, .bool s2, .slice A3 n3 c3, .slice A4 n4 c4] 24)) := ⟨_, rfl⟩
  have SM := Lib.hid (small_two (T := 24) (s1 := s1) (A1 := A1) (A2 := A2) (n1 := n1) (n2 := n2) (c1 := c1) (c2 := c2) (s2 := s2) (A3 := A3) (A4 := A4) (n3 := n3) (n4 := n4) (c3 := c3) (c4 := c4) u true (by rw [decide_eq_true]; omega))
  rw [← HV.out, show u.heap.size = w.heap.size + 1 + 1 from by rw [HU.out]; simp] at SM
  have vb : Below u.heap.size u v := by rw [HV.out]; exact below_alloc (Below.refl _ _) _
  have x1p0 := x1.c0
  have x1p1 := x1.c1
  have x1p2 := x1.c2
  have x2p0 := x2.c0
  have x2p1 := x2.c1
  have x2p2 := x2.c2
  rw [HU.out] at x1p0 x1p1 x1p2 x2p0 x2p1 x2p2
  replace a1 := (a1.below xb).below vb
  replace a2 := (a2.below xb).below vb
  replace b1 := (b1.below xb).below vb
  replace b2 := (b2.below xb).below vb
  replace x1 := x1.below vb
  replace x2 := x2.below vb
  replace xb := bthen xb vb
  have uu := Below.refl v.heap.size v
  go_enter Tryd.func16, Tryd.ntmps16
  go_wp2_with fail
  rw [← HU.out, ← HV.out]
  refine SM.out.mono ?_
  rintro e w1 ⟨rfl, hw⟩
  replace hw := hw.symm
  subst hw
  clear x1p0 x1p1 x1p2 x2p0 x2p1 x2p2 SM vb
  have xw := xb
  clear xb
  go_upto_region 3 with fail
  go_cut [5] (fun sv wx => CpPost s1 n1 n2 xs ys v sv wx)
  case first =>
    as_aux_lemma =>
      have y1 := x1.drew
      have g1 := a1.drew
      have g2 := a2.drew
      have yu := below_drew (Below.refl v.heap.size v)
      go_region_held3 (fun w' => w'.cell? ⟨w.heap.size, 0, none⟩ = some (.bool s1) ∧ w'.cell? ⟨w.heap.size, 1, none⟩ = some (.slice A1 n1 c1) ∧ w'.cell? ⟨w.heap.size, 2, none⟩ = some (.slice A2 n2 c2))
        (first | (with_reducible exact ⟨x1.c0, x1.c1, x1.c2⟩) | (with_reducible exact ⟨y1.c0, y1.c1, y1.c2⟩) | (with_reducible exact ⟨(y1.alloc _).c0, (y1.alloc _).c1, (y1.alloc _).c2⟩) | (with_reducible exact ⟨(x1.alloc _).drew.c0, (x1.alloc _).drew.c1, (x1.alloc _).drew.c2⟩) | (with_reducible exact KF) | go_keep)
        (first
          | (refine step_append_nil rfl _ _ rfl A1 n1 c1 xs (by simp [Act.eval]) (by simp [Act.eval]) (by first | exact g1 | exact g1.alloc _ | exact (a1.alloc _).drew) (by omega) ?_
             intro A5 c5 w5 e1 b5
             first | (have zb := zb.below b5) | (have zg := yu.size; have zb := (Bk.new _ (.bool false) (.slice none 0 0) (.slice none 0 0) 24).below b5) | (have zg := Nat.le_refl v.heap.size; have zb := ((Bk.new _ (.bool false) (.slice none 0 0) (.slice none 0 0) 24).drew).below b5) | skip
             first | (have g2 := g2.below b5) | (have g2 := (g2.alloc _).below b5) | (have g2 := ((a2.alloc _).drew).below b5) | skip
             first | (have y1 := y1.below b5) | (have y1 := (y1.alloc _).below b5) | (have y1 := ((x1.alloc _).drew).below b5)
             first | (have yu := bthen yu b5) | (have yu := bthen (below_alloc yu _) b5) | (have yu := bthen (below_drew (below_alloc (Below.refl _ v) _)) b5)
             first | (have e2 := e2.below b5) | (have e2 := (e2.alloc _).below b5) | skip
             (try have t0 := zb.c0)
             (try have t1 := zb.c1)
             (try have t2 := zb.c2)
             (try have v0 := zb.fz 0)
             (try have v1 := zb.fz 1)
             (try have v2 := zb.fz 2)
             (try have my := y1.put (g' := _) (Nat.ne_of_lt (Nat.lt_of_lt_of_le x1.lt zg)) (.bool s1) (.slice A5 n1 c5) (.slice A6 n2 c6))
             (try have KF := And.intro my.c0 (And.intro my.c1 my.c2))
             (try unfold put3 at KF))
          | (refine step_append_nil rfl _ _ rfl A2 n2 c2 ys (by simp [Act.eval]) (by simp [Act.eval]) (by first | exact g2 | exact g2.alloc _ | exact (a2.alloc _).drew) (by omega) ?_
             intro A6 c6 w5 e2 b5
             first | (have zb := zb.below b5) | (have zg := yu.size; have zb := (Bk.new _ (.bool false) (.slice none 0 0) (.slice none 0 0) 24).below b5) | (have zg := Nat.le_refl v.heap.size; have zb := ((Bk.new _ (.bool false) (.slice none 0 0) (.slice none 0 0) 24).drew).below b5) | skip
             first | (have g1 := g1.below b5) | (have g1 := (g1.alloc _).below b5) | (have g1 := ((a1.alloc _).drew).below b5) | skip
             first | (have y1 := y1.below b5) | (have y1 := (y1.alloc _).below b5) | (have y1 := ((x1.alloc _).drew).below b5)
             first | (have yu := bthen yu b5) | (have yu := bthen (below_alloc yu _) b5) | (have yu := bthen (below_drew (below_alloc (Below.refl _ v) _)) b5)
             first | (have e1 := e1.below b5) | (have e1 := (e1.alloc _).below b5) | skip
             (try have t0 := zb.c0)
             (try have t1 := zb.c1)
             (try have t2 := zb.c2)
             (try have v0 := zb.fz 0)
             (try have v1 := zb.fz 1)
             (try have v2 := zb.fz 2)
             (try have my := y1.put (g' := _) (Nat.ne_of_lt (Nat.lt_of_lt_of_le x1.lt zg)) (.bool s1) (.slice A5 n1 c5) (.slice A6 n2 c6))
             (try have KF := And.intro my.c0 (And.intro my.c1 my.c2))
             (try unfold put3 at KF)))
      all_goals
        go_wp2_with fail
        go_meet
        first
          | exact CpPost.put e1 e2 zb yu zg
          | exact CpPost.new e1 e2 yu
  case rest =>
    obtain ⟨G3, A5, c5, A6, c6, rfl, x3, e1, e2, b5⟩ := hcut
    obtain ⟨V1, rfl⟩ : ∃ V, V = wc := ⟨_, rfl⟩
    replace x1 := x1.below b5
    replace x2 := x2.below b5
    replace a1 := a1.below b5
    replace a2 := a2.below b5
    replace b1 := b1.below b5
    replace b2 := b2.below b5
    replace xw := bthen xw b5
    clear b5 uu
    go_upto_region 4 with fail
    go_cut [6] (fun sv wx => CpPost s2 n3 n4 zs ts V1 sv wx)
    case first =>
      as_aux_lemma =>
        have y1 := x2.drew
        have g1 := b1.drew
        have g2 := b2.drew
        have yu := below_drew (Below.refl V1.heap.size V1)
        go_region_held3 (fun w' => w'.cell? ⟨w.heap.size + 1, 0, none⟩ = some (.bool s2) ∧ w'.cell? ⟨w.heap.size + 1, 1, none⟩ = some (.slice A3 n3 c3) ∧ w'.cell? ⟨w.heap.size + 1, 2, none⟩ = some (.slice A4 n4 c4))
          (first | (with_reducible exact ⟨x2.c0, x2.c1, x2.c2⟩) | (with_reducible exact ⟨y1.c0, y1.c1, y1.c2⟩) | (with_reducible exact ⟨(y1.alloc _).c0, (y1.alloc _).c1, (y1.alloc _).c2⟩) | (with_reducible exact ⟨(x2.alloc _).drew.c0, (x2.alloc _).drew.c1, (x2.alloc _).drew.c2⟩) | (with_reducible exact KF) | go_keep)
          (first
            | (refine step_append_nil rfl _ _ rfl A3 n3 c3 zs (by simp [Act.eval]) (by simp [Act.eval]) (by first | exact g1 | exact g1.alloc _ | exact (b1.alloc _).drew) (by omega) ?_
               intro A7 c7 w5 e1 b5
               first | (have zb := zb.below b5) | (have zg := yu.size; have zb := (Bk.new _ (.bool false) (.slice none 0 0) (.slice none 0 0) 24).below b5) | (have zg := Nat.le_refl V1.heap.size; have zb := ((Bk.new _ (.bool false) (.slice none 0 0) (.slice none 0 0) 24).drew).below b5) | skip
               first | (have g2 := g2.below b5) | (have g2 := (g2.alloc _).below b5) | (have g2 := ((b2.alloc _).drew).below b5) | skip
               first | (have y1 := y1.below b5) | (have y1 := (y1.alloc _).below b5) | (have y1 := ((x2.alloc _).drew).below b5)
               first | (have yu := bthen yu b5) | (have yu := bthen (below_alloc yu _) b5) | (have yu := bthen (below_drew (below_alloc (Below.refl _ V1) _)) b5)
               first | (have e2 := e2.below b5) | (have e2 := (e2.alloc _).below b5) | skip
               (try have t0 := zb.c0)
               (try have t1 := zb.c1)
               (try have t2 := zb.c2)
               (try have v0 := zb.fz 0)
               (try have v1 := zb.fz 1)
               (try have v2 := zb.fz 2)
               (try have my := y1.put (g' := _) (Nat.ne_of_lt (Nat.lt_of_lt_of_le x2.lt zg)) (.bool s2) (.slice A7 n3 c7) (.slice A8 n4 c8))
               (try have KF := And.intro my.c0 (And.intro my.c1 my.c2))
               (try unfold put3 at KF))
            | (refine step_append_nil rfl _ _ rfl A4 n4 c4 ts (by simp [Act.eval]) (by simp [Act.eval]) (by first | exact g2 | exact g2.alloc _ | exact (b2.alloc _).drew) (by omega) ?_
               intro A8 c8 w5 e2 b5
               first | (have zb := zb.below b5) | (have zg := yu.size; have zb := (Bk.new _ (.bool false) (.slice none 0 0) (.slice none 0 0) 24).below b5) | (have zg := Nat.le_refl V1.heap.size; have zb := ((Bk.new _ (.bool false) (.slice none 0 0) (.slice none 0 0) 24).drew).below b5) | skip
               first | (have g1 := g1.below b5) | (have g1 := (g1.alloc _).below b5) | (have g1 := ((b1.alloc _).drew).below b5) | skip
               first | (have y1 := y1.below b5) | (have y1 := (y1.alloc _).below b5) | (have y1 := ((x2.alloc _).drew).below b5)
               first | (have yu := bthen yu b5) | (have yu := bthen (below_alloc yu _) b5) | (have yu := bthen (below_drew (below_alloc (Below.refl _ V1) _)) b5)
               first | (have e1 := e1.below b5) | (have e1 := (e1.alloc _).below b5) | skip
               (try have t0 := zb.c0)
               (try have t1 := zb.c1)
               (try have t2 := zb.c2)
               (try have v0 := zb.fz 0)
               (try have v1 := zb.fz 1)
               (try have v2 := zb.fz 2)
               (try have my := y1.put (g' := _) (Nat.ne_of_lt (Nat.lt_of_lt_of_le x2.lt zg)) (.bool s2) (.slice A7 n3 c7) (.slice A8 n4 c8))
               (try have KF := And.intro my.c0 (And.intro my.c1 my.c2))
               (try unfold put3 at KF)))
        all_goals
          go_wp2_with fail
          go_meet
          first
            | exact CpPost.put e1 e2 zb yu zg
            | exact CpPost.new e1 e2 yu
    case rest =>
      obtain ⟨G4, A7, c7, A8, c8, rfl, x4, e3, e4, b5⟩ := hcut
      obtain ⟨V2, rfl⟩ : ∃ V, V = wc := ⟨_, rfl⟩
      replace x1 := x1.below b5
      replace x2 := x2.below b5
      replace x3 := x3.below b5
      replace e1 := e1.below b5
      replace e2 := e2.below b5
      replace a1 := a1.below b5
      replace a2 := a2.below b5
      replace b1 := b1.below b5
      replace b2 := b2.below b5
      replace xw := bthen xw b5
      clear b5
      have gX : Rf V2 s1 A5 n1 c5 A6 n2 c6 q1 := ⟨xs, ys, e1, e2, d1, d2, hq1.out⟩
      have gY : Rf V2 s2 A7 n3 c7 A8 n4 c8 q2 := ⟨zs, ts, e3, e4, d3, d4, hq2.out⟩
      have PC : Hid (Calls Tryd.prog 21 #[.agg #[.bool s1, .slice A5 n1 c5, .slice A6 n2 c6], .int .i64 1] V2 (FrEPost (q1 ^ 1) 0 V2)) := Lib.hid (Pow_nat s1 A5 A6 n1 n2 c5 c6 q1 1 V2 gX (by omega) (by omega) (by omega) (by omega) (by omega))
      have p0 := x3.c0
      have p1 := x3.c1
      have p2 := x3.c2
      go_wp2_with fail
      refine PC.out.mono ?_
      rintro e w5 ⟨s5, A9, n9, c9, A10, n10, c10, rfl, f5, o9, o10, b5⟩
      clear PC p0 p1 p2
      obtain ⟨V, HV, x5, xb5⟩ := boxes1 w5 (.bool s5) (.slice A9 n9 c9) (.slice A10 n10 c10) 24
      have r5 := (Rw.of f5 o9 o10 (Nat.le_refl _) L5.out).below xb5
      have yv := bthen b5 xb5
      have X3 := x3.below yv
      have X4 := x4.below yv
      have GX := gX.below yv
      have GY := gY.below yv
      clear f5 o9 o10 xb5
      have htV := (ht.on xw)
      go_upto_region 6 with fail
      rw [← HV.out]
      go_cut [9] (fun sv wx => ∃ ad, sv = .slice (some ad) 8 8 ∧ Tb wx V2.heap.size ad ∧ Below V2.heap.size V2 wx)
      case first =>
        have C59 : ∀ W, Below V.heap.size V W → ∃ q, (ln q ≤ 100000 ∧ ld q ≤ 100000) ∧ Calls Tryd.prog 59 #[.agg #[.bool s1, .slice A5 n1 c5, .slice A6 n2 c6]] W (FrPost q W) := fun W hb => ⟨q1, L6.out, Canon_any s1 A5 A6 n1 n2 c5 c6 q1 _ (GX.below hb) (by omega) (by omega)⟩
        have C55 : ∀ W, Below V.heap.size V W → ∃ q, (ln q ≤ 100000 ∧ ld q ≤ 100000) ∧ Calls Tryd.prog 55 #[.agg #[.bool s1, .slice A5 n1 c5, .slice A6 n2 c6]] W (FrPost q W) := fun W hb => ⟨-q1, L7.out, Neg_any s1 A5 A6 n1 n2 c5 c6 q1 _ (GX.below hb) (by omega) (by omega)⟩
        have C52 : ∀ W, Below V.heap.size V W → ∃ q, (ln q ≤ 100000 ∧ ld q ≤ 100000) ∧ Calls Tryd.prog 52 #[.agg #[.bool s1, .slice A5 n1 c5, .slice A6 n2 c6], .agg #[.bool s2, .slice A7 n3 c7, .slice A8 n4 c8]] W (FrPost q W) := fun W hb => ⟨q1 + q2, L8.out, Add_any s1 s2 A5 A6 A7 A8 n1 n2 n3 n4 c5 c6 c7 c8 q1 q2 _ (GX.below hb) (GY.below hb) (by omega) (by omega) (by omega) (by omega)⟩
        have C54 : ∀ W, Below V.heap.size V W → ∃ q, (ln q ≤ 100000 ∧ ld q ≤ 100000) ∧ Calls Tryd.prog 54 #[.agg #[.bool s1, .slice A5 n1 c5, .slice A6 n2 c6], .agg #[.bool s2, .slice A7 n3 c7, .slice A8 n4 c8]] W (FrPost q W) := fun W hb => ⟨q1 - q2, L9.out, Sub_any s1 s2 A5 A6 A7 A8 n1 n2 n3 n4 c5 c6 c7 c8 q1 q2 _ (GX.below hb) (GY.below hb) (by omega) (by omega) (by omega) (by omega)⟩
        have C58 : ∀ W, Below V.heap.size V W → ∃ q, (ln q ≤ 100000 ∧ ld q ≤ 100000) ∧ Calls Tryd.prog 58 #[.agg #[.bool s1, .slice A5 n1 c5, .slice A6 n2 c6], .agg #[.bool s2, .slice A7 n3 c7, .slice A8 n4 c8]] W (FrPost q W) := fun W hb => ⟨q1 * q2, L10.out, Mul_any s1 s2 A5 A6 A7 A8 n1 n2 n3 n4 c5 c6 c7 c8 q1 q2 _ (GX.below hb) (GY.below hb) (by omega) (by omega) (by omega) (by omega)⟩
        have C39 : ∀ W g, Below V.heap.size V W → OneX W g s1 A5 n1 c5 A6 n2 c6 → ∃ q, (ln q ≤ 100000 ∧ ld q ≤ 100000) ∧ Calls Tryd.prog 39 #[.slice (some ⟨g, 0, none⟩) 1 1] W (FrPost q W) := fun W g hb k => ⟨[q1].foldl (· + ·) 0, L11.out, Sum_any (some ⟨g, 0, none⟩) 1 1 [q1] W (k.fl (GX.below hb) (by omega) (by omega)) rfl (by omega)⟩
        have C41 : ∀ W g, Below V.heap.size V W → OneX W g s1 A5 n1 c5 A6 n2 c6 → ∃ q, (ln q ≤ 100000 ∧ ld q ≤ 100000) ∧ Calls Tryd.prog 41 #[.slice (some ⟨g, 0, none⟩) 1 1] W (FrPost q W) := fun W g hb k => ⟨[q1].foldl (· * ·) 1, L12.out, Product_any (some ⟨g, 0, none⟩) 1 1 [q1] W (k.fl (GX.below hb) (by omega) (by omega)) rfl (by omega)⟩
        have HSS : ∀ w', Below V.heap.size V w' → (fun w' => w'.cell? ⟨G3, 0, none⟩ = some (.bool s1) ∧ w'.cell? ⟨G3, 1, none⟩ = some (.slice A5 n1 c5) ∧ w'.cell? ⟨G3, 2, none⟩ = some (.slice A6 n2 c6) ∧ w'.cell? ⟨G4, 0, none⟩ = some (.bool s2) ∧ w'.cell? ⟨G4, 1, none⟩ = some (.slice A7 n3 c7) ∧ w'.cell? ⟨G4, 2, none⟩ = some (.slice A8 n4 c8) ∧ w'.cell? ⟨w5.heap.size, 0, none⟩ = some (.bool s5) ∧ w'.cell? ⟨w5.heap.size, 1, none⟩ = some (.slice A9 n9 c9) ∧ w'.cell? ⟨w5.heap.size, 2, none⟩ = some (.slice A10 n10 c10)) w' := fun w' hb => ⟨(X3.below hb).c0, (X3.below hb).c1, (X3.below hb).c2, (X4.below hb).c0, (X4.below hb).c1, (X4.below hb).c2, (x5.below hb).c0, (x5.below hb).c1, (x5.below hb).c2⟩
        replace C59 := Lib.hid C59
        replace C55 := Lib.hid C55
        replace C52 := Lib.hid C52
        replace C54 := Lib.hid C54
        replace C58 := Lib.hid C58
        replace C39 := Lib.hid C39
        replace C41 := Lib.hid C41
        replace HSS := Lib.hid HSS
        clear a1 a2 b1 b2 e1 e2 e3 e4 x1 x2 x3 x4 gX gY xw ht htV d1 d2 d3 d4 hq1 hq2 HU HV LQ GX GY l1 l2 l3 l4 X3 X4 x5
        refine wp_region_held_drew (S := (fun w' => w'.cell? ⟨G3, 0, none⟩ = some (.bool s1) ∧ w'.cell? ⟨G3, 1, none⟩ = some (.slice A5 n1 c5) ∧ w'.cell? ⟨G3, 2, none⟩ = some (.slice A6 n2 c6) ∧ w'.cell? ⟨G4, 0, none⟩ = some (.bool s2) ∧ w'.cell? ⟨G4, 1, none⟩ = some (.slice A7 n3 c7) ∧ w'.cell? ⟨G4, 2, none⟩ = some (.slice A8 n4 c8) ∧ w'.cell? ⟨w5.heap.size, 0, none⟩ = some (.bool s5) ∧ w'.cell? ⟨w5.heap.size, 1, none⟩ = some (.slice A9 n9 c9) ∧ w'.cell? ⟨w5.heap.size, 2, none⟩ = some (.slice A10 n10 c10))) (by kernel_rfl) (HSS.out _ (below_drew (Below.refl V.heap.size V))) (fun hHeld => ?_)
        refine wpAnyH_take (i := 0) (v := .agg #[.bool s1, .slice A5 n1 c5, .slice A6 n2 c6]) rfl (by kernel_rfl) (by kernel_rfl) (by kernel_rfl) (fun _ _ _ h => h) (Or.inl ⟨by rfl, ?_⟩) hHeld ?_
        · intro w' hSw
          (try dsimp only at hSw)
          go_simp
        try simp only [Act.put, List.setIfInBounds_toArray]
        refine wpAnyH_take (i := 2) (v := .agg #[.bool s1, .slice A5 n1 c5, .slice A6 n2 c6]) rfl (by kernel_rfl) (by kernel_rfl) (by kernel_rfl) (fun _ _ _ h => h) (Or.inl ⟨by rfl, ?_⟩) hHeld ?_
        · intro w' hSw
          (try dsimp only at hSw)
          go_simp
        try simp only [Act.put]
        refine wpAnyH_take (i := 4) (v := .agg #[.bool s1, .slice A5 n1 c5, .slice A6 n2 c6]) rfl (by kernel_rfl) (by kernel_rfl) (by kernel_rfl) (fun _ _ _ h => h) (Or.inl ⟨by rfl, ?_⟩) hHeld ?_
        · intro w' hSw
          (try dsimp only at hSw)
          go_simp
        try simp only [Act.put]
        refine wpAnyH_take (i := 5) (v := .agg #[.bool s2, .slice A7 n3 c7, .slice A8 n4 c8]) rfl (by kernel_rfl) (by kernel_rfl) (by kernel_rfl) (fun _ _ _ h => h) (Or.inl ⟨by rfl, ?_⟩) hHeld ?_
        · intro w' hSw
          (try dsimp only at hSw)
          go_simp
        try simp only [Act.put]
        refine wpAnyH_take (i := 7) (v := .agg #[.bool s1, .slice A5 n1 c5, .slice A6 n2 c6]) rfl (by kernel_rfl) (by kernel_rfl) (by kernel_rfl) (fun _ _ _ h => h) (Or.inl ⟨by rfl, ?_⟩) hHeld ?_
        · intro w' hSw
          (try dsimp only at hSw)
          go_simp
        try simp only [Act.put]
        refine wpAnyH_take (i := 8) (v := .agg #[.bool s2, .slice A7 n3 c7, .slice A8 n4 c8]) rfl (by kernel_rfl) (by kernel_rfl) (by kernel_rfl) (fun _ _ _ h => h) (Or.inl ⟨by rfl, ?_⟩) hHeld ?_
        · intro w' hSw
          (try dsimp only at hSw)
          go_simp
        try simp only [Act.put]
        refine wpAnyH_take (i := 10) (v := .agg #[.bool s1, .slice A5 n1 c5, .slice A6 n2 c6]) rfl (by kernel_rfl) (by kernel_rfl) (by kernel_rfl) (fun _ _ _ h => h) (Or.inl ⟨by rfl, ?_⟩) hHeld ?_
        · intro w' hSw
          (try dsimp only at hSw)
          go_simp
        try simp only [Act.put]
        refine wpAnyH_take (i := 11) (v := .agg #[.bool s2, .slice A7 n3 c7, .slice A8 n4 c8]) rfl (by kernel_rfl) (by kernel_rfl) (by kernel_rfl) (fun _ _ _ h => h) (Or.inl ⟨by rfl, ?_⟩) hHeld ?_
        · intro w' hSw
          (try dsimp only at hSw)
          go_simp
        try simp only [Act.put]
        refine wpAnyH_take (i := 13) (v := .agg #[.bool s5, .slice A9 n9 c9, .slice A10 n10 c10]) rfl (by kernel_rfl) (by kernel_rfl) (by kernel_rfl) (fun _ _ _ h => h) (Or.inl ⟨by rfl, ?_⟩) hHeld ?_
        · intro w' hSw
          (try dsimp only at hSw)
          go_simp
        try simp only [Act.put]
        refine wpAnyH_take (i := 14) (v := .agg #[.bool s1, .slice A5 n1 c5, .slice A6 n2 c6]) rfl (by kernel_rfl) (by kernel_rfl) (by kernel_rfl) (fun _ _ _ h => h) (Or.inl ⟨by rfl, ?_⟩) hHeld ?_
        · intro w' hSw
          (try dsimp only at hSw)
          go_simp
        try simp only [Act.put]
        refine wpAnyH_take (i := 17) (v := .agg #[.bool s1, .slice A5 n1 c5, .slice A6 n2 c6]) rfl (by kernel_rfl) (by kernel_rfl) (by kernel_rfl) (fun _ _ _ h => h) (Or.inl ⟨by rfl, ?_⟩) hHeld ?_
        · intro w' hSw
          (try dsimp only at hSw)
          go_simp
        try simp only [Act.put]
        refine wpAnyH_at (n := 11) (L := Lk 0 false false) (by kernel_rfl) (by kernel_rfl) ?_
        refine region6 (V := V) (B := V2.heap.size) (s1 := s1) (A5 := A5) (n1 := n1) (c5 := c5) (A6 := A6) (n2 := n2) (c6 := c6) (s2 := s2) (A7 := A7) (n3 := n3) (c7 := c7) (A8 := A8) (n4 := n4) (c8 := c8) (s5 := s5) (A9 := A9) (n9 := n9) (c9 := c9) (A10 := A10) (n10 := n10) (c10 := c10) ?hQ HSS.out yv.size ?hsz ?e42 ?e44 ?e46 ?e47 ?e49 ?e50 ?e52 ?e53 ?e55 ?e56 ?e59
          C59.out C55.out C52.out C54.out C58.out C39.out C41.out r5 ?o0 ?o1 ?o2 ?o3 ?o4 ?o5 ?o6 ?oA ?oB ?oC ?oD ?rd ?rd1 ?rd2 9 0 false false (Nat.zero_le _) (fun h => absurd h (by decide)) (fun h => absurd h (by decide)) rfl _ _ ⟨Sm.refl _, (below_drew (Below.refl V.heap.size V)), fun j hj => absurd hj (Nat.not_lt_zero _), fun h => (nomatch h), fun h => (nomatch h)⟩
        case hsz => simp
        case e42 => simp [Act.eval]
        case e44 => simp [Act.eval]
        case e46 => simp [Act.eval]
        case e47 => simp [Act.eval]
        case e49 => simp [Act.eval]
        case e50 => simp [Act.eval]
        case e52 => simp [Act.eval]
        case e53 => simp [Act.eval]
        case e55 => simp [Act.eval]
        case e56 => simp [Act.eval]
        case e59 => simp [Act.eval]
        case o0 => exact ⟨_, rfl, rfl, rfl, rfl⟩
        case o1 => exact ⟨_, rfl, rfl, rfl, rfl⟩
        case o2 => exact ⟨_, rfl, rfl, rfl, rfl⟩
        case o3 => exact ⟨_, rfl, rfl, rfl, rfl⟩
        case o4 => exact ⟨_, rfl, rfl, rfl, rfl⟩
        case o5 => exact ⟨_, rfl, rfl, rfl, rfl⟩
        case o6 => exact ⟨_, rfl, rfl, rfl, rfl⟩
        case oA => exact ⟨_, rfl, rfl, rfl, rfl⟩
        case oB => exact ⟨_, rfl, rfl, rfl, rfl⟩
        case oC => exact ⟨_, rfl, rfl, rfl, rfl⟩
        case oD => exact ⟨_, rfl, rfl, rfl, rfl⟩
        case rd1 => kernel_rfl
        case rd2 => kernel_rfl
        case rd =>
          intro k bA bB h1 h2 h3
          rcases upto7 h1 with rfl | rfl | rfl | rfl | rfl | rfl | rfl | rfl <;> cases bA <;> cases bB <;> first | exact absurd (h2 (by decide)) (by decide) | exact absurd (h3 rfl) (by decide) | kernel_rfl
        case hQ =>
          intro v43 v45 v48 v51 v54 v57 v58 v60 v61 v62 ad w' hT hb
          have yB := bthen yv hb
          unfold fillA
          simp only [Act.put]
          clear hb yv r5 hHeld
          go_wp2_with fail
          go_meet
          exact ⟨ad, rfl, hT, yB⟩
      case rest =>
        obtain ⟨ad, rfl, hT, yb⟩ := hcut
        obtain ⟨wt, rfl⟩ : ∃ W, W = wc := ⟨_, rfl⟩
        clear X3 X4 x5 GX GY r5 yv HV
        go_wp2_with fail
        go_loopw [10, 11, 12] (fun i _ _ wr => ∃ (j : Nat), j ≤ 8 ∧ i = .int .i64 j ∧ Tb wr V2.heap.size ad ∧ Below V2.heap.size V2 wr) (fun i _ _ _ => 8 - (intOf i).toNat)
        case atStart => exact ⟨0, Nat.zero_le _, rfl, hT, yb⟩
        case round =>
          clear hT yb
          obtain ⟨j, hj, rfl, hT, yb⟩ := hrel
          by_cases hj8 : j < 8
          · obtain ⟨B1, m1, e1, B2, m2, e2, q1', q2', hR⟩ := hT j hj8
            have hm1 := hR.l1
            have hm2 := hR.l2
            have i1 : (0 : Int) ≤ (j : Int) := by omega
            have i2 : (j : Int) < 8 := by omega
            go_wp2_with fail
            obtain ⟨wo, hwo⟩ : ∃ wo : World, wo = wr := ⟨_, rfl⟩
            subst hwo
            go_loopw [11] (fun k wi => ∃ (kk : Nat), kk ≤ m1 ∧ k = .int .i64 kk ∧ wi.cell? ⟨(ad.add (j * 3)).block, (ad.add (j * 3)).off + 1, none⟩ = some (.slice B1 m1 e1) ∧ wi.cell? ⟨(ad.add (j * 3)).block, (ad.add (j * 3)).off + 2, none⟩ = some (.slice B2 m2 e2) ∧ Rw wi V2.heap.size B1 m1 B2 m2 ∧ Tb wi V2.heap.size ad ∧ Below V2.heap.size V2 wi) (fun k _ => m1 - (intOf k).toNat)
            case atStart => exact ⟨0, Nat.zero_le _, rfl, q1', q2', hR, hT, yb⟩
            case round =>
              clear q1' q2' hR hT yb
              obtain ⟨kk, hkk, rfl, q1', q2', hR, hT, yb⟩ := hrel
              by_cases hk : kk < m1
              · obtain ⟨ap, z, rfl, hB, hc, hf⟩ := hR.num kk hk
                have HR2 := hR.set hc 77
                have HT2 := hT.set hc 77
                have HQ1 := slice_set q1' hc 77
                have HQ2 := slice_set q2' hc 77
                have HY2 := yb.setCell (show V2.heap.size ≤ (ap.add kk).block by rw [block_of_add]; exact hB) (.int .u32 77)
                have i3 : (0 : Int) ≤ (kk : Int) := by omega
                have i4 : (kk : Int) < (m1 : Int) := by omega
                clear hR hT yb
                go_wp2_with fail
                go_roundw
                case rel => exact ⟨kk + 1, by omega, by go_num, HQ1, HQ2, HR2, HT2, HY2⟩
                case measure => simp [intOf]; omega
              · obtain rfl : kk = m1 := by omega
                go_wp2_with fail
                obtain ⟨wo, hwo⟩ : ∃ wo : World, wo = wr := ⟨_, rfl⟩
                subst hwo
                go_loopw [12] (fun k wi => ∃ (kj : Nat), kj ≤ m2 ∧ k = .int .i64 kj ∧ wi.cell? ⟨(ad.add (j * 3)).block, (ad.add (j * 3)).off + 1, none⟩ = some (.slice B1 kk e1) ∧ wi.cell? ⟨(ad.add (j * 3)).block, (ad.add (j * 3)).off + 2, none⟩ = some (.slice B2 m2 e2) ∧ Rw wi V2.heap.size B1 kk B2 m2 ∧ Tb wi V2.heap.size ad ∧ Below V2.heap.size V2 wi) (fun k _ => m2 - (intOf k).toNat)
                case atStart => exact ⟨0, Nat.zero_le _, rfl, q1', q2', hR, hT, yb⟩
                case round =>
                  clear q1' q2' hR hT yb
                  obtain ⟨kj, hkj, rfl, q1', q2', hR, hT, yb⟩ := hrel
                  by_cases hk : kj < m2
                  · obtain ⟨ap, z, rfl, hB, hc, hf⟩ := hR.den kj hk
                    have HR2 := hR.set hc 78
                    have HT2 := hT.set hc 78
                    have HQ1 := slice_set q1' hc 78
                    have HQ2 := slice_set q2' hc 78
                    have HY2 := yb.setCell (show V2.heap.size ≤ (ap.add kj).block by rw [block_of_add]; exact hB) (.int .u32 78)
                    have i3 : (0 : Int) ≤ (kj : Int) := by omega
                    have i4 : (kj : Int) < (m2 : Int) := by omega
                    clear hR hT yb
                    go_wp2_with fail
                    go_roundw
                    case rel => exact ⟨kj + 1, by omega, by go_num, HQ1, HQ2, HR2, HT2, HY2⟩
                    case measure => simp [intOf]; omega
                  · obtain rfl : kj = m2 := by omega
                    go_wp2_with fail
                    go_roundw
                    case rel => exact ⟨j + 1, by omega, by go_num, hT, yb⟩
                    case measure => simp [intOf]; omega
          · obtain rfl : j = 8 := by omega
            have k1 := x1.below yb
            have k2 := x2.below yb
            have k3 := x3.below yb
            have k4 := x4.below yb
            have S1 := Lib.hid (Same_any s1 s1 A5 A6 A1 A2 n1 n2 n1 n2 c5 c6 c1 c2 xs ys xs ys wr (e1.below yb) (e2.below yb) (a1.below yb) (a2.below yb) (by omega) (by omega) (by omega) (by omega) true (decide_eq_true ⟨rfl, rfl, rfl⟩).symm)
            have S2 := Lib.hid fun w' (hb : Below wr.heap.size wr w') => Same_any s2 s2 A7 A8 A3 A4 n3 n4 n3 n4 c7 c8 c3 c4 zs ts zs ts w' ((e3.below yb).below hb) ((e4.below yb).below hb) ((b1.below yb).below hb) ((b2.below yb).below hb) (by omega) (by omega) (by omega) (by omega) true (decide_eq_true ⟨rfl, rfl, rfl⟩).symm
            have yw := bthen xw yb
            have p0 := k3.c0
            have p1 := k3.c1
            have p2 := k3.c2
            have p3 := k1.c0
            have p4 := k1.c1
            have p5 := k1.c2
            clear hT gX gY
            go_wp2_with fail
            refine S1.out.mono ?_
            rintro e w7 ⟨rfl, b5⟩
            replace k2 := k2.below b5
            replace k4 := k4.below b5
            clear p0 p1 p2 p3 p4 p5
            have p0 := k4.c0
            have p1 := k4.c1
            have p2 := k4.c2
            have p3 := k2.c0
            have p4 := k2.c1
            have p5 := k2.c2
            go_wp2_with fail
            refine (S2.out _ b5).mono ?_
            rintro e w8 ⟨rfl, b6⟩
            have yz := bthen (bthen yw b5) b6
            have htx := ht.on yz
            clear p0 p1 p2 p3 p4 p5
            go_wp2_with fail
            refine (known_any _ htx).mono ?_
            rintro e w9 ⟨rfl, b9⟩
            go_wp2_with fail
            go_ret
            exact ⟨rfl, bthen yz b9⟩

theorem FracOwn_any (s1 : Bool) (A1 A2 : Option Addr) (n1 n2 c1 c2 : Nat) (s2 : Bool) (A3 A4 : Option Addr) (n3 n4 c3 c4 : Nat) (xs ys zs ts : List Nat) (w : World) (a1 : Sl w A1 n1 c1 xs) (a2 : Sl w A2 n2 c2 ys) (b1 : Sl w A3 n3 c3 zs) (b2 : Sl w A4 n4 c4 ts) (d1 : Ds xs) (d2 : Ds ys) (d3 : Ds zs) (d4 : Ds ts) (ht : Tab w) :
    Calls Tryd.prog 16 #[.agg #[.bool s1, .slice A1 n1 c1, .slice A2 n2 c2], .agg #[.bool s2, .slice A3 n3 c3, .slice A4 n4 c4]] w (ValPost (.bool true) w) := by
  by_cases hc : 12 < n1 ∨ 12 < n2 ∨ 12 < n3 ∨ 12 < n4
  · exact FracOwn_no s1 A1 A2 n1 n2 c1 c2 s2 A3 A4 n3 n4 c3 c4 w ht hc
  · exact FracOwn_yes s1 A1 A2 n1 n2 c1 c2 s2 A3 A4 n3 n4 c3 c4 xs ys zs ts w a1 a2 b1 b2 d1 d2 d3 d4 ht (by omega) (by omega) (by omega) (by omega)
end Go.Proofs.YtaahbabdbopphaaDoor
